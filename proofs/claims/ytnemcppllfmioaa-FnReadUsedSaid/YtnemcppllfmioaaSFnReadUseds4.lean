/- Lemmas for the law FnReadUsed. -/
import Derived.Test.YtnemcppllfmioaaSFnReadUseds3
namespace Go.Proofs.Ytnemcppllfmioaa.PFnReadUsed
set_option linter.unusedVariables false
set_option linter.unusedSimpArgs false
open Go Go.RowKit Go.Proofs.Ytnemcppllfmioaa.Pure Go.Proofs.YtnemcppllfmioaaW.PrintWords Go.Proofs.YtnemcppllfmioaaW.PrintLast Go.Proofs.YtnemcppllfmioaaW.PrintMore
def impl_FormulasFirst.f (l0 : List S55) (l1 : List Int) : Option (List Int) := if (∀ x ∈ l0, x.f0.length ≤ 1000000000000) ∧ l1.length ≤ 1000000000000 then some (fFirst l0 l1) else none
theorem impl_FormulasFirst.calls (A0 : Option Addr) (c0 : Nat) (l0 : List S55) (A1 : Option Addr) (c1 : Nat) (l1 : List Int) (r : List Int) (w : World) (hr0 : Kd.C k55 w A0 l0.length l0) (hc0 : l0.length ≤ c0) (hr1 : Kd.C (Kd.int .i64) w A1 l1.length l1) (hc1 : l1.length ≤ c1) (h : impl_FormulasFirst.f l0 l1 = some r) :
 Calls Try.prog 47 #[.slice A0 l0.length c0, .slice A1 l1.length c1] w fun e w' => ∃ v0_ : Value, e = .returned (v0_) ∧ Kd.R (Kd.int .i64) 3 w' w.heap.size (fun _ => True) v0_ r ∧ Below w.heap.size w w' := by
 unfold impl_FormulasFirst.f at h; split at h
 ·
  rename_i hh
  injection h with h
  have := impl_FormulasFirst_calls l0 l1 A0 c0 A1 c1 w hr0 hc0 hr1 hc1 hh.1 hh.2; rw [h] at this; exact this
 ·
  cases h

end Go.Proofs.Ytnemcppllfmioaa.PFnReadUsed
namespace Go.Proofs.Ytnemcppllfmioaa.PFnReadUsed
open Go.RowKit Go.Proofs.YtnemcppllfmioaaW.PrintWords Go.Proofs.YtnemcppllfmioaaW.PrintLast Go.Proofs.YtnemcppllfmioaaW.PrintMore
attribute [local go_sem] max2_int min2_int max_two min_two max_three min_three max_four min_four   -- for this text's walks alone
set_option linter.unusedVariables false
set_option linter.unusedSimpArgs false

mutual
def laws_FnReadUsed.j0 : Nat → List (S55) → List Int → List Int → List Int → Bool → Option (Bool)
 | 0, _, _, _, _, _ => none
 | k + 1, x3, x4, x5, x6, x39 => if x39 = true then ((laws_sameInts.f k x5 x6).bind fun t346 => (some t346)) else ((impl_FormulasFirst.f x3 x4).bind fun t347 => ((impl_FormulasBest.f x3 x4).bind fun bt350 => ((some (([] : List Int) : List Int)).bind fun y354 => (if y354.length + t347.length < 17592186044416 then ((some (y354 ++ t347 : List Int)).bind fun y357 => (if y357.length + bt350.1.length < 17592186044416 then (laws_FnReadUsed.l0 k x3 x4 x5 bt350.2 (y357 ++ bt350.1) 0) else (none))) else (none)))))
def laws_FnReadUsed.l0 : Nat → List (S55) → List Int → List Int → Bool → List Int → Int → Option (Bool)
 | 0, _, _, _, _, _, _ => none
 | k + 1, x3, x4, x5, x9, x10, x11 => if x11 < (x10.length : Int) then (if 0 ≤ x11 then ((laws_hasNumber.f k x5 (rd x10 x11)).bind fun t364 => (if t364 = true then (laws_FnReadUsed.l0 k x3 x4 x5 x9 x10 (wrap64 (x11 + 1))) else (some false))) else (none)) else ((impl_FormulasMany.f x3 x4).bind fun t365 => (laws_FnReadUsed.l1 k x3 x4 x5 x9 t365 0))
def laws_FnReadUsed.l1 : Nat → List (S55) → List Int → List Int → Bool → Int → Int → Option (Bool)
 | 0, _, _, _, _, _, _ => none
 | k + 1, x3, x4, x5, x9, x12, x13 => if x13 < (x3.length : Int) then ((impl_FormulasWithout.f x3 x13).bind fun bt366 => ((impl_FormulasMany.f bt366.1 x4).bind fun t370 => (if bt366.2 = true then (if t370 > x12 then (some false) else ((laws_hasNumber.f k x5 x13).bind fun t371 => (if ((decide (t370 < x12)) != t371) = true then (some false) else (laws_FnReadUsed.l1 k x3 x4 x5 x9 x12 (wrap64 (x13 + 1)))))) else (some false)))) else (some x9)
end
def laws_FnReadUsed.f (k : Nat) (l0 : List Int) : Option (Bool) := if (l0.length : Int) > 1048576 then (some true) else ((spec_DrawFormulasUsed.f k l0).bind fun bt333 => ((impl_FormulasUsed.f bt333.1 bt333.2).bind fun t339 => ((spec_FormulasUsed.f k bt333.1 bt333.2).bind fun t342 => ((laws_sameInts.f k t339 t342).bind fun t345 => (if t345 = true then (laws_FnReadUsed.j0 k bt333.1 bt333.2 t339 t342 ((t339.length : Int) == 0)) else (laws_FnReadUsed.j0 k bt333.1 bt333.2 t339 t342 true))))))
set_option maxHeartbeats 8000000 in
set_option maxRecDepth 100000 in
theorem laws_FnReadUsed.calls (k : Nat) (A0 : Option Addr) (c0 : Nat) (l0 : List Int) (r : Bool) (w : World) (hr0 : Kd.C (Kd.int .u8) w A0 l0.length l0) (hc0 : l0.length ≤ c0) (h : laws_FnReadUsed.f k l0 = some r) :
 Calls Try.prog 9 #[.slice A0 l0.length c0] w fun e w' => e = .returned (.bool r) ∧ Below w.heap.size w w' := by
 have HR0 := Aside0.mk hr0; have HC0 := Aside0.mk hc0; clear hr0 hc0; have HB := Aside0.mk (Below.refl w.heap.size w); have H : (if (l0.length : Int) > 1048576 then (some true) else ((spec_DrawFormulasUsed.f k l0).bind fun bt333 => ((impl_FormulasUsed.f bt333.1 bt333.2).bind fun t339 => ((spec_FormulasUsed.f k bt333.1 bt333.2).bind fun t342 => ((laws_sameInts.f k t339 t342).bind fun t345 => (if t345 = true then (laws_FnReadUsed.j0 k bt333.1 bt333.2 t339 t342 ((t339.length : Int) == 0)) else (laws_FnReadUsed.j0 k bt333.1 bt333.2 t339 t342 true))))))) = some r := h; clear h; by_cases c2 : (l0.length : Int) > 1048576
 ·
  rw [if_pos c2] at H; have c2b0 : decide (1048576 < (l0.length : Int)) = true := decide_eq_true c2; have c2b1 : decide (1048576 < l0.length) = true := decide_eq_true (by omega); clear c2; obtain rfl := Option.some.inj H; go_enter Try.func9, Try.ntmps9
  go_wp2; go_ret
  exact ⟨by first | rfl | (simp [errW_none, errW_some] <;> rfl) | (simp [*, errW_none, errW_some] <;> rfl), by repeat (first | (with_reducible first | exact HB.out | apply below_alloc | apply pw_below_drewN | apply below_drew1) | exact HB.out)⟩
 ·
  rw [if_neg c2] at H; have c2b0 : decide (1048576 < (l0.length : Int)) = false := decide_eq_false c2; have c2b1 : decide (1048576 < l0.length) = false := decide_eq_false (by omega); clear c2; replace H := Option.bind_eq_some_iff.mp H; obtain ⟨⟨t333, t336⟩, A30, H⟩ := H; replace H : ((impl_FormulasUsed.f t333 t336).bind fun t339 => ((spec_FormulasUsed.f k t333 t336).bind fun t342 => ((laws_sameInts.f k t339 t342).bind fun t345 => (if t345 = true then (laws_FnReadUsed.j0 k t333 t336 t339 t342 ((t339.length : Int) == 0)) else (laws_FnReadUsed.j0 k t333 t336 t339 t342 true))))) = some r := H; have A3 := Aside0.mk A30; clear A30; replace H := Option.bind_eq_some_iff.mp H; obtain ⟨t339, A40, H⟩ := H; replace H : ((spec_FormulasUsed.f k t333 t336).bind fun t342 => ((laws_sameInts.f k t339 t342).bind fun t345 => (if t345 = true then (laws_FnReadUsed.j0 k t333 t336 t339 t342 ((t339.length : Int) == 0)) else (laws_FnReadUsed.j0 k t333 t336 t339 t342 true)))) = some r := H; have A4 := Aside0.mk A40; clear A40; replace H := Option.bind_eq_some_iff.mp H; obtain ⟨t342, A50, H⟩ := H; replace H : ((laws_sameInts.f k t339 t342).bind fun t345 => (if t345 = true then (laws_FnReadUsed.j0 k t333 t336 t339 t342 ((t339.length : Int) == 0)) else (laws_FnReadUsed.j0 k t333 t336 t339 t342 true))) = some r := H; have A5 := Aside0.mk A50; clear A50; have HC6 := Aside0.mk H; clear H; go_enter Try.func9, Try.ntmps9
  go_upto_region 6 with (first | ((with_reducible refine gate_callee (f := 46) rfl ?_); refine goesL_ (some 22) rfl rfl Try.func46 (by kernel_rfl) rfl #[.slice A0 l0.length c0] rfl (by (try simp only [List.map_toArray, List.map_cons, List.map_nil]); first | done | rfl | (simp only [List.length_drop, List.length_take]; rfl)) ?_; (with_reducible refine (spec_DrawFormulasUsed.calls k _ _ l0 t333 t336 _ ?side1 ?side2 A3.out).mono ?_); (case side1 => repeat (first | exact HR0.out | (with_reducible refine Kd.C_alloc ?_ _) | (with_reducible refine Kd.C_drewN ?_ _) | (with_reducible refine Kd.C_drew ?_))); (case side2 => exact HC0.out); rintro e w7 ⟨v334, v337, rfl, ho0, ho1, hb⟩; refine ⟨_, rfl, ?_⟩; have n0_ := Aside0.mk (Kd.N_lower (Kd.N_mono (ok' := fun k_ => some k_ ≠ (v337 : Value).ownBlock) ho0 (fun k_ hk_ => hk_.2)) (below_size (by repeat (first | (with_reducible first | exact HB.out | apply below_alloc | apply pw_below_drewN | apply below_drew1) | exact HB.out)))); have n1_ := Aside0.mk (Kd.R_lower (Kd.R_mono (ok' := fun k_ => True) ho1 (fun _ hk_ => trivial)) (below_size (by repeat (first | (with_reducible first | exact HB.out | apply below_alloc | apply pw_below_drewN | apply below_drew1) | exact HB.out)))); have n2_ := Aside0.mk (below_step (by repeat (first | (with_reducible first | exact HB.out | apply below_alloc | apply pw_below_drewN | apply below_drew1) | exact HB.out)) hb); clear HB; have HO335 := n0_; have HO338 := n1_; have HB := n2_; clear n0_ n1_ n2_; (try clear hb); (try clear hb2); (try clear hk); (try clear hi); (try clear ho0); (try clear ho1); obtain ⟨Ao8, co8, eo8⟩ := Kd.N_slice HO335.out; subst eo8; obtain ⟨Ao9, co9, eo9⟩ := Kd.R_slice HO338.out; subst eo9) | ((with_reducible refine gate_callee (f := 35) rfl ?_); refine goesL_ (some 27) rfl rfl Try.func35 (by kernel_rfl) rfl #[.slice Ao8 t333.length co8, .slice Ao9 t336.length co9] rfl (by (try simp only [List.map_toArray, List.map_cons, List.map_nil]); first | done | rfl | (simp only [List.length_drop, List.length_take]; rfl)) ?_; (with_reducible refine (impl_FormulasUsed.calls _ _ t333 _ _ t336 t339 _ ?side1 ?side2 ?side3 ?side4 A4.out).mono ?_); (case side1 => repeat (first | exact (Kd.N_reads' HO335.out).2.2 | (with_reducible refine Kd.C_alloc ?_ _) | (with_reducible refine Kd.C_drewN ?_ _) | (with_reducible refine Kd.C_drew ?_))); (case side2 => exact (Kd.N_reads' HO335.out).2.1); (case side3 => repeat (first | exact (Kd.R_reads' HO338.out).2.2 | (with_reducible refine Kd.C_alloc ?_ _) | (with_reducible refine Kd.C_drewN ?_ _) | (with_reducible refine Kd.C_drew ?_))); (case side4 => exact (Kd.R_reads' HO338.out).2.1); rintro e w10 ⟨v340, rfl, ho0, hb⟩; refine ⟨_, rfl, ?_⟩; have n0_ := Aside0.mk (Kd.N_elder' (by (with_reducible repeat (first | apply Kd.N_alloc | apply Kd.N_drewN | apply Kd.N_drew)); exact HO335.out) (Kd.R_base ho0) hb); have n1_ := Aside0.mk (Kd.R_elder' (by (with_reducible repeat (first | apply Kd.R_alloc | apply Kd.R_drewN | apply Kd.R_drew)); exact HO338.out) (Kd.R_base ho0) hb); have n2_ := Aside0.mk (Kd.R_lower (Kd.R_new' ho0 (Kd.R_lt (by (with_reducible repeat (first | apply Kd.R_alloc | apply Kd.R_drewN | apply Kd.R_drew)); exact HO338.out))) (below_size (by repeat (first | (with_reducible first | exact HB.out | apply below_alloc | apply pw_below_drewN | apply below_drew1) | exact HB.out)))); have n3_ := Aside0.mk (below_step (by repeat (first | (with_reducible first | exact HB.out | apply below_alloc | apply pw_below_drewN | apply below_drew1) | exact HB.out)) hb); clear HO335; clear HO338; clear HB; have HO335 := n0_; have HO338 := n1_; have HO341 := n2_; have HB := n3_; clear n0_ n1_ n2_ n3_; (try clear hb); (try clear hb2); (try clear hk); (try clear hi); (try clear ho0)) | ((with_reducible refine gate_callee (f := 33) rfl ?_); refine goesL_ (some 30) rfl rfl Try.func33 (by kernel_rfl) rfl #[.slice Ao8 t333.length co8, .slice Ao9 t336.length co9] rfl (by (try simp only [List.map_toArray, List.map_cons, List.map_nil]); first | done | rfl | (simp only [List.length_drop, List.length_take]; rfl)) ?_; (with_reducible refine (spec_FormulasUsed.calls k _ _ t333 _ _ t336 t342 _ ?side1 ?side2 ?side3 ?side4 A5.out).mono ?_); (case side1 => repeat (first | exact (Kd.N_reads' HO335.out).2.2 | (with_reducible refine Kd.C_alloc ?_ _) | (with_reducible refine Kd.C_drewN ?_ _) | (with_reducible refine Kd.C_drew ?_))); (case side2 => exact (Kd.N_reads' HO335.out).2.1); (case side3 => repeat (first | exact (Kd.R_reads' HO338.out).2.2 | (with_reducible refine Kd.C_alloc ?_ _) | (with_reducible refine Kd.C_drewN ?_ _) | (with_reducible refine Kd.C_drew ?_))); (case side4 => exact (Kd.R_reads' HO338.out).2.1); rintro e w11 ⟨v343, rfl, ho0, hb⟩; refine ⟨_, rfl, ?_⟩; have n0_ := Aside0.mk (Kd.N_elder' (by (with_reducible repeat (first | apply Kd.N_alloc | apply Kd.N_drewN | apply Kd.N_drew)); exact HO335.out) (Kd.R_base ho0) hb); have n1_ := Aside0.mk (Kd.R_elder' (by (with_reducible repeat (first | apply Kd.R_alloc | apply Kd.R_drewN | apply Kd.R_drew)); exact HO338.out) (Kd.R_base ho0) hb); have n2_ := Aside0.mk (Kd.R_elder' (by (with_reducible repeat (first | apply Kd.R_alloc | apply Kd.R_drewN | apply Kd.R_drew)); exact HO341.out) (Kd.R_base ho0) hb); have n3_ := Aside0.mk (Kd.R_lower (Kd.R_new' (Kd.R_new' ho0 (Kd.R_lt (by (with_reducible repeat (first | apply Kd.R_alloc | apply Kd.R_drewN | apply Kd.R_drew)); exact HO338.out))) (Kd.R_lt (by (with_reducible repeat (first | apply Kd.R_alloc | apply Kd.R_drewN | apply Kd.R_drew)); exact HO341.out))) (below_size (by repeat (first | (with_reducible first | exact HB.out | apply below_alloc | apply pw_below_drewN | apply below_drew1) | exact HB.out)))); have n4_ := Aside0.mk (below_step (by repeat (first | (with_reducible first | exact HB.out | apply below_alloc | apply pw_below_drewN | apply below_drew1) | exact HB.out)) hb); clear HO335; clear HO338; clear HO341; clear HB; have HO335 := n0_; have HO338 := n1_; have HO341 := n2_; have HO344 := n3_; have HB := n4_; clear n0_ n1_ n2_ n3_ n4_; (try clear hb); (try clear hb2); (try clear hk); (try clear hi); (try clear ho0)))
  (try simp only [Act.put, List.setIfInBounds_toArray, List.set_cons_zero, List.set_cons_succ])
  go_cut [39] (fun v39 wc => ∃ (kq : Nat) (x39_5 : Bool), v39 = .bool x39_5 ∧ Aside0 (laws_FnReadUsed.j0 kq t333 t336 t339 t342 x39_5 = some r) ∧ Aside0 (kq ≤ k) ∧ Aside0 (Kd.N k55 55 wc w.heap.size (fun k_ => some k_ ≠ ((.slice Ao9 t336.length co9) : Value).ownBlock ∧ some k_ ≠ (v340 : Value).ownBlock ∧ some k_ ≠ (v343 : Value).ownBlock) (.slice Ao8 t333.length co8) t333) ∧ Aside0 (Kd.R (Kd.int .i64) 3 wc w.heap.size (fun k_ => some k_ ≠ (v340 : Value).ownBlock ∧ some k_ ≠ (v343 : Value).ownBlock) (.slice Ao9 t336.length co9) t336) ∧ Aside0 (Kd.R (Kd.int .i64) 3 wc w.heap.size (fun k_ => some k_ ≠ ((.slice Ao9 t336.length co9) : Value).ownBlock ∧ some k_ ≠ (v343 : Value).ownBlock) v340 t339) ∧ Aside0 (Kd.R (Kd.int .i64) 3 wc w.heap.size (fun k_ => some k_ ≠ ((.slice Ao9 t336.length co9) : Value).ownBlock ∧ some k_ ≠ (v340 : Value).ownBlock) v343 t342) ∧ Aside0 (Below w.heap.size w wc))
  case first =>
   have H := HC6.out; clear HC6; replace H := Option.bind_eq_some_iff.mp H; obtain ⟨t345, A120, H⟩ := H; replace H : (if t345 = true then (laws_FnReadUsed.j0 k t333 t336 t339 t342 ((t339.length : Int) == 0)) else (laws_FnReadUsed.j0 k t333 t336 t339 t342 true)) = some r := H; have A12 := Aside0.mk A120; clear A120; by_cases c13 : t345 = true
   ·
    subst c13; have H1 : (laws_FnReadUsed.j0 k t333 t336 t339 t342 ((t339.length : Int) == 0)) = some r := by rw [if_pos rfl] at H; exact H
    clear H; have H := H1; clear H1; have H' := Aside0.mk H; clear H; obtain ⟨Ao14, co14, eo14⟩ := Kd.R_slice HO341.out; subst eo14; obtain ⟨Ao15, co15, eo15⟩ := Kd.R_slice HO344.out; subst eo15; go_wp2_with (first | ((with_reducible refine gate_callee (f := 31) rfl ?_); refine goesL_ (some 33) rfl rfl Try.func31 (by kernel_rfl) rfl #[.slice Ao14 t339.length co14, .slice Ao15 t342.length co15] rfl (by (try simp only [List.map_toArray, List.map_cons, List.map_nil]); first | done | rfl | (simp only [List.length_drop, List.length_take]; rfl)) ?_; (with_reducible refine (laws_sameInts.calls k _ _ t339 _ _ t342 true _ ?side1 ?side2 ?side3 ?side4 A12.out).mono ?_); (case side1 => repeat (first | exact (Kd.R_reads' HO341.out).2.2 | (with_reducible refine Kd.C_alloc ?_ _) | (with_reducible refine Kd.C_drewN ?_ _) | (with_reducible refine Kd.C_drew ?_))); (case side2 => exact (Kd.R_reads' HO341.out).2.1); (case side3 => repeat (first | exact (Kd.R_reads' HO344.out).2.2 | (with_reducible refine Kd.C_alloc ?_ _) | (with_reducible refine Kd.C_drewN ?_ _) | (with_reducible refine Kd.C_drew ?_))); (case side4 => exact (Kd.R_reads' HO344.out).2.1); rintro e w' ⟨rfl, ⟨nd, rfl⟩⟩; refine ⟨_, rfl, ?_⟩))
    go_meet
    case rel => exact ⟨_, (((t339.length : Int) == 0)), (by first | rfl | (simp; done) | (simp [*]; done)), H', ⟨by first | omega | exact Nat.le_refl _⟩, ⟨by (with_reducible repeat (first | apply Kd.N_alloc | apply Kd.N_drewN | apply Kd.N_drew)); exact Kd.N_mono HO335.out (fun _ hk => ⟨hk.1.1, ⟨hk.1.2, hk.2⟩⟩)⟩, ⟨by (with_reducible repeat (first | apply Kd.R_alloc | apply Kd.R_drewN | apply Kd.R_drew)); exact Kd.R_mono HO338.out (fun _ hk => ⟨hk.1.2, hk.2⟩)⟩, ⟨by (with_reducible repeat (first | apply Kd.R_alloc | apply Kd.R_drewN | apply Kd.R_drew)); exact Kd.R_mono HO341.out (fun _ hk => ⟨hk.1.2, hk.2⟩)⟩, ⟨by (with_reducible repeat (first | apply Kd.R_alloc | apply Kd.R_drewN | apply Kd.R_drew)); exact Kd.R_mono HO344.out (fun _ hk => ⟨hk.1.2, hk.2⟩)⟩, ⟨by repeat (first | (with_reducible first | exact HB.out | apply below_alloc | apply pw_below_drewN | apply below_drew1) | exact HB.out)⟩⟩
   ·
    replace c13 := Bool.eq_false_iff.mpr c13; subst c13; have H1 : (laws_FnReadUsed.j0 k t333 t336 t339 t342 true) = some r := by rw [if_neg (show ¬ (false = true) by decide)] at H; exact H
    clear H; have H := H1; clear H1; have H' := Aside0.mk H; clear H; obtain ⟨Ao16, co16, eo16⟩ := Kd.R_slice HO341.out; subst eo16; obtain ⟨Ao17, co17, eo17⟩ := Kd.R_slice HO344.out; subst eo17; go_wp2_with (first | ((with_reducible refine gate_callee (f := 31) rfl ?_); refine goesL_ (some 33) rfl rfl Try.func31 (by kernel_rfl) rfl #[.slice Ao16 t339.length co16, .slice Ao17 t342.length co17] rfl (by (try simp only [List.map_toArray, List.map_cons, List.map_nil]); first | done | rfl | (simp only [List.length_drop, List.length_take]; rfl)) ?_; (with_reducible refine (laws_sameInts.calls k _ _ t339 _ _ t342 false _ ?side1 ?side2 ?side3 ?side4 A12.out).mono ?_); (case side1 => repeat (first | exact (Kd.R_reads' HO341.out).2.2 | (with_reducible refine Kd.C_alloc ?_ _) | (with_reducible refine Kd.C_drewN ?_ _) | (with_reducible refine Kd.C_drew ?_))); (case side2 => exact (Kd.R_reads' HO341.out).2.1); (case side3 => repeat (first | exact (Kd.R_reads' HO344.out).2.2 | (with_reducible refine Kd.C_alloc ?_ _) | (with_reducible refine Kd.C_drewN ?_ _) | (with_reducible refine Kd.C_drew ?_))); (case side4 => exact (Kd.R_reads' HO344.out).2.1); rintro e w' ⟨rfl, ⟨nd, rfl⟩⟩; refine ⟨_, rfl, ?_⟩))
    go_meet
    case rel => exact ⟨_, (true), (by first | rfl | (simp; done) | (simp [*]; done)), H', ⟨by first | omega | exact Nat.le_refl _⟩, ⟨by (with_reducible repeat (first | apply Kd.N_alloc | apply Kd.N_drewN | apply Kd.N_drew)); exact Kd.N_mono HO335.out (fun _ hk => ⟨hk.1.1, ⟨hk.1.2, hk.2⟩⟩)⟩, ⟨by (with_reducible repeat (first | apply Kd.R_alloc | apply Kd.R_drewN | apply Kd.R_drew)); exact Kd.R_mono HO338.out (fun _ hk => ⟨hk.1.2, hk.2⟩)⟩, ⟨by (with_reducible repeat (first | apply Kd.R_alloc | apply Kd.R_drewN | apply Kd.R_drew)); exact Kd.R_mono HO341.out (fun _ hk => ⟨hk.1.2, hk.2⟩)⟩, ⟨by (with_reducible repeat (first | apply Kd.R_alloc | apply Kd.R_drewN | apply Kd.R_drew)); exact Kd.R_mono HO344.out (fun _ hk => ⟨hk.1.2, hk.2⟩)⟩, ⟨by repeat (first | (with_reducible first | exact HB.out | apply below_alloc | apply pw_below_drewN | apply below_drew1) | exact HB.out)⟩⟩
  case rest =>
   clear HC6; try clear c1
   try clear c2
   try clear c2b0
   try clear c2b1
   try clear p2
   try clear c3
   try clear c4
   try clear c9
   try clear c13
   obtain ⟨kq, x39_5, rfl, HA, HJ5, HO_3, HO_4, HO_5, HO_6, HB⟩ := hcut; cases kq with
   | zero => exact absurd HA.out (by simp [laws_FnReadUsed.j0])
   | succ kj5 =>
    have H := HA.out; clear HA; simp only [laws_FnReadUsed.j0] at H; by_cases c18 : x39_5 = true
    ·
     subst c18; have H1 : ((laws_sameInts.f kj5 t339 t342).bind fun t346 => (some t346)) = some r := by rw [if_pos rfl] at H; exact H
     clear H; have H := H1; clear H1; replace H := Option.bind_eq_some_iff.mp H; obtain ⟨t346, A190, H⟩ := H; replace H : (some t346) = some r := H; have A19 := Aside0.mk A190; clear A190; obtain rfl := Option.some.inj H; obtain ⟨Ao20, co20, eo20⟩ := Kd.R_slice HO_5.out; subst eo20; obtain ⟨Ao21, co21, eo21⟩ := Kd.R_slice HO_6.out; subst eo21; go_wp2_with (first | ((with_reducible refine gate_callee (f := 31) rfl ?_); refine goesL_ (some 42) rfl rfl Try.func31 (by kernel_rfl) rfl #[.slice Ao20 t339.length co20, .slice Ao21 t342.length co21] rfl (by (try simp only [List.map_toArray, List.map_cons, List.map_nil]); first | done | rfl | (simp only [List.length_drop, List.length_take]; rfl)) ?_; (with_reducible refine (laws_sameInts.calls kj5 _ _ t339 _ _ t342 t346 _ ?side1 ?side2 ?side3 ?side4 A19.out).mono ?_); (case side1 => repeat (first | exact (Kd.R_reads' HO_5.out).2.2 | (with_reducible refine Kd.C_alloc ?_ _) | (with_reducible refine Kd.C_drewN ?_ _) | (with_reducible refine Kd.C_drew ?_))); (case side2 => exact (Kd.R_reads' HO_5.out).2.1); (case side3 => repeat (first | exact (Kd.R_reads' HO_6.out).2.2 | (with_reducible refine Kd.C_alloc ?_ _) | (with_reducible refine Kd.C_drewN ?_ _) | (with_reducible refine Kd.C_drew ?_))); (case side4 => exact (Kd.R_reads' HO_6.out).2.1); rintro e w' ⟨rfl, ⟨nd, rfl⟩⟩; refine ⟨_, rfl, ?_⟩))
     go_ret
     exact ⟨by first | rfl | (simp [errW_none, errW_some] <;> rfl) | (simp [*, errW_none, errW_some] <;> rfl), by repeat (first | (with_reducible first | exact HB.out | apply below_alloc | apply pw_below_drewN | apply below_drew1) | exact HB.out)⟩
    ·
     replace c18 := Bool.eq_false_iff.mpr c18; subst c18; have H1 : ((impl_FormulasFirst.f t333 t336).bind fun t347 => ((impl_FormulasBest.f t333 t336).bind fun bt350 => ((some (([] : List Int) : List Int)).bind fun y354 => (if y354.length + t347.length < 17592186044416 then ((some (y354 ++ t347 : List Int)).bind fun y357 => (if y357.length + bt350.1.length < 17592186044416 then (laws_FnReadUsed.l0 kj5 t333 t336 t339 bt350.2 (y357 ++ bt350.1) 0) else (none))) else (none))))) = some r := by rw [if_neg (show ¬ (false = true) by decide)] at H; exact H
     clear H; have H := H1; clear H1; replace H := Option.bind_eq_some_iff.mp H; obtain ⟨t347, A220, H⟩ := H; replace H : ((impl_FormulasBest.f t333 t336).bind fun bt350 => ((some (([] : List Int) : List Int)).bind fun y354 => (if y354.length + t347.length < 17592186044416 then ((some (y354 ++ t347 : List Int)).bind fun y357 => (if y357.length + bt350.1.length < 17592186044416 then (laws_FnReadUsed.l0 kj5 t333 t336 t339 bt350.2 (y357 ++ bt350.1) 0) else (none))) else (none)))) = some r := H; have A22 := Aside0.mk A220; clear A220; replace H := Option.bind_eq_some_iff.mp H; obtain ⟨⟨t350, t351⟩, A230, H⟩ := H; replace H : ((some (([] : List Int) : List Int)).bind fun y354 => (if y354.length + t347.length < 17592186044416 then ((some (y354 ++ t347 : List Int)).bind fun y357 => (if y357.length + t350.length < 17592186044416 then (laws_FnReadUsed.l0 kj5 t333 t336 t339 t351 (y357 ++ t350) 0) else (none))) else (none))) = some r := H; have A23 := Aside0.mk A230; clear A230; obtain ⟨y354, hy354⟩ : ∃ y_ : List Int, y_ = (([] : List Int)) := ⟨_, rfl⟩
     replace H : (if y354.length + t347.length < 17592186044416 then ((some (y354 ++ t347 : List Int)).bind fun y357 => (if y357.length + t350.length < 17592186044416 then (laws_FnReadUsed.l0 kj5 t333 t336 t339 t351 (y357 ++ t350) 0) else (none))) else (none)) = some r := by first | (rw [hy354]; with_reducible exact H) | (have H2_ := (Option.bind_some _ _).symm.trans H; rw [hy354]; with_reducible exact H2_) | (have H2_ := (Option.bind_some _ _).symm.trans H; with_reducible exact H2_) | with_reducible exact H | (rw [hy354]; exact H) | exact H
     have Ny354 := Aside0.mk hy354; clear hy354; by_cases c24 : y354.length + t347.length < 17592186044416
     ·
      rw [if_pos c24] at H; have LMc24 := Aside0.mk c24; clear c24; obtain ⟨y357, hy357⟩ : ∃ y_ : List Int, y_ = (y354 ++ t347) := ⟨_, rfl⟩
      replace H : (if y357.length + t350.length < 17592186044416 then (laws_FnReadUsed.l0 kj5 t333 t336 t339 t351 (y357 ++ t350) 0) else (none)) = some r := by first | (rw [hy357]; with_reducible exact H) | (have H2_ := (Option.bind_some _ _).symm.trans H; rw [hy357]; with_reducible exact H2_) | (have H2_ := (Option.bind_some _ _).symm.trans H; with_reducible exact H2_) | with_reducible exact H | (rw [hy357]; exact H) | exact H
      have Ny357 := Aside0.mk hy357; clear hy357; by_cases c25 : y357.length + t350.length < 17592186044416
      ·
       rw [if_pos c25] at H; have LMc25 := Aside0.mk c25; clear c25; obtain ⟨y360, hy360⟩ : ∃ y_ : List Int, y_ = (y357 ++ t350) := ⟨_, rfl⟩
       replace H : (laws_FnReadUsed.l0 kj5 t333 t336 t339 t351 y360 0) = some r := by first | (rw [hy360]; with_reducible exact H) | (have H2_ := (Option.bind_some _ _).symm.trans H; rw [hy360]; with_reducible exact H2_) | (have H2_ := (Option.bind_some _ _).symm.trans H; with_reducible exact H2_) | with_reducible exact H | (rw [hy360]; exact H) | exact H
       have Ny360 := Aside0.mk hy360; clear hy360; have H' := Aside0.mk H; clear H; go_wp2_with (first | ((with_reducible refine gate_callee (f := 47) rfl ?_); refine goesL_ (some 45) rfl rfl Try.func47 (by kernel_rfl) rfl #[.slice Ao8 t333.length co8, .slice Ao9 t336.length co9] rfl (by (try simp only [List.map_toArray, List.map_cons, List.map_nil]); first | done | rfl | (simp only [List.length_drop, List.length_take]; rfl)) ?_; (with_reducible refine (impl_FormulasFirst.calls _ _ t333 _ _ t336 t347 _ ?side1 ?side2 ?side3 ?side4 A22.out).mono ?_); (case side1 => repeat (first | exact (Kd.N_reads' HO_3.out).2.2 | (with_reducible refine Kd.C_alloc ?_ _) | (with_reducible refine Kd.C_drewN ?_ _) | (with_reducible refine Kd.C_drew ?_))); (case side2 => exact (Kd.N_reads' HO_3.out).2.1); (case side3 => repeat (first | exact (Kd.R_reads' HO_4.out).2.2 | (with_reducible refine Kd.C_alloc ?_ _) | (with_reducible refine Kd.C_drewN ?_ _) | (with_reducible refine Kd.C_drew ?_))); (case side4 => exact (Kd.R_reads' HO_4.out).2.1); rintro e w26 ⟨v348, rfl, ho0, hb⟩; refine ⟨_, rfl, ?_⟩; have n0_ := Aside0.mk (Kd.N_elder' (by (with_reducible repeat (first | apply Kd.N_alloc | apply Kd.N_drewN | apply Kd.N_drew)); exact HO_3.out) (Kd.R_base ho0) hb); have n1_ := Aside0.mk (Kd.R_elder' (by (with_reducible repeat (first | apply Kd.R_alloc | apply Kd.R_drewN | apply Kd.R_drew)); exact HO_4.out) (Kd.R_base ho0) hb); have n2_ := Aside0.mk (Kd.R_elder' (by (with_reducible repeat (first | apply Kd.R_alloc | apply Kd.R_drewN | apply Kd.R_drew)); exact HO_5.out) (Kd.R_base ho0) hb); have n3_ := Aside0.mk (Kd.R_elder' (by (with_reducible repeat (first | apply Kd.R_alloc | apply Kd.R_drewN | apply Kd.R_drew)); exact HO_6.out) (Kd.R_base ho0) hb); have n4_ := Aside0.mk (Kd.R_lower (Kd.R_new' (Kd.R_new' (Kd.R_new' ho0 (Kd.R_lt (by (with_reducible repeat (first | apply Kd.R_alloc | apply Kd.R_drewN | apply Kd.R_drew)); exact HO_4.out))) (Kd.R_lt (by (with_reducible repeat (first | apply Kd.R_alloc | apply Kd.R_drewN | apply Kd.R_drew)); exact HO_5.out))) (Kd.R_lt (by (with_reducible repeat (first | apply Kd.R_alloc | apply Kd.R_drewN | apply Kd.R_drew)); exact HO_6.out))) (below_size (by repeat (first | (with_reducible first | exact HB.out | apply below_alloc | apply pw_below_drewN | apply below_drew1) | exact HB.out)))); have n5_ := Aside0.mk (below_step (by repeat (first | (with_reducible first | exact HB.out | apply below_alloc | apply pw_below_drewN | apply below_drew1) | exact HB.out)) hb); clear HO_3; clear HO_4; clear HO_5; clear HO_6; clear HB; have HO_3 := n0_; have HO_4 := n1_; have HO_5 := n2_; have HO_6 := n3_; have HO349 := n4_; have HB := n5_; clear n0_ n1_ n2_ n3_ n4_ n5_; (try clear hb); (try clear hb2); (try clear hk); (try clear hi); (try clear ho0)) | ((with_reducible refine gate_callee (f := 29) rfl ?_); refine goesL_ (some 49) rfl rfl Try.func29 (by kernel_rfl) rfl #[.slice Ao8 t333.length co8, .slice Ao9 t336.length co9] rfl (by (try simp only [List.map_toArray, List.map_cons, List.map_nil]); first | done | rfl | (simp only [List.length_drop, List.length_take]; rfl)) ?_; (with_reducible refine (impl_FormulasBest.calls _ _ t333 _ _ t336 t350 t351 _ ?side1 ?side2 ?side3 ?side4 A23.out).mono ?_); (case side1 => repeat (first | exact (Kd.N_reads' HO_3.out).2.2 | (with_reducible refine Kd.C_alloc ?_ _) | (with_reducible refine Kd.C_drewN ?_ _) | (with_reducible refine Kd.C_drew ?_))); (case side2 => exact (Kd.N_reads' HO_3.out).2.1); (case side3 => repeat (first | exact (Kd.R_reads' HO_4.out).2.2 | (with_reducible refine Kd.C_alloc ?_ _) | (with_reducible refine Kd.C_drewN ?_ _) | (with_reducible refine Kd.C_drew ?_))); (case side4 => exact (Kd.R_reads' HO_4.out).2.1); rintro e w27 ⟨v352, rfl, ho0, hb⟩; refine ⟨_, rfl, ?_⟩; have n0_ := Aside0.mk (Kd.N_elder' (by (with_reducible repeat (first | apply Kd.N_alloc | apply Kd.N_drewN | apply Kd.N_drew)); exact HO_3.out) (Kd.R_base ho0) hb); have n1_ := Aside0.mk (Kd.R_elder' (by (with_reducible repeat (first | apply Kd.R_alloc | apply Kd.R_drewN | apply Kd.R_drew)); exact HO_4.out) (Kd.R_base ho0) hb); have n2_ := Aside0.mk (Kd.R_elder' (by (with_reducible repeat (first | apply Kd.R_alloc | apply Kd.R_drewN | apply Kd.R_drew)); exact HO_5.out) (Kd.R_base ho0) hb); have n3_ := Aside0.mk (Kd.R_elder' (by (with_reducible repeat (first | apply Kd.R_alloc | apply Kd.R_drewN | apply Kd.R_drew)); exact HO_6.out) (Kd.R_base ho0) hb); have n4_ := Aside0.mk (Kd.R_elder' (by (with_reducible repeat (first | apply Kd.R_alloc | apply Kd.R_drewN | apply Kd.R_drew)); exact HO349.out) (Kd.R_base ho0) hb); have n5_ := Aside0.mk (Kd.R_lower (Kd.R_new' (Kd.R_new' (Kd.R_new' (Kd.R_new' ho0 (Kd.R_lt (by (with_reducible repeat (first | apply Kd.R_alloc | apply Kd.R_drewN | apply Kd.R_drew)); exact HO_4.out))) (Kd.R_lt (by (with_reducible repeat (first | apply Kd.R_alloc | apply Kd.R_drewN | apply Kd.R_drew)); exact HO_5.out))) (Kd.R_lt (by (with_reducible repeat (first | apply Kd.R_alloc | apply Kd.R_drewN | apply Kd.R_drew)); exact HO_6.out))) (Kd.R_lt (by (with_reducible repeat (first | apply Kd.R_alloc | apply Kd.R_drewN | apply Kd.R_drew)); exact HO349.out))) (below_size (by repeat (first | (with_reducible first | exact HB.out | apply below_alloc | apply pw_below_drewN | apply below_drew1) | exact HB.out)))); have n6_ := Aside0.mk (below_step (by repeat (first | (with_reducible first | exact HB.out | apply below_alloc | apply pw_below_drewN | apply below_drew1) | exact HB.out)) hb); clear HO_3; clear HO_4; clear HO_5; clear HO_6; clear HO349; clear HB; have HO_3 := n0_; have HO_4 := n1_; have HO_5 := n2_; have HO_6 := n3_; have HO349 := n4_; have HO353 := n5_; have HB := n6_; clear n0_ n1_ n2_ n3_ n4_ n5_ n6_; (try clear hb); (try clear hb2); (try clear hk); (try clear hi); (try clear ho0)) | ((with_reducible refine gate_dst (N := 52) rfl ?_); (try (refine gate_guard (by rfl) ?_; dsimp only)); refine Kd.R_lit (Kd.int .i64) _ 3 ?hg (N := 52) ?hd (xs := ([] : List Int)) (inner := []) (ok := fun _ => True) (okp := fun _ => True) ?hr ?hp (fun _ hk => hk) trivial (Below.refl _ _) (Nat.le_refl _) (by simp) ?_; (case hd => rfl); (case hg => rfl); (case hr => first | (go_simp; done) | (go_simp; rfl)); (case hp => exact (Reps.none _ _)); intro v355 w28 ho29 hb hg_ hnew_; clear hg_ hnew_; (first | rw [← Ny354.out] at ho29 | (simp only [Int.reduceToNat] at ho29; rw [← Ny354.out] at ho29)); have n0_ := Aside0.mk (Kd.N_elder' (by (with_reducible repeat (first | apply Kd.N_alloc | apply Kd.N_drewN | apply Kd.N_drew)); exact HO_3.out) (Kd.R_base ho29) hb); have n1_ := Aside0.mk (Kd.R_elder' (by (with_reducible repeat (first | apply Kd.R_alloc | apply Kd.R_drewN | apply Kd.R_drew)); exact HO_4.out) (Kd.R_base ho29) hb); have n2_ := Aside0.mk (Kd.R_elder' (by (with_reducible repeat (first | apply Kd.R_alloc | apply Kd.R_drewN | apply Kd.R_drew)); exact HO_5.out) (Kd.R_base ho29) hb); have n3_ := Aside0.mk (Kd.R_elder' (by (with_reducible repeat (first | apply Kd.R_alloc | apply Kd.R_drewN | apply Kd.R_drew)); exact HO_6.out) (Kd.R_base ho29) hb); have n4_ := Aside0.mk (Kd.R_elder' (by (with_reducible repeat (first | apply Kd.R_alloc | apply Kd.R_drewN | apply Kd.R_drew)); exact HO349.out) (Kd.R_base ho29) hb); have n5_ := Aside0.mk (Kd.R_elder' (by (with_reducible repeat (first | apply Kd.R_alloc | apply Kd.R_drewN | apply Kd.R_drew)); exact HO353.out) (Kd.R_base ho29) hb); have n6_ := Aside0.mk (Kd.R_lower (Kd.R_new' (Kd.R_new' (Kd.R_new' (Kd.R_new' (Kd.R_new' ho29 (Kd.R_lt (by (with_reducible repeat (first | apply Kd.R_alloc | apply Kd.R_drewN | apply Kd.R_drew)); exact HO_4.out))) (Kd.R_lt (by (with_reducible repeat (first | apply Kd.R_alloc | apply Kd.R_drewN | apply Kd.R_drew)); exact HO_5.out))) (Kd.R_lt (by (with_reducible repeat (first | apply Kd.R_alloc | apply Kd.R_drewN | apply Kd.R_drew)); exact HO_6.out))) (Kd.R_lt (by (with_reducible repeat (first | apply Kd.R_alloc | apply Kd.R_drewN | apply Kd.R_drew)); exact HO349.out))) (Kd.R_lt (by (with_reducible repeat (first | apply Kd.R_alloc | apply Kd.R_drewN | apply Kd.R_drew)); exact HO353.out))) (below_size (by repeat (first | (with_reducible first | exact HB.out | apply below_alloc | apply pw_below_drewN | apply below_drew1) | exact HB.out)))); have n7_ := Aside0.mk (below_step (by repeat (first | (with_reducible first | exact HB.out | apply below_alloc | apply pw_below_drewN | apply below_drew1) | exact HB.out)) hb); clear HO_3; clear HO_4; clear HO_5; clear HO_6; clear HO349; clear HO353; clear HB; have HO_3 := n0_; have HO_4 := n1_; have HO_5 := n2_; have HO_6 := n3_; have HO349 := n4_; have HO353 := n5_; have HO356 := n6_; have HB := n7_; clear n0_ n1_ n2_ n3_ n4_ n5_ n6_ n7_; clear hb ho29; obtain ⟨Ao31, co31, eo31⟩ := Kd.R_slice HO349.out; subst eo31) | ((with_reducible refine gate_builtin (b := .append) (xs := #[.tmp 52, .tmp 53]) rfl ?_); (try (refine gate_guard (by rfl) ?_; dsimp only)); at_builtin; refine Kd.R_append_rows (Kd.int .i64) (w0 := w) w.heap.size rfl (.tmp 52) (.tmp 53) 46 3 (.int .i64 0) 8 rfl Try.underlying46 info3 rfl (by decide) (by omega) v355 y354 t347 _ _ _ (fun k_ => some k_ ≠ (.slice Ao9 t336.length co9 : Value).ownBlock ∧ some k_ ≠ (v340 : Value).ownBlock ∧ some k_ ≠ (v343 : Value).ownBlock ∧ some k_ ≠ (.slice Ao31 t347.length co31 : Value).ownBlock ∧ some k_ ≠ (v352 : Value).ownBlock) (fun _ => False) rfl rfl ?aO ?aR (fun _ _ h => h) (fun _ h => h.elim) ?aF ?aB ?aS ?aL ?_; (case aR => repeat (first | exact (Kd.R_reads' HO349.out).2.2 | (with_reducible refine Kd.C_alloc ?_ _) | (with_reducible refine Kd.C_drewN ?_ _) | (with_reducible refine Kd.C_drew ?_))); (case aB => exact (by repeat (first | (with_reducible first | exact HB.out | apply below_alloc | apply pw_below_drewN | apply below_drew1) | exact HB.out))); (case aF => exact (fun k_ hk => ⟨Kd.fresh' (Kd.R_lt (by (with_reducible repeat (first | apply Kd.R_alloc | apply Kd.R_drewN | apply Kd.R_drew)); exact HO_4.out)) k_ hk, Kd.fresh' (Kd.R_lt (by (with_reducible repeat (first | apply Kd.R_alloc | apply Kd.R_drewN | apply Kd.R_drew)); exact HO_5.out)) k_ hk, Kd.fresh' (Kd.R_lt (by (with_reducible repeat (first | apply Kd.R_alloc | apply Kd.R_drewN | apply Kd.R_drew)); exact HO_6.out)) k_ hk, Kd.fresh' (Kd.R_lt (by (with_reducible repeat (first | apply Kd.R_alloc | apply Kd.R_drewN | apply Kd.R_drew)); exact HO349.out)) k_ hk, Kd.fresh' (Kd.R_lt (by (with_reducible repeat (first | apply Kd.R_alloc | apply Kd.R_drewN | apply Kd.R_drew)); exact HO353.out)) k_ hk⟩)); (case aO => exact (by (with_reducible repeat (first | apply Kd.R_alloc | apply Kd.R_drewN | apply Kd.R_drew)); exact Kd.R_mono HO356.out (fun _ hk => ⟨hk.1.1.1.1.2, ⟨hk.1.1.1.2, ⟨hk.1.1.2, ⟨hk.1.2, hk.2⟩⟩⟩⟩))); (case aS => exact (below_size (by repeat (first | (with_reducible first | exact HB.out | apply below_alloc | apply pw_below_drewN | apply below_drew1) | exact HB.out)))); (case aL => have := LMc24.out; omega); intro v358 w30 ho hb hg hat; rw [← Ny357.out] at ho; have n0_ := Aside0.mk (Kd.N_afterv (ok := (fun k_ => some k_ ≠ (.slice Ao9 t336.length co9 : Value).ownBlock ∧ some k_ ≠ (v340 : Value).ownBlock ∧ some k_ ≠ (v343 : Value).ownBlock ∧ some k_ ≠ (.slice Ao31 t347.length co31 : Value).ownBlock ∧ some k_ ≠ (v352 : Value).ownBlock)) (by (with_reducible repeat (first | apply Kd.N_alloc | apply Kd.N_drewN | apply Kd.N_drew)); exact Kd.N_mono HO_3.out (fun _ hk => ⟨⟨hk.1.1.1.1, ⟨hk.1.1.1.2.1, ⟨hk.1.1.1.2.2, ⟨hk.1.1.2, hk.1.2⟩⟩⟩⟩, hk.2⟩)) hg hat); have n1_ := Aside0.mk (Kd.R_after (ok := (fun k_ => some k_ ≠ (v340 : Value).ownBlock ∧ some k_ ≠ (v343 : Value).ownBlock ∧ some k_ ≠ (.slice Ao31 t347.length co31 : Value).ownBlock ∧ some k_ ≠ (v352 : Value).ownBlock)) (by (with_reducible repeat (first | apply Kd.R_alloc | apply Kd.R_drewN | apply Kd.R_drew)); exact Kd.R_mono HO_4.out (fun _ hk => ⟨⟨hk.1.1.1.1, ⟨hk.1.1.1.2, ⟨hk.1.1.2, hk.1.2⟩⟩⟩, hk.2⟩)) hg hat); have n2_ := Aside0.mk (Kd.R_after (ok := (fun k_ => some k_ ≠ (.slice Ao9 t336.length co9 : Value).ownBlock ∧ some k_ ≠ (v343 : Value).ownBlock ∧ some k_ ≠ (.slice Ao31 t347.length co31 : Value).ownBlock ∧ some k_ ≠ (v352 : Value).ownBlock)) (by (with_reducible repeat (first | apply Kd.R_alloc | apply Kd.R_drewN | apply Kd.R_drew)); exact Kd.R_mono HO_5.out (fun _ hk => ⟨⟨hk.1.1.1.1, ⟨hk.1.1.1.2, ⟨hk.1.1.2, hk.1.2⟩⟩⟩, hk.2⟩)) hg hat); have n3_ := Aside0.mk (Kd.R_after (ok := (fun k_ => some k_ ≠ (.slice Ao9 t336.length co9 : Value).ownBlock ∧ some k_ ≠ (v340 : Value).ownBlock ∧ some k_ ≠ (.slice Ao31 t347.length co31 : Value).ownBlock ∧ some k_ ≠ (v352 : Value).ownBlock)) (by (with_reducible repeat (first | apply Kd.R_alloc | apply Kd.R_drewN | apply Kd.R_drew)); exact Kd.R_mono HO_6.out (fun _ hk => ⟨⟨hk.1.1.1.1, ⟨hk.1.1.1.2, ⟨hk.1.1.2, hk.1.2⟩⟩⟩, hk.2⟩)) hg hat); have n4_ := Aside0.mk (Kd.R_after (ok := (fun k_ => some k_ ≠ (.slice Ao9 t336.length co9 : Value).ownBlock ∧ some k_ ≠ (v340 : Value).ownBlock ∧ some k_ ≠ (v343 : Value).ownBlock ∧ some k_ ≠ (v352 : Value).ownBlock)) (by (with_reducible repeat (first | apply Kd.R_alloc | apply Kd.R_drewN | apply Kd.R_drew)); exact Kd.R_mono HO349.out (fun _ hk => ⟨⟨hk.1.1.1.1.2, ⟨hk.1.1.1.2, ⟨hk.1.1.2, hk.1.2⟩⟩⟩, hk.2⟩)) hg hat); have n5_ := Aside0.mk (Kd.R_after (ok := (fun k_ => some k_ ≠ (.slice Ao9 t336.length co9 : Value).ownBlock ∧ some k_ ≠ (v340 : Value).ownBlock ∧ some k_ ≠ (v343 : Value).ownBlock ∧ some k_ ≠ (.slice Ao31 t347.length co31 : Value).ownBlock)) (by (with_reducible repeat (first | apply Kd.R_alloc | apply Kd.R_drewN | apply Kd.R_drew)); exact Kd.R_mono HO353.out (fun _ hk => ⟨⟨hk.1.1.1.1.2, ⟨hk.1.1.1.2, ⟨hk.1.1.2, hk.1.2⟩⟩⟩, hk.2⟩)) hg hat); have n6_ := Aside0.mk (hb); have n7_ := Aside0.mk (ho); clear HO_3; clear HO_4; clear HO_5; clear HO_6; clear HO349; clear HO353; clear HB; clear HO356; have HO_3 := n0_; have HO_4 := n1_; have HO_5 := n2_; have HO_6 := n3_; have HO349 := n4_; have HO353 := n5_; have HB := n6_; have HO359 := n7_; clear n0_ n1_ n2_ n3_ n4_ n5_ n6_ n7_; clear ho hb hg hat; obtain ⟨Ao33, co33, eo33⟩ := Kd.R_slice HO353.out; subst eo33) | ((with_reducible refine gate_builtin (b := .append) (xs := #[.tmp 54, .tmp 55]) rfl ?_); (try (refine gate_guard (by rfl) ?_; dsimp only)); at_builtin; refine Kd.R_append_rows (Kd.int .i64) (w0 := w) w.heap.size rfl (.tmp 54) (.tmp 55) 46 3 (.int .i64 0) 8 rfl Try.underlying46 info3 rfl (by decide) (by omega) v358 y357 t350 _ _ _ (fun k_ => some k_ ≠ (.slice Ao9 t336.length co9 : Value).ownBlock ∧ some k_ ≠ (v340 : Value).ownBlock ∧ some k_ ≠ (v343 : Value).ownBlock ∧ some k_ ≠ (.slice Ao31 t347.length co31 : Value).ownBlock ∧ some k_ ≠ (.slice Ao33 t350.length co33 : Value).ownBlock) (fun _ => False) rfl rfl ?aO ?aR (fun _ _ h => h) (fun _ h => h.elim) ?aF ?aB ?aS ?aL ?_; (case aR => repeat (first | exact (Kd.R_reads' HO353.out).2.2 | (with_reducible refine Kd.C_alloc ?_ _) | (with_reducible refine Kd.C_drewN ?_ _) | (with_reducible refine Kd.C_drew ?_))); (case aB => exact (by repeat (first | (with_reducible first | exact HB.out | apply below_alloc | apply pw_below_drewN | apply below_drew1) | exact HB.out))); (case aF => exact (fun k_ hk => ⟨Kd.fresh' (Kd.R_lt (by (with_reducible repeat (first | apply Kd.R_alloc | apply Kd.R_drewN | apply Kd.R_drew)); exact HO_4.out)) k_ hk, Kd.fresh' (Kd.R_lt (by (with_reducible repeat (first | apply Kd.R_alloc | apply Kd.R_drewN | apply Kd.R_drew)); exact HO_5.out)) k_ hk, Kd.fresh' (Kd.R_lt (by (with_reducible repeat (first | apply Kd.R_alloc | apply Kd.R_drewN | apply Kd.R_drew)); exact HO_6.out)) k_ hk, Kd.fresh' (Kd.R_lt (by (with_reducible repeat (first | apply Kd.R_alloc | apply Kd.R_drewN | apply Kd.R_drew)); exact HO349.out)) k_ hk, Kd.fresh' (Kd.R_lt (by (with_reducible repeat (first | apply Kd.R_alloc | apply Kd.R_drewN | apply Kd.R_drew)); exact HO353.out)) k_ hk⟩)); (case aO => exact (by (with_reducible repeat (first | apply Kd.R_alloc | apply Kd.R_drewN | apply Kd.R_drew)); exact HO359.out)); (case aS => exact (below_size (by repeat (first | (with_reducible first | exact HB.out | apply below_alloc | apply pw_below_drewN | apply below_drew1) | exact HB.out)))); (case aL => have := LMc25.out; omega); intro v361 w32 ho hb hg hat; rw [← Ny360.out] at ho; have n0_ := Aside0.mk (Kd.N_afterv (ok := (fun k_ => some k_ ≠ (.slice Ao9 t336.length co9 : Value).ownBlock ∧ some k_ ≠ (v340 : Value).ownBlock ∧ some k_ ≠ (v343 : Value).ownBlock ∧ some k_ ≠ (.slice Ao31 t347.length co31 : Value).ownBlock ∧ some k_ ≠ (.slice Ao33 t350.length co33 : Value).ownBlock)) (by (with_reducible repeat (first | apply Kd.N_alloc | apply Kd.N_drewN | apply Kd.N_drew)); exact HO_3.out) hg hat); have n1_ := Aside0.mk (Kd.R_after (ok := (fun k_ => some k_ ≠ (v340 : Value).ownBlock ∧ some k_ ≠ (v343 : Value).ownBlock ∧ some k_ ≠ (.slice Ao31 t347.length co31 : Value).ownBlock ∧ some k_ ≠ (.slice Ao33 t350.length co33 : Value).ownBlock)) (by (with_reducible repeat (first | apply Kd.R_alloc | apply Kd.R_drewN | apply Kd.R_drew)); exact HO_4.out) hg hat); have n2_ := Aside0.mk (Kd.R_after (ok := (fun k_ => some k_ ≠ (.slice Ao9 t336.length co9 : Value).ownBlock ∧ some k_ ≠ (v343 : Value).ownBlock ∧ some k_ ≠ (.slice Ao31 t347.length co31 : Value).ownBlock ∧ some k_ ≠ (.slice Ao33 t350.length co33 : Value).ownBlock)) (by (with_reducible repeat (first | apply Kd.R_alloc | apply Kd.R_drewN | apply Kd.R_drew)); exact HO_5.out) hg hat); have n3_ := Aside0.mk (Kd.R_after (ok := (fun k_ => some k_ ≠ (.slice Ao9 t336.length co9 : Value).ownBlock ∧ some k_ ≠ (v340 : Value).ownBlock ∧ some k_ ≠ (.slice Ao31 t347.length co31 : Value).ownBlock ∧ some k_ ≠ (.slice Ao33 t350.length co33 : Value).ownBlock)) (by (with_reducible repeat (first | apply Kd.R_alloc | apply Kd.R_drewN | apply Kd.R_drew)); exact HO_6.out) hg hat); have n4_ := Aside0.mk (Kd.R_after (ok := (fun k_ => some k_ ≠ (.slice Ao9 t336.length co9 : Value).ownBlock ∧ some k_ ≠ (v340 : Value).ownBlock ∧ some k_ ≠ (v343 : Value).ownBlock ∧ some k_ ≠ (.slice Ao33 t350.length co33 : Value).ownBlock)) (by (with_reducible repeat (first | apply Kd.R_alloc | apply Kd.R_drewN | apply Kd.R_drew)); exact HO349.out) hg hat); have n5_ := Aside0.mk (Kd.R_after (ok := (fun k_ => some k_ ≠ (.slice Ao9 t336.length co9 : Value).ownBlock ∧ some k_ ≠ (v340 : Value).ownBlock ∧ some k_ ≠ (v343 : Value).ownBlock ∧ some k_ ≠ (.slice Ao31 t347.length co31 : Value).ownBlock)) (by (with_reducible repeat (first | apply Kd.R_alloc | apply Kd.R_drewN | apply Kd.R_drew)); exact HO353.out) hg hat); have n6_ := Aside0.mk (hb); have n7_ := Aside0.mk (ho); clear HO_3; clear HO_4; clear HO_5; clear HO_6; clear HO349; clear HO353; clear HB; clear HO359; have HO_3 := n0_; have HO_4 := n1_; have HO_5 := n2_; have HO_6 := n3_; have HO349 := n4_; have HO353 := n5_; have HB := n6_; have HO362 := n7_; clear n0_ n1_ n2_ n3_ n4_ n5_ n6_ n7_; clear ho hb hg hat))
       go_loopg [11] kj5 (fun kq v11 w' => ∃ (x11_2 : Int), v11 = .int .i64 x11_2 ∧ Aside0 (laws_FnReadUsed.l0 kq t333 t336 t339 t351 y360 x11_2 = some r) ∧ Aside0 (kq ≤ kj5) ∧ Aside0 (Kd.N k55 55 w' w.heap.size (fun k_ => some k_ ≠ ((.slice Ao9 t336.length co9) : Value).ownBlock ∧ some k_ ≠ (v340 : Value).ownBlock ∧ some k_ ≠ (v361 : Value).ownBlock) (.slice Ao8 t333.length co8) t333) ∧ Aside0 (Kd.R (Kd.int .i64) 3 w' w.heap.size (fun k_ => some k_ ≠ (v340 : Value).ownBlock ∧ some k_ ≠ (v361 : Value).ownBlock) (.slice Ao9 t336.length co9) t336) ∧ Aside0 (Kd.R (Kd.int .i64) 3 w' w.heap.size (fun k_ => some k_ ≠ ((.slice Ao9 t336.length co9) : Value).ownBlock ∧ some k_ ≠ (v361 : Value).ownBlock) v340 t339) ∧ Aside0 (Kd.R (Kd.int .i64) 3 w' w.heap.size (fun k_ => some k_ ≠ ((.slice Ao9 t336.length co9) : Value).ownBlock ∧ some k_ ≠ (v340 : Value).ownBlock) v361 y360) ∧ Aside0 (Below w.heap.size w w'))
       case atStart => exact ⟨(0), (by first | rfl | (simp; done) | (simp [*]; done)), H', ⟨Nat.le_refl _⟩, ⟨by (with_reducible repeat (first | apply Kd.N_alloc | apply Kd.N_drewN | apply Kd.N_drew)); exact Kd.N_mono HO_3.out (fun _ hk => ⟨hk.1.1, ⟨hk.1.2.1, hk.2⟩⟩)⟩, ⟨by (with_reducible repeat (first | apply Kd.R_alloc | apply Kd.R_drewN | apply Kd.R_drew)); exact Kd.R_mono HO_4.out (fun _ hk => ⟨hk.1.1, hk.2⟩)⟩, ⟨by (with_reducible repeat (first | apply Kd.R_alloc | apply Kd.R_drewN | apply Kd.R_drew)); exact Kd.R_mono HO_5.out (fun _ hk => ⟨hk.1.1, hk.2⟩)⟩, ⟨by (with_reducible repeat (first | apply Kd.R_alloc | apply Kd.R_drewN | apply Kd.R_drew)); exact Kd.R_mono HO362.out (fun _ hk => ⟨hk.1, hk.2.1⟩)⟩, ⟨by repeat (first | (with_reducible first | exact HB.out | apply below_alloc | apply pw_below_drewN | apply below_drew1) | exact HB.out)⟩⟩
       case round =>
        clear H'; try clear c1
        try clear c2
        try clear c2b0
        try clear c2b1
        try clear p2
        try clear c3
        try clear c4
        try clear c9
        try clear c13
        try clear c18
        try clear c24
        try clear c25
        try clear c29
        try clear c31
        try clear c33
        try clear p2
        obtain ⟨x11_2, rfl, HA, HK2, HO_3, HO_4, HO_5, HO_10, HB⟩ := hrel; cases gk with
        | zero => exact absurd HA.out (by simp [laws_FnReadUsed.l0])
        | succ k2 =>
         have H := HA.out; clear HA; simp only [laws_FnReadUsed.l0] at H; by_cases c34 : x11_2 < (y360.length : Int)
         ·
          rw [if_pos c34] at H; have c34b0 : decide (x11_2 < (y360.length : Int)) = true := decide_eq_true c34; clear c34; by_cases c35 : 0 ≤ x11_2
          ·
           rw [if_pos c35] at H; have c35b0 : decide (0 ≤ x11_2) = true := decide_eq_true c35; clear c35; replace H := Option.bind_eq_some_iff.mp H; obtain ⟨t364, A360, H⟩ := H; replace H : (if t364 = true then (laws_FnReadUsed.l0 k2 t333 t336 t339 t351 y360 (wrap64 (x11_2 + 1))) else (some false)) = some r := H; have A36 := Aside0.mk A360; clear A360; by_cases c37 : t364 = true
           ·
            subst c37; have H1 : (laws_FnReadUsed.l0 k2 t333 t336 t339 t351 y360 (wrap64 (x11_2 + 1))) = some r := by rw [if_pos rfl] at H; exact H
            clear H; have H := H1; clear H1; have H' := Aside0.mk H; clear H; obtain ⟨Ao38, co38, eo38⟩ := Kd.R_slice HO_10.out; subst eo38; have p363 : 0 ≤ (x11_2 : Int) := of_decide_eq_true (by first | (with_reducible assumption) | assumption); have q363 : x11_2 < (y360.length : Int) := of_decide_eq_true (by first | (with_reducible assumption) | assumption); obtain ⟨ad363, e363, hx363_0⟩ := Kd.at_int (Kd.R_reads' HO_10.out).2.2 x11_2 p363 q363; cases e363; replace p363 := eq_true p363; replace q363 := eq_true q363; obtain ⟨Ao39, co39, eo39⟩ := Kd.R_slice HO_5.out; subst eo39; go_wp2_with (first | ((with_reducible refine gate_callee (f := 48) rfl ?_); refine goesL_ (some 68) rfl rfl Try.func48 (by kernel_rfl) rfl #[.slice Ao39 t339.length co39, .int .i64 (rd y360 x11_2)] rfl (by (try simp only [List.map_toArray, List.map_cons, List.map_nil]); first | done | rfl | (simp only [List.length_drop, List.length_take]; rfl)) ?_; (with_reducible refine (laws_hasNumber.calls k2 _ _ t339 (rd y360 x11_2) true _ ?side1 ?side2 A36.out).mono ?_); (case side1 => repeat (first | exact (Kd.R_reads' HO_5.out).2.2 | (with_reducible refine Kd.C_alloc ?_ _) | (with_reducible refine Kd.C_drewN ?_ _) | (with_reducible refine Kd.C_drew ?_))); (case side2 => exact (Kd.R_reads' HO_5.out).2.1); rintro e w' ⟨rfl, ⟨nd, rfl⟩⟩; refine ⟨_, rfl, ?_⟩))
            go_roundg k2
            case measure => have := HJ5.out; have := HK2.out; omega
            case rel => exact ⟨(wrap64 (x11_2 + 1)), (by first | rfl | (simp; done) | (simp [*]; done)), H', ⟨by have := HJ5.out; have := HK2.out; omega⟩, ⟨by (with_reducible repeat (first | apply Kd.N_alloc | apply Kd.N_drewN | apply Kd.N_drew)); exact HO_3.out⟩, ⟨by (with_reducible repeat (first | apply Kd.R_alloc | apply Kd.R_drewN | apply Kd.R_drew)); exact HO_4.out⟩, ⟨by (with_reducible repeat (first | apply Kd.R_alloc | apply Kd.R_drewN | apply Kd.R_drew)); exact HO_5.out⟩, ⟨by (with_reducible repeat (first | apply Kd.R_alloc | apply Kd.R_drewN | apply Kd.R_drew)); exact HO_10.out⟩, ⟨by repeat (first | (with_reducible first | exact HB.out | apply below_alloc | apply pw_below_drewN | apply below_drew1) | exact HB.out)⟩⟩
           ·
            replace c37 := Bool.eq_false_iff.mpr c37; subst c37; have H1 : (some false) = some r := by rw [if_neg (show ¬ (false = true) by decide)] at H; exact H
            clear H; have H := H1; clear H1; obtain rfl := Option.some.inj H; obtain ⟨Ao40, co40, eo40⟩ := Kd.R_slice HO_10.out; subst eo40; have p363 : 0 ≤ (x11_2 : Int) := of_decide_eq_true (by first | (with_reducible assumption) | assumption); have q363 : x11_2 < (y360.length : Int) := of_decide_eq_true (by first | (with_reducible assumption) | assumption); obtain ⟨ad363, e363, hx363_0⟩ := Kd.at_int (Kd.R_reads' HO_10.out).2.2 x11_2 p363 q363; cases e363; replace p363 := eq_true p363; replace q363 := eq_true q363; obtain ⟨Ao41, co41, eo41⟩ := Kd.R_slice HO_5.out; subst eo41; go_wp2_with (first | ((with_reducible refine gate_callee (f := 48) rfl ?_); refine goesL_ (some 68) rfl rfl Try.func48 (by kernel_rfl) rfl #[.slice Ao41 t339.length co41, .int .i64 (rd y360 x11_2)] rfl (by (try simp only [List.map_toArray, List.map_cons, List.map_nil]); first | done | rfl | (simp only [List.length_drop, List.length_take]; rfl)) ?_; (with_reducible refine (laws_hasNumber.calls k2 _ _ t339 (rd y360 x11_2) false _ ?side1 ?side2 A36.out).mono ?_); (case side1 => repeat (first | exact (Kd.R_reads' HO_5.out).2.2 | (with_reducible refine Kd.C_alloc ?_ _) | (with_reducible refine Kd.C_drewN ?_ _) | (with_reducible refine Kd.C_drew ?_))); (case side2 => exact (Kd.R_reads' HO_5.out).2.1); rintro e w' ⟨rfl, ⟨nd, rfl⟩⟩; refine ⟨_, rfl, ?_⟩))
            go_ret
            exact ⟨by first | rfl | (simp [errW_none, errW_some] <;> rfl) | (simp [*, errW_none, errW_some] <;> rfl), by repeat (first | (with_reducible first | exact HB.out | apply below_alloc | apply pw_below_drewN | apply below_drew1) | exact HB.out)⟩
          ·
           rw [if_neg c35] at H; exact absurd H (by simp)
         ·
          rw [if_neg c34] at H; have c34b0 : decide (x11_2 < (y360.length : Int)) = false := decide_eq_false c34; clear c34; replace H := Option.bind_eq_some_iff.mp H; obtain ⟨t365, A420, H⟩ := H; replace H : (laws_FnReadUsed.l1 k2 t333 t336 t339 t351 t365 0) = some r := H; have A42 := Aside0.mk A420; clear A420; have H' := Aside0.mk H; clear H; obtain ⟨Ao43, co43, eo43⟩ := Kd.R_slice HO_10.out; subst eo43; go_wp2_with (first | ((with_reducible refine gate_callee (f := 27) rfl ?_); refine goesL_ (some 72) rfl rfl Try.func27 (by kernel_rfl) rfl #[.slice Ao8 t333.length co8, .slice Ao9 t336.length co9] rfl (by (try simp only [List.map_toArray, List.map_cons, List.map_nil]); first | done | rfl | (simp only [List.length_drop, List.length_take]; rfl)) ?_; (with_reducible refine (impl_FormulasMany.calls _ _ t333 _ _ t336 t365 _ ?side1 ?side2 ?side3 ?side4 A42.out).mono ?_); (case side1 => repeat (first | exact (Kd.N_reads' HO_3.out).2.2 | (with_reducible refine Kd.C_alloc ?_ _) | (with_reducible refine Kd.C_drewN ?_ _) | (with_reducible refine Kd.C_drew ?_))); (case side2 => exact (Kd.N_reads' HO_3.out).2.1); (case side3 => repeat (first | exact (Kd.R_reads' HO_4.out).2.2 | (with_reducible refine Kd.C_alloc ?_ _) | (with_reducible refine Kd.C_drewN ?_ _) | (with_reducible refine Kd.C_drew ?_))); (case side4 => exact (Kd.R_reads' HO_4.out).2.1); rintro e w44 ⟨rfl, hb⟩; refine ⟨_, rfl, ?_⟩; have n0_ := Aside0.mk (Kd.N_below (by (with_reducible repeat (first | apply Kd.N_alloc | apply Kd.N_drewN | apply Kd.N_drew)); exact HO_3.out) hb); have n1_ := Aside0.mk (Kd.R_below (by (with_reducible repeat (first | apply Kd.R_alloc | apply Kd.R_drewN | apply Kd.R_drew)); exact HO_4.out) hb); have n2_ := Aside0.mk (Kd.R_below (by (with_reducible repeat (first | apply Kd.R_alloc | apply Kd.R_drewN | apply Kd.R_drew)); exact HO_5.out) hb); have n3_ := Aside0.mk (Kd.R_below (by (with_reducible repeat (first | apply Kd.R_alloc | apply Kd.R_drewN | apply Kd.R_drew)); exact HO_10.out) hb); have n4_ := Aside0.mk (below_step (by repeat (first | (with_reducible first | exact HB.out | apply below_alloc | apply pw_below_drewN | apply below_drew1) | exact HB.out)) hb); clear HO_3; clear HO_4; clear HO_5; clear HO_10; clear HB; have HO_3 := n0_; have HO_4 := n1_; have HO_5 := n2_; have HO_10 := n3_; have HB := n4_; clear n0_ n1_ n2_ n3_ n4_; (try clear hb); (try clear hb2); (try clear hk); (try clear hi)))
          go_loopg [13] k2 (fun kq v13 w' => ∃ (x13_3 : Int), v13 = .int .i64 x13_3 ∧ Aside0 (laws_FnReadUsed.l1 kq t333 t336 t339 t351 t365 x13_3 = some r) ∧ Aside0 (kq ≤ k2) ∧ Aside0 (Kd.N k55 55 w' w.heap.size (fun k_ => some k_ ≠ ((.slice Ao9 t336.length co9) : Value).ownBlock ∧ some k_ ≠ (v340 : Value).ownBlock) (.slice Ao8 t333.length co8) t333) ∧ Aside0 (Kd.R (Kd.int .i64) 3 w' w.heap.size (fun k_ => some k_ ≠ (v340 : Value).ownBlock) (.slice Ao9 t336.length co9) t336) ∧ Aside0 (Kd.R (Kd.int .i64) 3 w' w.heap.size (fun k_ => some k_ ≠ ((.slice Ao9 t336.length co9) : Value).ownBlock) v340 t339) ∧ Aside0 (Below w.heap.size w w'))
          case atStart => exact ⟨(0), (by first | rfl | (simp; done) | (simp [*]; done)), H', ⟨Nat.le_refl _⟩, ⟨by (with_reducible repeat (first | apply Kd.N_alloc | apply Kd.N_drewN | apply Kd.N_drew)); exact Kd.N_mono HO_3.out (fun _ hk => ⟨hk.1, hk.2.1⟩)⟩, ⟨by (with_reducible repeat (first | apply Kd.R_alloc | apply Kd.R_drewN | apply Kd.R_drew)); exact Kd.R_mono HO_4.out (fun _ hk => hk.1)⟩, ⟨by (with_reducible repeat (first | apply Kd.R_alloc | apply Kd.R_drewN | apply Kd.R_drew)); exact Kd.R_mono HO_5.out (fun _ hk => hk.1)⟩, ⟨by repeat (first | (with_reducible first | exact HB.out | apply below_alloc | apply pw_below_drewN | apply below_drew1) | exact HB.out)⟩⟩
          case round =>
           clear H'; try clear c1
           try clear c2
           try clear c2b0
           try clear c2b1
           try clear p2
           try clear c3
           try clear p3
           try clear q3
           try clear hx3
           try clear c4
           try clear p6
           try clear c9
           try clear c13
           try clear c18
           try clear c24
           try clear c25
           try clear c27
           try clear c29
           try clear c31
           try clear c33
           try clear c34
           try clear c34b0
           try clear c35
           try clear c35b0
           try clear p36
           try clear q36
           try clear hx36
           try clear c37
           try clear hx363_0
           try clear p2
           try clear p363
           try clear q363
           obtain ⟨x13_3, rfl, HA, HK3, HO_3, HO_4, HO_5, HB⟩ := hrel; cases gk with
           | zero => exact absurd HA.out (by simp [laws_FnReadUsed.l1])
           | succ k3 =>
            have H := HA.out; clear HA; simp only [laws_FnReadUsed.l1] at H; by_cases c45 : x13_3 < (t333.length : Int)
            ·
             rw [if_pos c45] at H; have c45b0 : decide (x13_3 < (t333.length : Int)) = true := decide_eq_true c45; clear c45; replace H := Option.bind_eq_some_iff.mp H; obtain ⟨⟨t366, t367⟩, A460, H⟩ := H; replace H : ((impl_FormulasMany.f t366 t336).bind fun t370 => (if t367 = true then (if t370 > t365 then (some false) else ((laws_hasNumber.f k3 t339 x13_3).bind fun t371 => (if ((decide (t370 < t365)) != t371) = true then (some false) else (laws_FnReadUsed.l1 k3 t333 t336 t339 t351 t365 (wrap64 (x13_3 + 1)))))) else (some false))) = some r := H; have A46 := Aside0.mk A460; clear A460; replace H := Option.bind_eq_some_iff.mp H; obtain ⟨t370, A470, H⟩ := H; replace H : (if t367 = true then (if t370 > t365 then (some false) else ((laws_hasNumber.f k3 t339 x13_3).bind fun t371 => (if ((decide (t370 < t365)) != t371) = true then (some false) else (laws_FnReadUsed.l1 k3 t333 t336 t339 t351 t365 (wrap64 (x13_3 + 1)))))) else (some false)) = some r := H; have A47 := Aside0.mk A470; clear A470; by_cases c48 : t367 = true
             ·
              subst c48; have H1 : (if t370 > t365 then (some false) else ((laws_hasNumber.f k3 t339 x13_3).bind fun t371 => (if ((decide (t370 < t365)) != t371) = true then (some false) else (laws_FnReadUsed.l1 k3 t333 t336 t339 t351 t365 (wrap64 (x13_3 + 1)))))) = some r := by rw [if_pos rfl] at H; exact H
              clear H; have H := H1; clear H1; by_cases c49 : t370 > t365
              ·
               rw [if_pos c49] at H; have c49b0 : decide (t365 < t370) = true := decide_eq_true c49; clear c49; obtain rfl := Option.some.inj H; go_wp2_with (first | ((with_reducible refine gate_callee (f := 25) rfl ?_); refine goesL_ (some 82) rfl rfl Try.func25 (by kernel_rfl) rfl #[.slice Ao8 t333.length co8, .int .i64 x13_3] rfl (by (try simp only [List.map_toArray, List.map_cons, List.map_nil]); first | done | rfl | (simp only [List.length_drop, List.length_take]; rfl)) ?_; (with_reducible refine (impl_FormulasWithout.calls _ _ t333 x13_3 t366 true _ ?side1 ?side2 A46.out).mono ?_); (case side1 => repeat (first | exact (Kd.N_reads' HO_3.out).2.2 | (with_reducible refine Kd.C_alloc ?_ _) | (with_reducible refine Kd.C_drewN ?_ _) | (with_reducible refine Kd.C_drew ?_))); (case side2 => exact (Kd.N_reads' HO_3.out).2.1); rintro e w50 ⟨v368, rfl, ho0, hb⟩; refine ⟨_, rfl, ?_⟩; have n0_ := Aside0.mk (Kd.N_elder' (by (with_reducible repeat (first | apply Kd.N_alloc | apply Kd.N_drewN | apply Kd.N_drew)); exact HO_3.out) (by first | exact Kd.N_base ho0 | exact Kd.N_base (Kd.S_N ho0) | exact Kd.N_base (Kd.S_N (Kd.S_bound ho0))) hb); have n1_ := Aside0.mk (Kd.R_below (by (with_reducible repeat (first | apply Kd.R_alloc | apply Kd.R_drewN | apply Kd.R_drew)); exact HO_4.out) hb); have n2_ := Aside0.mk (Kd.R_below (by (with_reducible repeat (first | apply Kd.R_alloc | apply Kd.R_drewN | apply Kd.R_drew)); exact HO_5.out) hb); have n3_ := Aside0.mk (Kd.N_lower (Kd.N_mono (ok' := fun k_ => some k_ ≠ (.slice Ao8 t333.length co8 : Value).ownBlock ∧ some k_ ≠ (.slice Ao9 t336.length co9 : Value).ownBlock ∧ some k_ ≠ (v340 : Value).ownBlock) (Kd.S_N (Kd.S_bound ho0)) (fun k_ hk_ => ⟨(Kd.fresh' (Kd.N_lt (by (with_reducible repeat (first | apply Kd.N_alloc | apply Kd.N_drewN | apply Kd.N_drew)); exact HO_3.out)) k_ hk_.2.1), (Kd.fresh' (Kd.R_lt (by (with_reducible repeat (first | apply Kd.R_alloc | apply Kd.R_drewN | apply Kd.R_drew)); exact HO_4.out)) k_ hk_.2.1), (Kd.fresh' (Kd.R_lt (by (with_reducible repeat (first | apply Kd.R_alloc | apply Kd.R_drewN | apply Kd.R_drew)); exact HO_5.out)) k_ hk_.2.1)⟩)) (below_size (by repeat (first | (with_reducible first | exact HB.out | apply below_alloc | apply pw_below_drewN | apply below_drew1) | exact HB.out)))); have n4_ := Aside0.mk (below_step (by repeat (first | (with_reducible first | exact HB.out | apply below_alloc | apply pw_below_drewN | apply below_drew1) | exact HB.out)) hb); clear HO_3; clear HO_4; clear HO_5; clear HB; have HO_3 := n0_; have HO_4 := n1_; have HO_5 := n2_; have HO369 := n3_; have HB := n4_; clear n0_ n1_ n2_ n3_ n4_; (try clear hb); (try clear hb2); (try clear hk); (try clear hi); (try clear ho0); obtain ⟨Ao51, co51, eo51⟩ := Kd.N_slice HO369.out; subst eo51) | ((with_reducible refine gate_callee (f := 27) rfl ?_); refine goesL_ (some 87) rfl rfl Try.func27 (by kernel_rfl) rfl #[.slice Ao51 t366.length co51, .slice Ao9 t336.length co9] rfl (by (try simp only [List.map_toArray, List.map_cons, List.map_nil]); first | done | rfl | (simp only [List.length_drop, List.length_take]; rfl)) ?_; (with_reducible refine (impl_FormulasMany.calls _ _ t366 _ _ t336 t370 _ ?side1 ?side2 ?side3 ?side4 A47.out).mono ?_); (case side1 => repeat (first | exact (Kd.N_reads' HO369.out).2.2 | (with_reducible refine Kd.C_alloc ?_ _) | (with_reducible refine Kd.C_drewN ?_ _) | (with_reducible refine Kd.C_drew ?_))); (case side2 => exact (Kd.N_reads' HO369.out).2.1); (case side3 => repeat (first | exact (Kd.R_reads' HO_4.out).2.2 | (with_reducible refine Kd.C_alloc ?_ _) | (with_reducible refine Kd.C_drewN ?_ _) | (with_reducible refine Kd.C_drew ?_))); (case side4 => exact (Kd.R_reads' HO_4.out).2.1); rintro e w52 ⟨rfl, hb⟩; refine ⟨_, rfl, ?_⟩; have n0_ := Aside0.mk (Kd.N_below (by (with_reducible repeat (first | apply Kd.N_alloc | apply Kd.N_drewN | apply Kd.N_drew)); exact HO_3.out) hb); have n1_ := Aside0.mk (Kd.R_below (by (with_reducible repeat (first | apply Kd.R_alloc | apply Kd.R_drewN | apply Kd.R_drew)); exact HO_4.out) hb); have n2_ := Aside0.mk (Kd.R_below (by (with_reducible repeat (first | apply Kd.R_alloc | apply Kd.R_drewN | apply Kd.R_drew)); exact HO_5.out) hb); have n3_ := Aside0.mk (Kd.N_below (by (with_reducible repeat (first | apply Kd.N_alloc | apply Kd.N_drewN | apply Kd.N_drew)); exact HO369.out) hb); have n4_ := Aside0.mk (below_step (by repeat (first | (with_reducible first | exact HB.out | apply below_alloc | apply pw_below_drewN | apply below_drew1) | exact HB.out)) hb); clear HO_3; clear HO_4; clear HO_5; clear HO369; clear HB; have HO_3 := n0_; have HO_4 := n1_; have HO_5 := n2_; have HO369 := n3_; have HB := n4_; clear n0_ n1_ n2_ n3_ n4_; (try clear hb); (try clear hb2); (try clear hk); (try clear hi)))
               go_ret
               exact ⟨by first | rfl | (simp [errW_none, errW_some] <;> rfl) | (simp [*, errW_none, errW_some] <;> rfl), by repeat (first | (with_reducible first | exact HB.out | apply below_alloc | apply pw_below_drewN | apply below_drew1) | exact HB.out)⟩
              ·
               rw [if_neg c49] at H; have c49b0 : decide (t365 < t370) = false := decide_eq_false c49; clear c49; replace H := Option.bind_eq_some_iff.mp H; obtain ⟨t371, A530, H⟩ := H; replace H : (if ((decide (t370 < t365)) != t371) = true then (some false) else (laws_FnReadUsed.l1 k3 t333 t336 t339 t351 t365 (wrap64 (x13_3 + 1)))) = some r := H; have A53 := Aside0.mk A530; clear A530; by_cases c54 : ((decide (t370 < t365)) != t371) = true
               ·
                rw [if_pos c54] at H; have c54b0 : ((decide (t370 < t365)) != t371) = true := c54; (try (have c54b1 : decide ((decide (t370 < t365)) = t371) = false := by simpa using c54))
                (try (have c54b2 : ((decide (t370 < t365)) == t371) = false := by simpa using c54))
                (try (have c54b3 : ¬ ((decide (t370 < t365)) = t371) := by simpa using c54))
                clear c54; obtain rfl := Option.some.inj H; go_wp2_with (first | ((with_reducible refine gate_callee (f := 25) rfl ?_); refine goesL_ (some 82) rfl rfl Try.func25 (by kernel_rfl) rfl #[.slice Ao8 t333.length co8, .int .i64 x13_3] rfl (by (try simp only [List.map_toArray, List.map_cons, List.map_nil]); first | done | rfl | (simp only [List.length_drop, List.length_take]; rfl)) ?_; (with_reducible refine (impl_FormulasWithout.calls _ _ t333 x13_3 t366 true _ ?side1 ?side2 A46.out).mono ?_); (case side1 => repeat (first | exact (Kd.N_reads' HO_3.out).2.2 | (with_reducible refine Kd.C_alloc ?_ _) | (with_reducible refine Kd.C_drewN ?_ _) | (with_reducible refine Kd.C_drew ?_))); (case side2 => exact (Kd.N_reads' HO_3.out).2.1); rintro e w55 ⟨v368, rfl, ho0, hb⟩; refine ⟨_, rfl, ?_⟩; have n0_ := Aside0.mk (Kd.N_elder' (by (with_reducible repeat (first | apply Kd.N_alloc | apply Kd.N_drewN | apply Kd.N_drew)); exact HO_3.out) (by first | exact Kd.N_base ho0 | exact Kd.N_base (Kd.S_N ho0) | exact Kd.N_base (Kd.S_N (Kd.S_bound ho0))) hb); have n1_ := Aside0.mk (Kd.R_below (by (with_reducible repeat (first | apply Kd.R_alloc | apply Kd.R_drewN | apply Kd.R_drew)); exact HO_4.out) hb); have n2_ := Aside0.mk (Kd.R_below (by (with_reducible repeat (first | apply Kd.R_alloc | apply Kd.R_drewN | apply Kd.R_drew)); exact HO_5.out) hb); have n3_ := Aside0.mk (Kd.N_lower (Kd.N_mono (ok' := fun k_ => some k_ ≠ (.slice Ao8 t333.length co8 : Value).ownBlock ∧ some k_ ≠ (.slice Ao9 t336.length co9 : Value).ownBlock ∧ some k_ ≠ (v340 : Value).ownBlock) (Kd.S_N (Kd.S_bound ho0)) (fun k_ hk_ => ⟨(Kd.fresh' (Kd.N_lt (by (with_reducible repeat (first | apply Kd.N_alloc | apply Kd.N_drewN | apply Kd.N_drew)); exact HO_3.out)) k_ hk_.2.1), (Kd.fresh' (Kd.R_lt (by (with_reducible repeat (first | apply Kd.R_alloc | apply Kd.R_drewN | apply Kd.R_drew)); exact HO_4.out)) k_ hk_.2.1), (Kd.fresh' (Kd.R_lt (by (with_reducible repeat (first | apply Kd.R_alloc | apply Kd.R_drewN | apply Kd.R_drew)); exact HO_5.out)) k_ hk_.2.1)⟩)) (below_size (by repeat (first | (with_reducible first | exact HB.out | apply below_alloc | apply pw_below_drewN | apply below_drew1) | exact HB.out)))); have n4_ := Aside0.mk (below_step (by repeat (first | (with_reducible first | exact HB.out | apply below_alloc | apply pw_below_drewN | apply below_drew1) | exact HB.out)) hb); clear HO_3; clear HO_4; clear HO_5; clear HB; have HO_3 := n0_; have HO_4 := n1_; have HO_5 := n2_; have HO369 := n3_; have HB := n4_; clear n0_ n1_ n2_ n3_ n4_; (try clear hb); (try clear hb2); (try clear hk); (try clear hi); (try clear ho0); obtain ⟨Ao56, co56, eo56⟩ := Kd.N_slice HO369.out; subst eo56) | ((with_reducible refine gate_callee (f := 27) rfl ?_); refine goesL_ (some 87) rfl rfl Try.func27 (by kernel_rfl) rfl #[.slice Ao56 t366.length co56, .slice Ao9 t336.length co9] rfl (by (try simp only [List.map_toArray, List.map_cons, List.map_nil]); first | done | rfl | (simp only [List.length_drop, List.length_take]; rfl)) ?_; (with_reducible refine (impl_FormulasMany.calls _ _ t366 _ _ t336 t370 _ ?side1 ?side2 ?side3 ?side4 A47.out).mono ?_); (case side1 => repeat (first | exact (Kd.N_reads' HO369.out).2.2 | (with_reducible refine Kd.C_alloc ?_ _) | (with_reducible refine Kd.C_drewN ?_ _) | (with_reducible refine Kd.C_drew ?_))); (case side2 => exact (Kd.N_reads' HO369.out).2.1); (case side3 => repeat (first | exact (Kd.R_reads' HO_4.out).2.2 | (with_reducible refine Kd.C_alloc ?_ _) | (with_reducible refine Kd.C_drewN ?_ _) | (with_reducible refine Kd.C_drew ?_))); (case side4 => exact (Kd.R_reads' HO_4.out).2.1); rintro e w57 ⟨rfl, hb⟩; refine ⟨_, rfl, ?_⟩; have n0_ := Aside0.mk (Kd.N_below (by (with_reducible repeat (first | apply Kd.N_alloc | apply Kd.N_drewN | apply Kd.N_drew)); exact HO_3.out) hb); have n1_ := Aside0.mk (Kd.R_below (by (with_reducible repeat (first | apply Kd.R_alloc | apply Kd.R_drewN | apply Kd.R_drew)); exact HO_4.out) hb); have n2_ := Aside0.mk (Kd.R_below (by (with_reducible repeat (first | apply Kd.R_alloc | apply Kd.R_drewN | apply Kd.R_drew)); exact HO_5.out) hb); have n3_ := Aside0.mk (Kd.N_below (by (with_reducible repeat (first | apply Kd.N_alloc | apply Kd.N_drewN | apply Kd.N_drew)); exact HO369.out) hb); have n4_ := Aside0.mk (below_step (by repeat (first | (with_reducible first | exact HB.out | apply below_alloc | apply pw_below_drewN | apply below_drew1) | exact HB.out)) hb); clear HO_3; clear HO_4; clear HO_5; clear HO369; clear HB; have HO_3 := n0_; have HO_4 := n1_; have HO_5 := n2_; have HO369 := n3_; have HB := n4_; clear n0_ n1_ n2_ n3_ n4_; (try clear hb); (try clear hb2); (try clear hk); (try clear hi); obtain ⟨Ao58, co58, eo58⟩ := Kd.R_slice HO_5.out; subst eo58) | (go_at_call 48; (with_reducible refine (laws_hasNumber.calls k3 _ _ t339 x13_3 t371 _ ?side1 ?side2 A53.out).mono ?_); (case side1 => repeat (first | exact (Kd.R_reads' HO_5.out).2.2 | (with_reducible refine Kd.C_alloc ?_ _) | (with_reducible refine Kd.C_drewN ?_ _) | (with_reducible refine Kd.C_drew ?_))); (case side2 => exact (Kd.R_reads' HO_5.out).2.1); rintro e w' ⟨rfl, ⟨nd, rfl⟩⟩))
                go_ret
                exact ⟨by first | rfl | (simp [errW_none, errW_some] <;> rfl) | (simp [*, errW_none, errW_some] <;> rfl), by repeat (first | (with_reducible first | exact HB.out | apply below_alloc | apply pw_below_drewN | apply below_drew1) | exact HB.out)⟩
               ·
                rw [if_neg c54] at H; have c54b0 : ((decide (t370 < t365)) != t371) = false := by simpa using c54
                (try (have c54b1 : decide ((decide (t370 < t365)) = t371) = true := by simpa using c54))
                (try (have c54b2 : ((decide (t370 < t365)) == t371) = true := by simpa using c54))
                clear c54; have H' := Aside0.mk H; clear H; go_wp2_with (first | ((with_reducible refine gate_callee (f := 25) rfl ?_); refine goesL_ (some 82) rfl rfl Try.func25 (by kernel_rfl) rfl #[.slice Ao8 t333.length co8, .int .i64 x13_3] rfl (by (try simp only [List.map_toArray, List.map_cons, List.map_nil]); first | done | rfl | (simp only [List.length_drop, List.length_take]; rfl)) ?_; (with_reducible refine (impl_FormulasWithout.calls _ _ t333 x13_3 t366 true _ ?side1 ?side2 A46.out).mono ?_); (case side1 => repeat (first | exact (Kd.N_reads' HO_3.out).2.2 | (with_reducible refine Kd.C_alloc ?_ _) | (with_reducible refine Kd.C_drewN ?_ _) | (with_reducible refine Kd.C_drew ?_))); (case side2 => exact (Kd.N_reads' HO_3.out).2.1); rintro e w59 ⟨v368, rfl, ho0, hb⟩; refine ⟨_, rfl, ?_⟩; have n0_ := Aside0.mk (Kd.N_elder' (by (with_reducible repeat (first | apply Kd.N_alloc | apply Kd.N_drewN | apply Kd.N_drew)); exact HO_3.out) (by first | exact Kd.N_base ho0 | exact Kd.N_base (Kd.S_N ho0) | exact Kd.N_base (Kd.S_N (Kd.S_bound ho0))) hb); have n1_ := Aside0.mk (Kd.R_below (by (with_reducible repeat (first | apply Kd.R_alloc | apply Kd.R_drewN | apply Kd.R_drew)); exact HO_4.out) hb); have n2_ := Aside0.mk (Kd.R_below (by (with_reducible repeat (first | apply Kd.R_alloc | apply Kd.R_drewN | apply Kd.R_drew)); exact HO_5.out) hb); have n3_ := Aside0.mk (Kd.N_lower (Kd.N_mono (ok' := fun k_ => some k_ ≠ (.slice Ao8 t333.length co8 : Value).ownBlock ∧ some k_ ≠ (.slice Ao9 t336.length co9 : Value).ownBlock ∧ some k_ ≠ (v340 : Value).ownBlock) (Kd.S_N (Kd.S_bound ho0)) (fun k_ hk_ => ⟨(Kd.fresh' (Kd.N_lt (by (with_reducible repeat (first | apply Kd.N_alloc | apply Kd.N_drewN | apply Kd.N_drew)); exact HO_3.out)) k_ hk_.2.1), (Kd.fresh' (Kd.R_lt (by (with_reducible repeat (first | apply Kd.R_alloc | apply Kd.R_drewN | apply Kd.R_drew)); exact HO_4.out)) k_ hk_.2.1), (Kd.fresh' (Kd.R_lt (by (with_reducible repeat (first | apply Kd.R_alloc | apply Kd.R_drewN | apply Kd.R_drew)); exact HO_5.out)) k_ hk_.2.1)⟩)) (below_size (by repeat (first | (with_reducible first | exact HB.out | apply below_alloc | apply pw_below_drewN | apply below_drew1) | exact HB.out)))); have n4_ := Aside0.mk (below_step (by repeat (first | (with_reducible first | exact HB.out | apply below_alloc | apply pw_below_drewN | apply below_drew1) | exact HB.out)) hb); clear HO_3; clear HO_4; clear HO_5; clear HB; have HO_3 := n0_; have HO_4 := n1_; have HO_5 := n2_; have HO369 := n3_; have HB := n4_; clear n0_ n1_ n2_ n3_ n4_; (try clear hb); (try clear hb2); (try clear hk); (try clear hi); (try clear ho0); obtain ⟨Ao60, co60, eo60⟩ := Kd.N_slice HO369.out; subst eo60) | ((with_reducible refine gate_callee (f := 27) rfl ?_); refine goesL_ (some 87) rfl rfl Try.func27 (by kernel_rfl) rfl #[.slice Ao60 t366.length co60, .slice Ao9 t336.length co9] rfl (by (try simp only [List.map_toArray, List.map_cons, List.map_nil]); first | done | rfl | (simp only [List.length_drop, List.length_take]; rfl)) ?_; (with_reducible refine (impl_FormulasMany.calls _ _ t366 _ _ t336 t370 _ ?side1 ?side2 ?side3 ?side4 A47.out).mono ?_); (case side1 => repeat (first | exact (Kd.N_reads' HO369.out).2.2 | (with_reducible refine Kd.C_alloc ?_ _) | (with_reducible refine Kd.C_drewN ?_ _) | (with_reducible refine Kd.C_drew ?_))); (case side2 => exact (Kd.N_reads' HO369.out).2.1); (case side3 => repeat (first | exact (Kd.R_reads' HO_4.out).2.2 | (with_reducible refine Kd.C_alloc ?_ _) | (with_reducible refine Kd.C_drewN ?_ _) | (with_reducible refine Kd.C_drew ?_))); (case side4 => exact (Kd.R_reads' HO_4.out).2.1); rintro e w61 ⟨rfl, hb⟩; refine ⟨_, rfl, ?_⟩; have n0_ := Aside0.mk (Kd.N_below (by (with_reducible repeat (first | apply Kd.N_alloc | apply Kd.N_drewN | apply Kd.N_drew)); exact HO_3.out) hb); have n1_ := Aside0.mk (Kd.R_below (by (with_reducible repeat (first | apply Kd.R_alloc | apply Kd.R_drewN | apply Kd.R_drew)); exact HO_4.out) hb); have n2_ := Aside0.mk (Kd.R_below (by (with_reducible repeat (first | apply Kd.R_alloc | apply Kd.R_drewN | apply Kd.R_drew)); exact HO_5.out) hb); have n3_ := Aside0.mk (Kd.N_below (by (with_reducible repeat (first | apply Kd.N_alloc | apply Kd.N_drewN | apply Kd.N_drew)); exact HO369.out) hb); have n4_ := Aside0.mk (below_step (by repeat (first | (with_reducible first | exact HB.out | apply below_alloc | apply pw_below_drewN | apply below_drew1) | exact HB.out)) hb); clear HO_3; clear HO_4; clear HO_5; clear HO369; clear HB; have HO_3 := n0_; have HO_4 := n1_; have HO_5 := n2_; have HO369 := n3_; have HB := n4_; clear n0_ n1_ n2_ n3_ n4_; (try clear hb); (try clear hb2); (try clear hk); (try clear hi); obtain ⟨Ao62, co62, eo62⟩ := Kd.R_slice HO_5.out; subst eo62) | (go_at_call 48; (with_reducible refine (laws_hasNumber.calls k3 _ _ t339 x13_3 t371 _ ?side1 ?side2 A53.out).mono ?_); (case side1 => repeat (first | exact (Kd.R_reads' HO_5.out).2.2 | (with_reducible refine Kd.C_alloc ?_ _) | (with_reducible refine Kd.C_drewN ?_ _) | (with_reducible refine Kd.C_drew ?_))); (case side2 => exact (Kd.R_reads' HO_5.out).2.1); rintro e w' ⟨rfl, ⟨nd, rfl⟩⟩))
                go_roundg k3
                case measure => have := HJ5.out; have := HK2.out; have := HK3.out; omega
                case rel => exact ⟨(wrap64 (x13_3 + 1)), (by first | rfl | (simp; done) | (simp [*]; done)), H', ⟨by have := HJ5.out; have := HK2.out; have := HK3.out; omega⟩, ⟨by (with_reducible repeat (first | apply Kd.N_alloc | apply Kd.N_drewN | apply Kd.N_drew)); exact Kd.N_mono HO_3.out (fun _ hk => ⟨hk.1.1, hk.1.2⟩)⟩, ⟨by (with_reducible repeat (first | apply Kd.R_alloc | apply Kd.R_drewN | apply Kd.R_drew)); exact HO_4.out⟩, ⟨by (with_reducible repeat (first | apply Kd.R_alloc | apply Kd.R_drewN | apply Kd.R_drew)); exact HO_5.out⟩, ⟨by repeat (first | (with_reducible first | exact HB.out | apply below_alloc | apply pw_below_drewN | apply below_drew1) | exact HB.out)⟩⟩
             ·
              replace c48 := Bool.eq_false_iff.mpr c48; subst c48; have H1 : (some false) = some r := by rw [if_neg (show ¬ (false = true) by decide)] at H; exact H
              clear H; have H := H1; clear H1; obtain rfl := Option.some.inj H; go_wp2_with (first | ((with_reducible refine gate_callee (f := 25) rfl ?_); refine goesL_ (some 82) rfl rfl Try.func25 (by kernel_rfl) rfl #[.slice Ao8 t333.length co8, .int .i64 x13_3] rfl (by (try simp only [List.map_toArray, List.map_cons, List.map_nil]); first | done | rfl | (simp only [List.length_drop, List.length_take]; rfl)) ?_; (with_reducible refine (impl_FormulasWithout.calls _ _ t333 x13_3 t366 false _ ?side1 ?side2 A46.out).mono ?_); (case side1 => repeat (first | exact (Kd.N_reads' HO_3.out).2.2 | (with_reducible refine Kd.C_alloc ?_ _) | (with_reducible refine Kd.C_drewN ?_ _) | (with_reducible refine Kd.C_drew ?_))); (case side2 => exact (Kd.N_reads' HO_3.out).2.1); rintro e w63 ⟨v368, rfl, ho0, hb⟩; refine ⟨_, rfl, ?_⟩; have n0_ := Aside0.mk (Kd.N_elder' (by (with_reducible repeat (first | apply Kd.N_alloc | apply Kd.N_drewN | apply Kd.N_drew)); exact HO_3.out) (by first | exact Kd.N_base ho0 | exact Kd.N_base (Kd.S_N ho0) | exact Kd.N_base (Kd.S_N (Kd.S_bound ho0))) hb); have n1_ := Aside0.mk (Kd.R_below (by (with_reducible repeat (first | apply Kd.R_alloc | apply Kd.R_drewN | apply Kd.R_drew)); exact HO_4.out) hb); have n2_ := Aside0.mk (Kd.R_below (by (with_reducible repeat (first | apply Kd.R_alloc | apply Kd.R_drewN | apply Kd.R_drew)); exact HO_5.out) hb); have n3_ := Aside0.mk (Kd.N_lower (Kd.N_mono (ok' := fun k_ => some k_ ≠ (.slice Ao8 t333.length co8 : Value).ownBlock ∧ some k_ ≠ (.slice Ao9 t336.length co9 : Value).ownBlock ∧ some k_ ≠ (v340 : Value).ownBlock) (Kd.S_N (Kd.S_bound ho0)) (fun k_ hk_ => ⟨(Kd.fresh' (Kd.N_lt (by (with_reducible repeat (first | apply Kd.N_alloc | apply Kd.N_drewN | apply Kd.N_drew)); exact HO_3.out)) k_ hk_.2.1), (Kd.fresh' (Kd.R_lt (by (with_reducible repeat (first | apply Kd.R_alloc | apply Kd.R_drewN | apply Kd.R_drew)); exact HO_4.out)) k_ hk_.2.1), (Kd.fresh' (Kd.R_lt (by (with_reducible repeat (first | apply Kd.R_alloc | apply Kd.R_drewN | apply Kd.R_drew)); exact HO_5.out)) k_ hk_.2.1)⟩)) (below_size (by repeat (first | (with_reducible first | exact HB.out | apply below_alloc | apply pw_below_drewN | apply below_drew1) | exact HB.out)))); have n4_ := Aside0.mk (below_step (by repeat (first | (with_reducible first | exact HB.out | apply below_alloc | apply pw_below_drewN | apply below_drew1) | exact HB.out)) hb); clear HO_3; clear HO_4; clear HO_5; clear HB; have HO_3 := n0_; have HO_4 := n1_; have HO_5 := n2_; have HO369 := n3_; have HB := n4_; clear n0_ n1_ n2_ n3_ n4_; (try clear hb); (try clear hb2); (try clear hk); (try clear hi); (try clear ho0); obtain ⟨Ao64, co64, eo64⟩ := Kd.N_slice HO369.out; subst eo64) | ((with_reducible refine gate_callee (f := 27) rfl ?_); refine goesL_ (some 87) rfl rfl Try.func27 (by kernel_rfl) rfl #[.slice Ao64 t366.length co64, .slice Ao9 t336.length co9] rfl (by (try simp only [List.map_toArray, List.map_cons, List.map_nil]); first | done | rfl | (simp only [List.length_drop, List.length_take]; rfl)) ?_; (with_reducible refine (impl_FormulasMany.calls _ _ t366 _ _ t336 t370 _ ?side1 ?side2 ?side3 ?side4 A47.out).mono ?_); (case side1 => repeat (first | exact (Kd.N_reads' HO369.out).2.2 | (with_reducible refine Kd.C_alloc ?_ _) | (with_reducible refine Kd.C_drewN ?_ _) | (with_reducible refine Kd.C_drew ?_))); (case side2 => exact (Kd.N_reads' HO369.out).2.1); (case side3 => repeat (first | exact (Kd.R_reads' HO_4.out).2.2 | (with_reducible refine Kd.C_alloc ?_ _) | (with_reducible refine Kd.C_drewN ?_ _) | (with_reducible refine Kd.C_drew ?_))); (case side4 => exact (Kd.R_reads' HO_4.out).2.1); rintro e w65 ⟨rfl, hb⟩; refine ⟨_, rfl, ?_⟩; have n0_ := Aside0.mk (Kd.N_below (by (with_reducible repeat (first | apply Kd.N_alloc | apply Kd.N_drewN | apply Kd.N_drew)); exact HO_3.out) hb); have n1_ := Aside0.mk (Kd.R_below (by (with_reducible repeat (first | apply Kd.R_alloc | apply Kd.R_drewN | apply Kd.R_drew)); exact HO_4.out) hb); have n2_ := Aside0.mk (Kd.R_below (by (with_reducible repeat (first | apply Kd.R_alloc | apply Kd.R_drewN | apply Kd.R_drew)); exact HO_5.out) hb); have n3_ := Aside0.mk (Kd.N_below (by (with_reducible repeat (first | apply Kd.N_alloc | apply Kd.N_drewN | apply Kd.N_drew)); exact HO369.out) hb); have n4_ := Aside0.mk (below_step (by repeat (first | (with_reducible first | exact HB.out | apply below_alloc | apply pw_below_drewN | apply below_drew1) | exact HB.out)) hb); clear HO_3; clear HO_4; clear HO_5; clear HO369; clear HB; have HO_3 := n0_; have HO_4 := n1_; have HO_5 := n2_; have HO369 := n3_; have HB := n4_; clear n0_ n1_ n2_ n3_ n4_; (try clear hb); (try clear hb2); (try clear hk); (try clear hi)))
              go_ret
              exact ⟨by first | rfl | (simp [errW_none, errW_some] <;> rfl) | (simp [*, errW_none, errW_some] <;> rfl), by repeat (first | (with_reducible first | exact HB.out | apply below_alloc | apply pw_below_drewN | apply below_drew1) | exact HB.out)⟩
            ·
             rw [if_neg c45] at H; have c45b0 : decide (x13_3 < (t333.length : Int)) = false := decide_eq_false c45; clear c45; obtain rfl := Option.some.inj H; go_wp2; go_ret
             exact ⟨by first | rfl | (simp [errW_none, errW_some] <;> rfl) | (simp [*, errW_none, errW_some] <;> rfl), by repeat (first | (with_reducible first | exact HB.out | apply below_alloc | apply pw_below_drewN | apply below_drew1) | exact HB.out)⟩
      ·
       rw [if_neg c25] at H; exact absurd H (by simp)
     ·
      rw [if_neg c24] at H; exact absurd H (by simp)

/-- THE ONE PURE STATEMENT of laws_FnReadUsed: yours. -/
def laws_FnReadUsed.Pure : Prop := ∀ (l0 : List Int), l0.length ≤ maxLen → l0.length * 1 ≤ 140737488351232 → (∀ x ∈ l0, (Lit.int .u8 x).wf = true) → ∃ k, laws_FnReadUsed.f k l0 = some true
end Go.Proofs.Ytnemcppllfmioaa.PFnReadUsed
namespace Go.Proofs.Ytnemcppllfmioaa.Pure
set_option linter.unusedVariables false
set_option linter.unusedSimpArgs false
open Go Go.RowKit Go.Proofs.Ytnemcppllfmioaa.PFnReadUsed Go.Proofs.YtnemcppllfmioaaW.PrintWords Go.Proofs.YtnemcppllfmioaaW.PrintLast Go.Proofs.YtnemcppllfmioaaW.PrintMore

structure Code (s : List Int) : Prop where
 b : ∀ x ∈ s, 0 ≤ x ∧ x ≤ 255
 l : s.length ≤ 2000
theorem open_ev (l0 : List Int) (hw : ∀ x ∈ l0, (Lit.int .u8 x).wf = true) : ∃ s, spec_l6Open.f l0 = some (s, 0) ∧ Code s := by
 have hb : ∀ x ∈ l0, 0 ≤ x ∧ x ≤ 255 := by
  intro x hx
  have := hw x hx
  have e1 : IntKind.u8.min = 0 := by decide
  have e2 : IntKind.u8.max = 255 := by decide
  simp only [Lit.wf, e1, e2] at this
  simpa using this
 unfold spec_l6Open.f
 by_cases h : (l0.length : Int) > 2000
 ·
  refine ⟨l0.take 2000, by rw [if_pos h, if_pos (by omega)], ⟨fun x hx => hb x (List.mem_of_mem_take hx), by rw [List.length_take]; omega⟩⟩
 ·
  exact ⟨l0, by rw [if_neg h], ⟨hb, by omega⟩⟩
theorem pick_ev {s : List Int} (hc : Code s) (p n : Int) (hp : 0 ≤ p) (hp' : p ≤ 1000000000) :
 Evx (fun k => spec_l6Rd_pick.f k s p n) (fun r => 0 ≤ r.1 ∧ (r.1 < n ∨ r.1 = 0) ∧ r.2 = p + 1) := by
 have hw : wrap64 (p + 1) = p + 1 := w64 (by omega) (by omega)
 have hw' : wrap64 (p + 1 - 1) = p := by rw [w64 (by omega) (by omega)]; omega
 have hl := hc.l
 unfold spec_l6Rd_pick.f
 rw [hw]
 by_cases hn : n < 1
 ·
  refine Evx.pos hn (Evx.succ ?_)
  simp only [spec_l6Rd_pick.j0, if_true]
  exact Evx.now ⟨by simp, by simp, rfl⟩
 ·
  refine Evx.neg hn (Evx.succ ?_)
  have tm : ∀ x : Int, 0 ≤ x → 0 ≤ Int.tmod x n ∧ Int.tmod x n < n := fun x hx => ⟨Int.tmod_nonneg n hx, Int.tmod_lt_of_pos x (by omega)⟩
  by_cases h0 : s.length = 0
  ·
   have e : ((s.length : Int) == 0) = true := by simp [h0]
   simp only [spec_l6Rd_pick.j0, e, if_true]
   exact Evx.now ⟨by simp, by simp, rfl⟩
  ·
   have e : ((s.length : Int) == 0) = false := by rw [beq_eq_false_iff_ne]; omega
   simp only [spec_l6Rd_pick.j0, e, hw']
   refine Evx.neg (by simp) ?_
   by_cases hlt : p < (s.length : Int)
   ·
    refine Evx.pos hlt (Evx.pos hp (Evx.neg (by omega) (Evx.now ?_)))
    have hb := rd_bd hc.b p
    rw [w64 (x := rd s p) (by omega) (by omega)]
    have := tm (rd s p) hb.1
    exact ⟨this.1, .inl this.2, rfl⟩
   ·
    refine Evx.neg hlt (Evx.neg (by omega) ?_)
    have t1 : 0 ≤ Int.tmod p s.length := Int.tmod_nonneg _ hp
    have t1' : Int.tmod p s.length < s.length := Int.tmod_lt_of_pos p (by omega)
    rw [w64 (x := p * 7) (by omega) (by omega), w64 (x := p * 7 + 3) (by omega) (by omega)]
    have t2 : 0 ≤ Int.tmod (p * 7 + 3) s.length := Int.tmod_nonneg _ (by omega)
    have t2' : Int.tmod (p * 7 + 3) s.length < s.length := Int.tmod_lt_of_pos _ (by omega)
    refine Evx.pos t1 (Evx.pos t1' (Evx.pos t2 (Evx.pos t2' (Evx.neg (by omega) (Evx.now ?_)))))
    have hb1 := rd_bd hc.b (Int.tmod p s.length)
    have hb2 := rd_bd hc.b (Int.tmod (p * 7 + 3) s.length)
    have hd : 0 ≤ Int.tdiv p s.length ∧ Int.tdiv p s.length ≤ p := by
     rw [Int.tdiv_eq_ediv_of_nonneg hp]
     exact ⟨Int.ediv_nonneg hp (by omega), Int.ediv_le_self _ hp⟩
    generalize rd s (Int.tmod p s.length) = a at *
    generalize rd s (Int.tmod (p * 7 + 3) s.length) = b at *
    generalize Int.tdiv p s.length = c at *
    obtain ⟨X, hX, hX0, hX1⟩ : ∃ X : Int, wrap64 (wrap64 (wrap64 (wrap64 (wrap64 a * 131) + wrap64 (wrap64 b * 1117)) + wrap64 (p * 29)) + wrap64 (wrap64 c * 53)) = X ∧ 0 ≤ X ∧ X < 1000000000000 := by
     refine ⟨a * 131 + b * 1117 + p * 29 + c * 53, ?_, by omega, by omega⟩
     rw [w64 (x := a) (by omega) (by omega), w64 (x := b) (by omega) (by omega), w64 (x := c) (by omega) (by omega), w64 (x := a * 131) (by omega) (by omega), w64 (x := b * 1117) (by omega) (by omega), w64 (x := p * 29) (by omega) (by omega), w64 (x := c * 53) (by omega) (by omega), w64 (x := a * 131 + b * 1117) (by omega) (by omega), w64 (x := a * 131 + b * 1117 + p * 29) (by omega) (by omega), w64 (by omega) (by omega)]
    rw [hX]
    have hq : 0 ≤ Int.tdiv X 64 ∧ Int.tdiv X 64 ≤ X := by
     rw [Int.tdiv_eq_ediv_of_nonneg hX0]; omega
    rw [w64 (x := Int.tdiv X 64) (by omega) (by omega)]
    have := tm _ (xor_bd X (Int.tdiv X 64) hX0 (by omega) hq.1 (by omega))
    exact ⟨this.1, .inl this.2, rfl⟩

theorem spec_l2Same_ev (a b : List Int) (hl : a.length ≤ 1000000000000) : Ev (fun k => spec_l2Same.f k a b) (a == b) := by
 unfold spec_l2Same.f
 by_cases hlen : (a.length : Int) = (b.length : Int)
 ·
  refine Ev.pos hlen ?_
  have := Ev.over (0 : Int) a (fun k (_ : Unit) i => spec_l2Same.l0 k a b i) (fun _ rest => rest == b.drop (a.length - rest.length)) (fun _ _ => True) (by
   intro s _
   refine Ev.succ ?_
   simp only [spec_l2Same.l0]
   refine Ev.eqr (Ev.neg (by omega) (Ev.now _)) ?_
   have : b.drop a.length = [] := List.drop_eq_nil_of_le (by omega)
   simp [this]) (by
   intro s i rest _ hi hdr ih
   have hrl : rest.length + 1 + i = a.length := by
    have := congrArg List.length hdr
    simp at this; omega
   refine Ev.succ ?_
   simp only [spec_l2Same.l0]
   rw [w64 (by omega) (by omega)]
   refine Ev.pos (by omega) (Ev.pos (by omega) (Ev.pos (by omega) ?_))
   have hra : rd a (i : Int) = a.getD i 0 := rfl
   have hrb : rd b (i : Int) = b.getD i 0 := rfl
   rw [hra, hrb]
   have e2 : a.length - (a.getD i 0 :: rest).length = i := by simp; omega
   have e1 : a.length - rest.length = i + 1 := by omega
   have e3 : b.drop i = b.getD i 0 :: b.drop (i + 1) := by
    rw [List.drop_eq_getElem_cons (by omega), List.getD_eq_getElem?_getD, List.getElem?_eq_getElem (by omega)]; rfl
   rw [e2, e3]
   have ih := ih () trivial
   rw [e1] at ih
   by_cases h : a.getD i 0 = b.getD i 0
   ·
    refine Ev.pos h (Ev.eqr ih ?_)
    rw [h, Bool.eq_iff_iff]; simp
   ·
    refine Ev.neg h (Ev.eqr (Ev.now _) ?_)
    symm; rw [beq_eq_false_iff_ne]; intro hc; exact h (List.cons.inj hc).1) 0 () (Nat.zero_le _) trivial
  simpa using this
 ·
  refine Ev.neg hlen (Ev.eqr (Ev.now _) ?_)
  symm; rw [beq_eq_false_iff_ne]; rintro rfl; exact hlen rfl

def DrF (l : List S55) : Prop := l.length ≤ 7 ∧ ∀ x ∈ l, x.f0.length ≤ 3
theorem l92_two {s : List Int} {Q : List S55 × Int → Prop} (out : List S55) (n i p w : Int) (fs : List Int) (ho : ∀ x ∈ out, x.f0.length ≤ 3) (hol : out.length ≤ 100)
 (hk : Evx (fun k => spec_l92Formulas.l0 k out n (wrap64 (i + 1)) s p) Q) (hk' : Evx (fun k => spec_l92Formulas.l0 k (out ++ [⟨fs, w⟩]) n (wrap64 (i + 1)) s p) Q) (d : Nat) :
 ∀ (x9 : Bool) (j : Nat), j + d = out.length → Evx (fun k => spec_l92Formulas.l2 k out n i x9 (j : Int) s p fs w) Q := by
 induction d with
 | zero =>
  intro x9 j hj
  refine Evx.succ ?_
  simp only [spec_l92Formulas.l2]
  refine Evx.neg (by omega) ?_
  cases x9
  ·
   exact Evx.neg (by simp) hk
  ·
   exact Evx.pos rfl (Evx.pos (by omega) hk')
 | succ d ih =>
  intro x9 j hj
  refine Evx.succ ?_
  simp only [spec_l92Formulas.l2]
  rw [w64 (x := (j : Int) + 1) (by omega) (by omega)]
  have e : ((j : Int) + 1) = ((j + 1 : Nat) : Int) := by omega
  rw [e]
  refine Evx.pos (by omega) ?_
  cases x9
  ·
   exact Evx.neg (by simp) (ih false (j + 1) (by omega))
  ·
   refine Evx.pos rfl (Evx.pos (by omega) (Evx.bind1 (spec_l2Same_ev _ fs ?_) (ih _ (j + 1) (by omega))))
   have := ho _ (rd_mem (l := out) (k := (j : Int)) (by omega) (by omega))
   omega
theorem l92_one {s : List Int} (hc : Code s) {Q : List S55 × Int → Prop} (out : List S55) (n i x7 w : Int) (P : Int) (hP : P ≤ 1000000000)
 (hk : ∀ (fs : List Int) (p : Int), fs.length ≤ 3 → 0 ≤ p → p ≤ P → Evx (fun k => spec_l92Formulas.l2 k out n i true 0 s p fs w) Q) (d : Nat) :
 ∀ (x8 p : Int) (fs : List Int), 0 ≤ x8 → x7 - x8 = d → x7 ≤ 3 → fs.length + d ≤ 3 → 0 ≤ p → p + d ≤ P → Evx (fun k => spec_l92Formulas.l1 k out n i x7 x8 s p fs w) Q := by
 induction d with
 | zero =>
  intro x8 p fs h0 h1 h2 h3 h4 h5
  refine Evx.succ ?_
  simp only [spec_l92Formulas.l1]
  exact Evx.neg (by omega) (hk fs p (by omega) h4 (by omega))
 | succ d ih =>
  intro x8 p fs h0 h1 h2 h3 h4 h5
  refine Evx.succ ?_
  simp only [spec_l92Formulas.l1]
  rw [w64 (x := x8 + 1) (by omega) (by omega)]
  refine Evx.pos (by omega) (Evx.bind (pick_ev hc p 3 h4 (by omega)) ?_)
  rintro ⟨r, q⟩ ⟨hr0, hr1, rfl⟩
  exact Evx.pos (by omega) (ih (x8 + 1) (p + 1) _ (by omega) (by omega) h2 (by rw [List.length_append, List.length_singleton]; omega) (by omega) (by omega))
theorem DrF.set {l : List S55} (h : DrF l) (j : Nat) {x : S55} (hx : x.f0.length ≤ 3) : DrF (l.set j x) := by
 refine ⟨by rw [List.length_set]; exact h.1, fun y hy => ?_⟩
 rcases List.mem_or_eq_of_mem_set hy with hy | rfl
 ·
  exact h.2 y hy
 ·
  exact hx
theorem drawFormulas_loop {s : List Int} (hc : Code s) (n : Int) (hn : n ≤ 5) (d : Nat) : ∀ (out : List S55) (i p : Int), 0 ≤ i → n - i = d → (out.length : Int) ≤ i → (1 ≤ i → 1 ≤ out.length) → 1 ≤ n → (∀ x ∈ out, x.f0.length ≤ 3) → 0 ≤ p → p + 10 * d ≤ 1000000 →
 Evx (fun k => spec_l92Formulas.l0 k out n i s p) (fun r => DrF r.1 ∧ 0 ≤ r.2 ∧ r.2 ≤ p + 10 * d + 2) := by
 induction d with
 | zero =>
  intro out i p h0 h1 h2 h3 h4 h5 h6 h7
  have hne := h3 (by omega)
  have hD : DrF out := ⟨by omega, h5⟩
  have hz : (rd_T55 out 0).f0.length ≤ 3 := h5 _ (rd_mem (k := 0) (by omega) (by omega))
  refine Evx.succ ?_
  simp only [spec_l92Formulas.l0]
  refine Evx.neg (by omega) (Evx.bind (pick_ev hc p 40 h6 (by omega)) ?_)
  rintro ⟨r, q⟩ ⟨hr0, hr1, rfl⟩
  refine Evx.ite (fun _ => ?_) (fun _ => Evx.ite (fun _ => ?_) (fun _ => Evx.ite (fun _ => ?_) (fun _ => Evx.ite (fun _ => ?_) (fun _ => ?_))))
  ·
   refine Evx.someb (Evx.bind (pick_ev hc (p + 1) 2 (by omega) (by omega)) ?_)
   rintro ⟨u, q⟩ ⟨hu0, hu1, rfl⟩
   have hu0 : 0 ≤ u := hu0
   have hu1 : u < 2 ∨ u = 0 := hu1
   exact Evx.pos hu0 (Evx.pos (by simp; omega) (Evx.pos (by omega) (Evx.now ⟨hD.set _ hz, by show 0 ≤ p + 1 + 1; omega, by show p + 1 + 1 ≤ _; omega⟩)))
  ·
   refine Evx.pos (by omega) (Evx.pos (by omega) (Evx.now ⟨⟨by rw [List.length_append, List.length_singleton]; omega, fun x hx => ?_⟩, by show 0 ≤ p + 1; omega, by show p + 1 ≤ _; omega⟩))
   rcases List.mem_append.1 hx with hx | hx
   ·
    exact h5 x hx
   ·
    rw [List.mem_singleton.1 hx]; exact hz
  ·
   exact Evx.pos (by omega) (Evx.now ⟨hD.set _ (by simp), by show 0 ≤ p + 1; omega, by show p + 1 ≤ _; omega⟩)
  ·
   exact Evx.now ⟨⟨by simp, by simp⟩, by show 0 ≤ p + 1; omega, by show p + 1 ≤ _; omega⟩
  ·
   exact Evx.now ⟨hD, by show 0 ≤ p + 1; omega, by show p + 1 ≤ _; omega⟩
 | succ d ih =>
  intro out i p h0 h1 h2 h3 h4 h5 h6 h7
  refine Evx.succ ?_
  simp only [spec_l92Formulas.l0]
  refine Evx.pos (by omega) (Evx.bind (pick_ev hc p 5 h6 (by omega)) ?_)
  rintro ⟨u, q⟩ ⟨hu0, hu1, rfl⟩
  refine Evx.bind (pick_ev hc (p + 1) 3 (by omega) (by omega)) ?_
  rintro ⟨v, q⟩ ⟨hv0, hv1, rfl⟩
  have hv0 : 0 ≤ v := hv0
  have hv1 : v < 3 ∨ v = 0 := hv1
  rw [w64 (x := 1 + v) (by omega) (by omega)]
  have nxt : ∀ out' : List S55, (out'.length : Int) ≤ i + 1 → 1 ≤ out'.length → (∀ x ∈ out', x.f0.length ≤ 3) → ∀ q, 0 ≤ q → q ≤ p + 6 → Evx (fun k => spec_l92Formulas.l0 k out' n (wrap64 (i + 1)) s q) (fun r => DrF r.1 ∧ 0 ≤ r.2 ∧ r.2 ≤ p + 10 * ((d + 1 : Nat) : Int) + 2) := by
   intro out' a1 a2 a3 q a4 a5
   rw [w64 (x := i + 1) (by omega) (by omega)]
   exact (ih out' (i + 1) q (by omega) (by omega) a1 (fun _ => a2) h4 a3 a4 (by omega)).mono (fun r h => ⟨h.1, h.2.1, by have := h.2.2; omega⟩)
  obtain ⟨e, he⟩ : ∃ e : Nat, (1 + v) - 0 = e := ⟨(1 + v).toNat, by omega⟩
  refine l92_one hc out n i (1 + v) _ (p + 6) (by omega) (fun fs q hf hq hq' => ?_) e 0 (p + 1 + 1) [] (by omega) he (by omega) (by simp; omega) (by omega) (by omega)
  by_cases hz : out = []
  ·
   subst hz
   refine Evx.succ ?_
   simp only [spec_l92Formulas.l2]
   refine Evx.neg (by simp) (Evx.pos trivial (Evx.pos (by simp) (nxt _ (by simp; omega) (by simp) (by simpa using hf) q hq hq')))
  ·
   have hlz : 1 ≤ out.length := List.length_pos_iff.2 hz
   refine l92_two out n i q _ fs h5 (by omega) (nxt out (by omega) hlz h5 q hq hq') (nxt _ (by rw [List.length_append, List.length_singleton]; omega) (by rw [List.length_append, List.length_singleton]; omega) (fun x hx => ?_) q hq hq') out.length true 0 (by omega)
   rcases List.mem_append.1 hx with hx | hx
   ·
    exact h5 x hx
   ·
    rw [List.mem_singleton.1 hx]; exact hf
theorem drawFormulas_ev {s : List Int} (hc : Code s) (p : Int) (hp : 0 ≤ p) (hp' : p ≤ 10000) : Evx (fun k => spec_l92Formulas.f k s p) (fun r => DrF r.1 ∧ 0 ≤ r.2 ∧ r.2 ≤ p + 53) := by
 unfold spec_l92Formulas.f
 refine Evx.bind (pick_ev hc p 5 hp (by omega)) ?_
 rintro ⟨u, q⟩ ⟨hu0, hu1, rfl⟩
 have hu0 : 0 ≤ u := hu0
 have hu1 : u < 5 ∨ u = 0 := hu1
 rw [w64 (x := 1 + u) (by omega) (by omega)]
 obtain ⟨e, he⟩ : ∃ e : Nat, (1 + u) - 0 = e := ⟨(1 + u).toNat, by omega⟩
 exact (drawFormulas_loop hc (1 + u) (by omega) e [] 0 (p + 1) (by omega) he (by simp) (by omega) (by omega) (by simp) (by omega) (by omega)).mono (fun r h => ⟨h.1, h.2.1, by have := h.2.2; omega⟩)

theorem spec_l6fOne_ev (x : S55) (hl : x.f0.length ≤ 1000000000000) : Ev (fun k => spec_l6fOne.f k x.f0 x.f1) (fOk x) := by
 unfold spec_l6fOne.f
 have := Ev.over (0 : Int) x.f0 (fun k (_ : Unit) i => spec_l6fOne.l0 k i x.f0 x.f1) (fun _ rest => rest.all (inR (-7) 7) && (decide (1 ≤ (x.f0.length : Int) ∧ (x.f0.length : Int) ≤ 5) && decide (1 ≤ x.f1 ∧ x.f1 ≤ 9))) (fun _ _ => True) (by
  intro s _
  refine Ev.succ ?_
  simp only [spec_l6fOne.l0, List.all_nil, Bool.true_and]
  refine Ev.neg (by omega) (Ev.conb (spec_l6In_eq _ _ _) ?_)
  by_cases h : 1 ≤ (x.f0.length : Int) ∧ (x.f0.length : Int) ≤ 5
  ·
   rw [decide_eq_true h]
   exact Ev.pos rfl (Ev.conb (spec_l6In_eq _ _ _) (Ev.now _))
  ·
   rw [decide_eq_false h]
   exact Ev.neg (by simp) (Ev.now _)) (by
  intro s i rest _ hi _ ih
  refine Ev.succ ?_
  simp only [spec_l6fOne.l0, List.all_cons]
  rw [w64 (by omega) (by omega)]
  refine Ev.pos (by omega) (Ev.pos (by omega) (Ev.conb (spec_l6In_eq _ _ _) ?_))
  have hrd : rd x.f0 (i : Int) = x.f0.getD i 0 := rfl
  rw [hrd]
  show Ev _ ((decide (-7 ≤ x.f0.getD i 0 ∧ x.f0.getD i 0 ≤ 7) && _) && _)
  by_cases h : -7 ≤ x.f0.getD i 0 ∧ x.f0.getD i 0 ≤ 7
  ·
   rw [decide_eq_true h]
   exact Ev.pos rfl (ih () trivial)
  ·
   rw [decide_eq_false h]
   exact Ev.neg (by simp) (Ev.now _)) 0 () (Nat.zero_le _) trivial
 refine Ev.eqr (by simpa using this) ?_
 unfold fOk
 cases x.f0.all (inR (-7) 7) <;> simp
theorem spec_FormulasValid_ev (l : List S55) (hll : l.length ≤ 1000000000000) (hl : ∀ x ∈ l, x.f0.length ≤ 1000000000000) : Ev (fun k => spec_FormulasValid.f k l) (fsOk l) := by
 unfold spec_FormulasValid.f
 have := Ev.over z55 l (fun k (_ : Unit) i => spec_FormulasValid.l0 k l i) (fun _ rest => goF (l.take (l.length - rest.length)) rest && decide ((l.length : Int) ≤ 8)) (fun _ _ => True) (by
  intro s _
  refine Ev.succ ?_
  simp only [spec_FormulasValid.l0, goF, Bool.true_and]
  exact Ev.neg (by omega) (Ev.now _)) (by
  intro s i rest _ hi hdr ih
  have hrl : rest.length + 1 + i = l.length := by
   have := congrArg List.length hdr
   simp at this; omega
  have hm : l.getD i z55 ∈ l := by
   rw [List.getD_eq_getElem?_getD, List.getElem?_eq_getElem hi]; exact List.getElem_mem hi
  have hx := hl _ hm
  refine Ev.succ ?_
  simp only [spec_FormulasValid.l0]
  refine Ev.pos (by omega) (Ev.pos (by omega) ?_)
  have hrd : rd_T55 l (i : Int) = l.getD i z55 := rfl
  have e2 : l.length - (l.getD i z55 :: rest).length = i := by simp; omega
  have e1 : l.length - rest.length = i + 1 := by omega
  have ih := ih () trivial
  rw [e1, take_rd l i hi] at ih
  rw [e2]
  rw [← hrd] at hx ih ⊢
  simp only [goF]
  refine Ev.bind (spec_l6fOne_ev _ hx) ?_
  cases hf : fOk (rd_T55 l (i : Int))
  ·
   exact Ev.neg (by simp) (Ev.now _)
  refine Ev.pos rfl ?_
  simp only [Bool.true_and]
  have htl : (l.take i).length = i := by simp; omega
  have inner := Ev.over z55 (l.take i) (fun k (_ : Unit) j => spec_FormulasValid.l1 k l i j) (fun _ rest' => (!(rest'.any (fun y => y.f0 == (rd_T55 l (i : Int)).f0)) && goF (l.take i ++ [rd_T55 l (i : Int)]) rest) && decide ((l.length : Int) ≤ 8)) (fun _ _ => True) (by
   intro s _
   refine Ev.succ ?_
   simp only [spec_FormulasValid.l1]
   refine Ev.neg (by omega) ?_
   rw [w64 (by omega) (by omega)]
   simpa using ih) (by
   intro s j rest' _ hj _ ih'
   have hjm : (l.take i).getD j z55 ∈ l := by
    rw [List.getD_eq_getElem?_getD, List.getElem?_eq_getElem hj]; exact List.mem_of_mem_take (List.getElem_mem hj)
   have hxj := hl _ hjm
   refine Ev.succ ?_
   simp only [spec_FormulasValid.l1]
   refine Ev.pos (by omega) (Ev.pos (by omega) (Ev.pos (by omega) (Ev.pos (by omega) (Ev.pos (by omega) ?_))))
   have hrd' : rd_T55 l (j : Int) = (l.take i).getD j z55 := by
    rw [List.getD_eq_getElem?_getD, List.getElem?_take, if_pos (by omega)]
    simp [rd_T55]
   rw [hrd']
   generalize (l.take i).getD j z55 = y at hxj
   refine Ev.bind (spec_l2Same_ev _ _ hx) ?_
   simp only [List.any_cons]
   have hcm : (y.f0 == (rd_T55 l (i : Int)).f0) = ((rd_T55 l (i : Int)).f0 == y.f0) := by rw [Bool.eq_iff_iff, beq_iff_eq, beq_iff_eq]; exact eq_comm
   rw [hcm]
   cases (rd_T55 l (i : Int)).f0 == y.f0
   ·
    refine Ev.neg (by simp) ?_
    rw [w64 (by omega) (by omega)]
    simpa using ih' () trivial
   ·
    exact Ev.pos rfl (Ev.now _)) 0 () (Nat.zero_le _) trivial
  simpa using inner) 0 () (Nat.zero_le _) trivial
 refine Ev.eqr (by simpa using this) ?_
 unfold fsOk
 rw [Bool.and_comm]

theorem goF_pw : ∀ {l acc : List S55}, goF acc l = true → (∀ a ∈ acc, ∀ b ∈ l, a.f0 ≠ b.f0) ∧ l.Pairwise (fun a b => a.f0 ≠ b.f0)
 | [], acc, _ => ⟨by simp, List.Pairwise.nil⟩
 | x :: xs, acc, h => by
  simp only [goF, Bool.and_eq_true, Bool.not_eq_true', List.any_eq_false, beq_iff_eq] at h
  obtain ⟨_, h1, h2⟩ := h
  obtain ⟨h3, h4⟩ := goF_pw h2
  refine ⟨fun a ha b hb => ?_, List.pairwise_cons.2 ⟨fun b hb => h3 x (by simp) b hb, h4⟩⟩
  rcases List.mem_cons.1 hb with rfl | hb
  ·
   exact h1 a ha
  ·
   exact h3 a (List.mem_append_left _ ha) b hb
def sumB (s : List Int) : List S55 → Nat
 | [] => 0
 | f :: fs => (if isPre f.f0 s = true then 2 ^ (s.length - f.f0.length) else 0) + sumB s fs
theorem sum_pow : ∀ (n : Nat) (ks : List Nat), ks.Nodup → (∀ k ∈ ks, 1 ≤ k ∧ k ≤ n) → (ks.map (fun k => 2 ^ (n - k))).sum + 1 ≤ 2 ^ n
 | 0, ks, _, h => by
  cases ks with
  | nil => simp
  | cons k ks => have := h k (by simp); omega
 | n + 1, ks, hn, h => by
  have key : ∀ l : List Nat, (∀ k ∈ l, k ≤ n) → (l.map (fun k => 2 ^ (n + 1 - k))).sum = 2 * (l.map (fun k => 2 ^ (n - k))).sum := by
   intro l
   induction l with
   | nil => intro _; rfl
   | cons k l ih =>
    intro hl
    have h1 := hl k (by simp)
    have e : n + 1 - k = (n - k) + 1 := by omega
    simp only [List.map_cons, List.sum_cons]
    rw [ih (fun k hk => hl k (by simp [hk])), e, Nat.pow_succ]; omega
  by_cases hm : n + 1 ∈ ks
  ·
   have hp := List.perm_cons_erase hm
   have h1 := sum_pow n (ks.erase (n + 1)) (hn.erase _) (fun k hk => by
    have h2 := h k (List.mem_of_mem_erase hk)
    have : k ≠ n + 1 := fun e => by subst e; exact (List.Nodup.not_mem_erase hn) hk
    omega)
   have h2 := (hp.map (fun k => 2 ^ (n + 1 - k))).sum_nat
   rw [h2, List.map_cons, List.sum_cons, key _ (fun k hk => by
    have h2 := h k (List.mem_of_mem_erase hk)
    have : k ≠ n + 1 := fun e => by subst e; exact (List.Nodup.not_mem_erase hn) hk
    omega), Nat.sub_self, Nat.pow_succ]
   omega
  ·
   rw [key _ (fun k hk => by have := h k hk; have : k ≠ n + 1 := fun e => hm (e ▸ hk); omega)]
   have h1 := sum_pow n ks hn (fun k hk => by have := h k hk; have : k ≠ n + 1 := fun e => hm (e ▸ hk); omega)
   rw [Nat.pow_succ]; omega
theorem isPre_take {p s : List Int} (h : isPre p s = true) : s.take p.length = p := by
 unfold isPre at h; simp at h; exact h.2
theorem sumB_eq (s : List Int) : ∀ L : List S55, sumB s L = (((L.filter (fun f => isPre f.f0 s)).map (fun f => f.f0.length)).map (fun k => 2 ^ (s.length - k))).sum
 | [] => rfl
 | f :: fs => by
  simp only [sumB]
  rw [sumB_eq s fs, List.filter_cons]
  cases isPre f.f0 s <;> simp
theorem sumB_le {s : List Int} {L : List S55} (hL : ∀ f ∈ L, 1 ≤ f.f0.length) (hp : L.Pairwise (fun a b => a.f0 ≠ b.f0)) : sumB s L ≤ 2 ^ s.length := by
 rw [sumB_eq]
 have h1 : ((L.filter (fun f => isPre f.f0 s)).map (fun f => f.f0.length)).Nodup := by
  rw [List.nodup_iff_pairwise_ne, List.pairwise_map]
  have h2 := hp.filter (fun f => isPre f.f0 s)
  refine List.Pairwise.imp_of_mem (fun {a b} ha hb h => ?_) h2
  intro e
  have h3 := isPre_take (List.mem_filter.1 ha).2
  have h4 := isPre_take (List.mem_filter.1 hb).2
  rw [e] at h3
  exact h (h3.symm.trans h4)
 have := sum_pow s.length _ h1 (fun k hk => by
  obtain ⟨f, hf, rfl⟩ := List.mem_map.1 hk
  obtain ⟨hf1, hf2⟩ := List.mem_filter.1 hf
  exact ⟨hL f hf1, isPre_len hf2⟩)
 omega
/-- A least sum, -1 for none. -/
def lA (c : S55 → Int) (g : List Int → Int) (s : List Int) : List S55 → Int → Int
 | [], a => a
 | f :: fs, a => if isPre f.f0 s = true then (if g (s.drop f.f0.length) < 0 then lA c g s fs a else lA c g s fs (if a < 0 ∨ g (s.drop f.f0.length) + c f < a then g (s.drop f.f0.length) + c f else a)) else lA c g s fs a
def oW (o : OutC) : Int := if o.f0 = 0 then -1 else o.f1
def oF (o : OutC) : Int := if o.f0 = 0 then -1 else o.f2
structure OBd (n : Nat) (o : OutC) : Prop where
 lo : 0 ≤ o.f0
 hi : o.f0 ≤ ((2 ^ n : Nat) : Int)
 w0 : o.f0 ≠ 0 → 0 ≤ o.f1
 w1 : o.f0 ≠ 0 → o.f1 ≤ 9 * (n : Int)
 f0 : o.f0 ≠ 0 → 0 ≤ o.f2
 f1 : o.f0 ≠ 0 → o.f2 ≤ (n : Int)
theorem outW_plain {n m : Nat} {o r : OutC} {f : S55} (hn : n ≤ 23) (hm : m + f.f0.length ≤ n) (hf : 1 ≤ f.f0.length) (hw : 1 ≤ f.f1 ∧ f.f1 ≤ 9) (h1 : OBd n o) (h2 : OBd m r) (hr : r.f0 ≠ 0) (hs : o.f0 + r.f0 ≤ ((2 ^ n : Nat) : Int)) :
 OBd n (outW o f r) ∧ (outW o f r).f0 = o.f0 + r.f0 ∧ oW (outW o f r) = (if oW o < 0 ∨ oW r + f.f1 < oW o then oW r + f.f1 else oW o) ∧ oF (outW o f r) = (if oF o < 0 ∨ oF r + 1 < oF o then oF r + 1 else oF o) := by
 have hp : (2 : Nat) ^ n ≤ 2 ^ 23 := Nat.pow_le_pow_right (by omega) hn
 have hp' : (2 : Nat) ^ 23 = 8388608 := rfl
 obtain ⟨a1, a2, a3, a4, a5, a6⟩ := h1
 obtain ⟨b1, b2, b3, b4, b5, b6⟩ := h2
 have b3 := b3 hr; have b4 := b4 hr; have b5 := b5 hr; have b6 := b6 hr
 have hne : o.f0 + r.f0 ≠ 0 := by omega
 unfold outW
 by_cases h : o.f0 > 0
 ·
  have hz : o.f0 ≠ 0 := by omega
  have a3 := a3 hz; have a4 := a4 hz; have a5 := a5 hz; have a6 := a6 hz
  rw [if_pos h, w64 (x := o.f0 + r.f0) (by omega) (by omega), w64 (x := f.f1 + r.f1) (by omega) (by omega), w64 (x := 1 + r.f2) (by omega) (by omega)]
  have m1 := mn_le (f.f1 + r.f1) o.f1
  have m2 := mn_le (1 + r.f2) o.f2
  refine ⟨⟨by simp only []; omega, hs, fun _ => by simp only []; omega, fun _ => by simp only []; omega, fun _ => by simp only []; omega, fun _ => by simp only []; omega⟩, rfl, ?_, ?_⟩
  ·
   unfold oW
   simp only []
   rw [if_neg hne, if_neg hz, if_neg hr]
   by_cases hc : r.f1 + f.f1 < o.f1
   ·
    rw [if_pos (.inr hc)]; omega
   ·
    rw [if_neg (by omega)]; omega
  ·
   unfold oF
   simp only []
   rw [if_neg hne, if_neg hz, if_neg hr]
   by_cases hc : r.f2 + 1 < o.f2
   ·
    rw [if_pos (.inr hc)]; omega
   ·
    rw [if_neg (by omega)]; omega
 ·
  have hz : o.f0 = 0 := by omega
  rw [if_neg h, w64 (x := o.f0 + r.f0) (by omega) (by omega), w64 (x := f.f1 + r.f1) (by omega) (by omega), w64 (x := 1 + r.f2) (by omega) (by omega)]
  refine ⟨⟨by simp only []; omega, hs, fun _ => by simp only []; omega, fun _ => by simp only []; omega, fun _ => by simp only []; omega, fun _ => by simp only []; omega⟩, rfl, ?_, ?_⟩
  ·
   unfold oW
   simp only []
   rw [if_neg hne, if_pos hz, if_neg hr, if_pos (.inl (by omega))]; omega
  ·
   unfold oF
   simp only []
   rw [if_neg hne, if_pos hz, if_neg hr, if_pos (.inl (by omega))]; omega
theorem rdA_plain {rec : List Int → OutC} {s : List Int} (hs : s.length ≤ 23) (hrec : ∀ k, 1 ≤ k → k ≤ s.length → OBd (s.length - k) (rec (s.drop k))) :
 ∀ (L : List S55) (acc : OutC), (∀ f ∈ L, 1 ≤ f.f0.length ∧ 1 ≤ f.f1 ∧ f.f1 ≤ 9) → OBd s.length acc → acc.f0 + (sumB s L : Int) ≤ ((2 ^ s.length : Nat) : Int) →
  OBd s.length (rdA rec s L acc) ∧ oW (rdA rec s L acc) = lA (fun f => f.f1) (fun t => oW (rec t)) s L (oW acc) ∧ oF (rdA rec s L acc) = lA (fun _ => 1) (fun t => oF (rec t)) s L (oF acc)
 | [], acc, _, h, _ => ⟨h, rfl, rfl⟩
 | f :: fs, acc, hL, h, hb => by
  have hf := hL f (by simp)
  have hL' := fun g hg => hL g (List.mem_cons_of_mem _ hg)
  simp only [rdA, lA, sumB] at hb ⊢
  by_cases hp : isPre f.f0 s = true
  ·
   rw [if_pos hp] at hb
   rw [if_pos hp, if_pos hp, if_pos hp]
   have hl := isPre_len hp
   have hr := hrec f.f0.length hf.1 hl
   generalize rec (s.drop f.f0.length) = r at hr ⊢
   rw [Int.natCast_add] at hb
   have hbr := hr.hi
   by_cases hz : r.f0 = 0
   ·
    have e1 : oW r = -1 := if_pos hz
    have e2 : oF r = -1 := if_pos hz
    rw [if_pos hz, if_pos (by rw [e1]; omega), if_pos (by rw [e2]; omega)]
    have := hr.lo
    exact rdA_plain hs hrec fs acc hL' h (by omega)
   ·
    have e1 : ¬ oW r < 0 := by unfold oW; rw [if_neg hz]; have := hr.w0 hz; omega
    have e2 : ¬ oF r < 0 := by unfold oF; rw [if_neg hz]; have := hr.f0 hz; omega
    rw [if_neg hz, if_neg e1, if_neg e2]
    obtain ⟨o1, o2, o3, o4⟩ := outW_plain (n := s.length) (m := s.length - f.f0.length) (o := acc) (r := r) (f := f) hs (by omega) hf.1 hf.2 h hr hz (by omega)
    rw [← o3, ← o4]
    exact rdA_plain hs hrec fs (outW acc f r) hL' o1 (by rw [o2]; omega)
  ·
   rw [if_neg hp] at hb
   rw [if_neg hp, if_neg hp, if_neg hp]
   exact rdA_plain hs hrec fs acc hL' h (by omega)
/-- What valid formulas are good for. -/
structure FsV (L : List S55) : Prop where
 len : L.length ≤ 8
 one : ∀ f ∈ L, 1 ≤ f.f0.length ∧ f.f0.length ≤ 5
 wt : ∀ f ∈ L, 1 ≤ f.f1 ∧ f.f1 ≤ 9
 pw : L.Pairwise (fun a b => a.f0 ≠ b.f0)
theorem FsV.of {L : List S55} (h : fsOk L = true) : FsV L :=
 ⟨fsOk_len h, fun f hf => fOk_len (fsOk_all h f hf), fun f hf => fOk_weight (fsOk_all h f hf), (goF_pw (acc := []) (by unfold fsOk at h; simp at h; exact h.2)).2⟩
theorem rdO_bd {L : List S55} (hv : FsV L) : ∀ (n : Nat) (s : List Int), s.length = n → n ≤ 23 → OBd n (rdO L s) := by
 intro n
 induction n using Nat.strongRecOn with
 | ind n ih =>
  intro s hs hn
  by_cases hne : s = []
  ·
   subst hne
   simp at hs
   subst hs
   rw [rdO_nil]
   exact ⟨by simp, by simp, by simp, by simp, by simp, by simp⟩
  ·
   rw [rdO_step (fun f hf => (hv.one f hf).1) hne]
   subst hs
   refine (rdA_plain hn (fun k hk hk' => ih (s.length - k) (by omega) _ (by rw [List.length_drop]) (by omega)) L ⟨0, 0, 0⟩ (fun f hf => ⟨(hv.one f hf).1, hv.wt f hf⟩) ⟨by simp, Int.natCast_nonneg _, by simp, by simp, by simp, by simp⟩ ?_).1
   have := sumB_le (s := s) (fun f hf => (hv.one f hf).1) hv.pw
   simp only [Int.zero_add]
   exact_mod_cast this
theorem rdO_least {L : List S55} (hv : FsV L) {s : List Int} (hs : s.length ≤ 23) (hne : s ≠ []) :
 oW (rdO L s) = lA (fun f => f.f1) (fun t => oW (rdO L t)) s L (-1) ∧ oF (rdO L s) = lA (fun _ => 1) (fun t => oF (rdO L t)) s L (-1) := by
 have h := rdA_plain (rec := rdO L) (s := s) hs (fun k hk hk' => rdO_bd hv (s.length - k) _ (by rw [List.length_drop]) (by omega)) L ⟨0, 0, 0⟩ (fun f hf => ⟨(hv.one f hf).1, hv.wt f hf⟩) ⟨by simp, Int.natCast_nonneg _, by simp, by simp, by simp, by simp⟩ (by
  have := sumB_le (s := s) (fun f hf => (hv.one f hf).1) hv.pw
  simp only [Int.zero_add]
  exact_mod_cast this)
 rw [rdO_step (fun f hf => (hv.one f hf).1) hne]
 exact ⟨h.2.1, h.2.2⟩

def goB (l : List S55) : List Int → List Int → List Int × Bool
 | acc, [] => (acc, true)
 | acc, i :: is => if i < 0 ∨ (l.length : Int) ≤ i ∨ acc.length + (rd_T55 l i).f0.length > 23 then ([], false) else goB l (acc ++ (rd_T55 l i).f0) is
def fbuild (l : List S55) (r : List Int) : List Int × Bool := if fsOk l = true then goB l [] r else ([], false)
theorem goB_len (l : List S55) : ∀ r acc, acc.length ≤ 23 → (goB l acc r).1.length ≤ 23
 | [], acc, h => h
 | i :: is, acc, h => by
  simp only [goB]
  split
  ·
   simp
  ·
   exact goB_len l is _ (by rw [List.length_append]; omega)
theorem fbuild_len (l : List S55) (r : List Int) : (fbuild l r).1.length ≤ 23 := by
 unfold fbuild
 split
 ·
  exact goB_len l r [] (by simp)
 ·
  simp
theorem spec_FormulasBuild_ev (l : List S55) (r : List Int) (hll : l.length ≤ 1000000000000) (hl : ∀ x ∈ l, x.f0.length ≤ 1000000000000) (hr : r.length ≤ 1000000000000) : Ev (fun k => spec_FormulasBuild.f k l r) (fbuild l r) := by
 unfold spec_FormulasBuild.f fbuild
 refine Ev.someb (Ev.bind (spec_FormulasValid_ev l hll hl) ?_)
 cases hok : fsOk l
 ·
  exact Ev.neg (by simp) (Ev.eqr (Ev.now _) (by simp))
 refine Ev.pos rfl ?_
 rw [if_pos rfl]
 have h8 := fsOk_len hok
 have := Ev.over (0 : Int) r (fun k (s : List Int) i => spec_FormulasBuild.l0 k l r s i) (fun s rest => goB l s rest) (fun i s => s.length ≤ 23) (by
  intro s _
  refine Ev.succ ?_
  simp only [spec_FormulasBuild.l0, goB]
  exact Ev.neg (by omega) (Ev.now _)) (by
  intro s i rest hs hi _ ih
  refine Ev.succ ?_
  simp only [spec_FormulasBuild.l0, goB]
  rw [w64 (x := (l.length : Int) - 1) (by omega) (by omega)]
  refine Ev.pos (by omega) (Ev.pos (by omega) (Ev.conb (spec_l6In_eq _ _ _) ?_))
  have hrd : rd r (i : Int) = r.getD i 0 := rfl
  rw [hrd]
  generalize r.getD i 0 = n
  by_cases h1 : 0 ≤ n ∧ n ≤ (l.length : Int) - 1
  ·
   rw [decide_eq_true h1]
   have hw := fOk_len (fsOk_all hok _ (rd_mem (k := n) (by omega) (by omega)))
   refine Ev.pos rfl (Ev.pos h1.1 (Ev.pos (by omega) (Ev.pos (by omega) (Ev.someb ?_))))
   by_cases h3 : ((s ++ (rd_T55 l n).f0).length : Int) ≥ 24
   ·
    rw [if_pos (by rw [List.length_append] at h3; omega)]
    exact Ev.pos h3 (Ev.now _)
   ·
    have h3' := h3
    rw [List.length_append] at h3'
    rw [if_neg (by omega), w64 (by omega) (by omega)]
    exact Ev.neg h3 (ih _ (by rw [List.length_append]; omega))
  ·
   rw [decide_eq_false h1, if_pos (by omega)]
   exact Ev.neg (by simp) (Ev.now _)) 0 [] (Nat.zero_le _) (by simp)
 simpa using this

theorem drawAt_ev {s : List Int} (hc : Code s) (p n : Int) (hp : 0 ≤ p) (hp' : p ≤ 1000000) (hn : 0 ≤ n) :
 Evx (fun k => spec_l91At.f k s p n) (fun r => -1 ≤ r.1 ∧ r.1 ≤ n ∧ p ≤ r.2 ∧ r.2 ≤ p + 2) := by
 have tt : ∀ q, 0 ≤ q → q ≤ 2000000 → Evx (fun k => spec_l91At.j0 k n true s q) (fun r => -1 ≤ r.1 ∧ r.1 ≤ n ∧ r.2 = q + 1) := by
  intro q hq hq'
  refine Evx.succ ?_
  simp only [spec_l91At.j0, if_true]
  refine Evx.someb (Evx.bind (pick_ev hc q 2 hq (by omega)) ?_)
  rintro ⟨r, q'⟩ ⟨hr0, hr1, rfl⟩
  have hr0 : 0 ≤ r := hr0
  have hr1 : r < 2 ∨ r = 0 := hr1
  refine Evx.pos hr0 (Evx.pos (by (try simp only [List.length_set, List.length_drop, List.length_take, List.length_append, List.length_cons, List.length_nil, Int.natCast_add, Int.natCast_one, Int.natCast_zero] at *); omega) (Evx.now ?_))
  have : r = 0 ∨ r = 1 := by omega
  rcases this with rfl | rfl
  ·
   exact ⟨by simp [rd], by simp [rd]; omega, rfl⟩
  ·
   exact ⟨by simp [rd]; omega, by simp [rd], rfl⟩
 unfold spec_l91At.f
 refine Evx.ite (fun _ => (tt p hp (by omega)).mono (by rintro ⟨a, q⟩ ⟨h1, h2, h3⟩; exact ⟨h1, h2, (by (try simp only [List.length_set, List.length_drop, List.length_take, List.length_append, List.length_cons, List.length_nil, Int.natCast_add, Int.natCast_one, Int.natCast_zero] at *); omega), (by (try simp only [List.length_set, List.length_drop, List.length_take, List.length_append, List.length_cons, List.length_nil, Int.natCast_add, Int.natCast_one, Int.natCast_zero] at *); omega)⟩)) (fun h0 => ?_)
 refine Evx.bind (pick_ev hc p 20 hp (by omega)) ?_
 rintro ⟨r, q'⟩ ⟨hr0, hr1, rfl⟩
 by_cases e : r = 0
 ·
  subst e
  exact (tt (p + 1) (by omega) (by omega)).mono (by rintro ⟨a, q⟩ ⟨h1, h2, h3⟩; exact ⟨h1, h2, (by (try simp only [List.length_set, List.length_drop, List.length_take, List.length_append, List.length_cons, List.length_nil, Int.natCast_add, Int.natCast_one, Int.natCast_zero] at *); omega), (by (try simp only [List.length_set, List.length_drop, List.length_take, List.length_append, List.length_cons, List.length_nil, Int.natCast_add, Int.natCast_one, Int.natCast_zero] at *); omega)⟩)
 ·
  have e' : (r == 0) = false := by rw [beq_eq_false_iff_ne]; exact e
  simp only [e']
  refine Evx.succ ?_
  simp only [spec_l91At.j0]
  refine Evx.neg (by simp) (Evx.bind (pick_ev hc (p + 1) n (by omega) (by omega)) ?_)
  rintro ⟨u, q'⟩ ⟨hu0, hu1, rfl⟩
  exact Evx.now ⟨(by (try simp only [List.length_set, List.length_drop, List.length_take, List.length_append, List.length_cons, List.length_nil, Int.natCast_add, Int.natCast_one, Int.natCast_zero] at *); omega), (by (try simp only [List.length_set, List.length_drop, List.length_take, List.length_append, List.length_cons, List.length_nil, Int.natCast_add, Int.natCast_one, Int.natCast_zero] at *); omega), (by (try simp only [List.length_set, List.length_drop, List.length_take, List.length_append, List.length_cons, List.length_nil, Int.natCast_add, Int.natCast_one, Int.natCast_zero] at *); omega), (by (try simp only [List.length_set, List.length_drop, List.length_take, List.length_append, List.length_cons, List.length_nil, Int.natCast_add, Int.natCast_one, Int.natCast_zero] at *); omega)⟩

theorem drawReading_loop {s : List Int} (hc : Code s) (n m : Int) (hn : 0 ≤ n) (d : Nat) : ∀ (out : List Int) (i p : Int), 0 ≤ i → m - i = d → m ≤ 5 → (out.length : Int) ≤ i → 0 ≤ p → p + 2 * d ≤ 1000000 →
 Evx (fun k => spec_l92Reading.l0 k n out m i s p) (fun r => r.1.length ≤ 5 ∧ 0 ≤ r.2 ∧ r.2 ≤ p + 2 * d) := by
 induction d with
 | zero =>
  intro out i p h0 h1 h2 h3 h4 h5
  refine Evx.succ ?_
  simp only [spec_l92Reading.l0]
  exact Evx.neg (by omega) (Evx.now ⟨by show out.length ≤ 5; omega, h4, by show p ≤ _; omega⟩)
 | succ d ih =>
  intro out i p h0 h1 h2 h3 h4 h5
  refine Evx.succ ?_
  simp only [spec_l92Reading.l0]
  rw [w64 (x := i + 1) (by omega) (by omega)]
  refine Evx.pos (by omega) (Evx.bind (drawAt_ev hc p n h4 (by omega) hn) ?_)
  rintro ⟨r, q⟩ ⟨hr0, hr1, hq, hq'⟩
  have hq : p ≤ q := hq
  have hq' : q ≤ p + 2 := hq'
  refine Evx.pos (by omega) ?_
  exact (ih (out ++ [r]) (i + 1) q (by omega) (by omega) h2 (by rw [List.length_append, List.length_singleton]; omega) (by omega) (by omega)).mono (fun r h => ⟨h.1, h.2.1, by have := h.2.2; omega⟩)
theorem drawReading_ev {s : List Int} (hc : Code s) (p n : Int) (hn : 0 ≤ n) (hp : 0 ≤ p) (hp' : p ≤ 100000) : Evx (fun k => spec_l92Reading.f k s p n) (fun r => r.1.length ≤ 5 ∧ 0 ≤ r.2 ∧ r.2 ≤ p + 11) := by
 unfold spec_l92Reading.f
 refine Evx.bind (pick_ev hc p 6 hp (by omega)) ?_
 rintro ⟨u, q⟩ ⟨hu0, hu1, rfl⟩
 have hu0 : 0 ≤ u := hu0
 have hu1 : u < 6 ∨ u = 0 := hu1
 obtain ⟨e, he⟩ : ∃ e : Nat, u - 0 = e := ⟨u.toNat, by omega⟩
 exact (drawReading_loop hc n u hn e [] 0 (p + 1) (by omega) he (by omega) (by simp) (by omega) (by omega)).mono (fun r h => ⟨h.1, h.2.1, by have := h.2.2; omega⟩)

theorem drawBuilt_loop {s : List Int} (hc : Code s) (L : List S55) (n : Int) (hn : n ≤ 6) (d : Nat) : ∀ (out : List Int) (i p : Int), 0 ≤ i → n - i = d → (out.length : Int) = i → 0 ≤ p → p + d ≤ 1000000 →
 Evx (fun k => spec_l92Built.l0 k L out n i s p) (fun r => r.1 = L ∧ r.2.1.length ≤ 23) := by
 induction d with
 | zero =>
  intro out i p h0 h1 h2 h3 h4
  refine Evx.succ ?_
  simp only [spec_l92Built.l0]
  refine Evx.neg (by omega) (Evx.ite (fun hn0 => ?_) (fun _ => Evx.now ⟨rfl, by show out.length ≤ 23; omega⟩))
  refine Evx.bind (pick_ev hc p 16 h3 (by omega)) ?_
  rintro ⟨u, q⟩ _
  exact Evx.ite (fun _ => Evx.pos (by omega) (Evx.now ⟨rfl, by show (out.set _ _).length ≤ 23; rw [List.length_set]; omega⟩)) (fun _ => Evx.now ⟨rfl, by show out.length ≤ 23; omega⟩)
 | succ d ih =>
  intro out i p h0 h1 h2 h3 h4
  refine Evx.succ ?_
  simp only [spec_l92Built.l0]
  rw [w64 (x := i + 1) (by omega) (by omega)]
  refine Evx.pos (by omega) (Evx.bind (pick_ev hc p 3 h3 (by omega)) ?_)
  rintro ⟨u, q⟩ ⟨_, _, rfl⟩
  refine Evx.pos (by omega) ?_
  exact ih _ (i + 1) (p + 1) (by omega) (by omega) (by rw [List.length_append, List.length_singleton]; omega) (by omega) (by omega)
theorem drawBuilt_ev {s : List Int} (hc : Code s) : Evx (fun k => spec_l92Built.f k s 0) (fun r => DrF r.1 ∧ r.2.1.length ≤ 23) := by
 unfold spec_l92Built.f
 refine Evx.bind (drawFormulas_ev hc 0 (by omega) (by omega)) ?_
 rintro ⟨L, q⟩ ⟨hD, hq, hq'⟩
 have hD : DrF L := hD
 have hq : 0 ≤ q := hq
 have hq' : q ≤ 0 + 53 := hq'
 refine Evx.bind (drawReading_ev hc q L.length (by omega) hq (by omega)) ?_
 rintro ⟨r, q'⟩ ⟨hr, hr0, hr1⟩
 have hr : r.length ≤ 5 := hr
 have hr0 : 0 ≤ q' := hr0
 have hr1 : q' ≤ q + 11 := hr1
 have hl : ∀ x ∈ L, x.f0.length ≤ 1000000000000 := fun x hx => by have := hD.2 x hx; omega
 refine Evx.bind1 (spec_FormulasBuild_ev L r (by have := hD.1; omega) hl (by omega)) ?_
 have hbl := fbuild_len L r
 have loop : ∀ p, 0 ≤ p → p ≤ 1000 → Evx (fun k => spec_l92Built.j0 k L (fbuild L r).1 false s p) (fun r => DrF r.1 ∧ r.2.1.length ≤ 23) := by
  intro p hp hp'
  refine Evx.succ ?_
  simp only [spec_l92Built.j0]
  refine Evx.neg (by simp) (Evx.bind (pick_ev hc p 7 hp (by omega)) ?_)
  rintro ⟨u, q⟩ ⟨hu0, hu1, rfl⟩
  have hu0 : 0 ≤ u := hu0
  have hu1 : u < 7 ∨ u = 0 := hu1
  obtain ⟨e, he⟩ : ∃ e : Nat, u - 0 = e := ⟨u.toNat, by omega⟩
  exact (drawBuilt_loop hc L u (by omega) e [] 0 (p + 1) (by omega) he (by simp) (by omega) (by omega)).mono (fun r h => ⟨by rw [h.1]; exact hD, h.2⟩)
 refine Evx.ite (fun _ => ?_) (fun _ => loop q' hr0 (by omega))
 refine Evx.bind (pick_ev hc q' 4 hr0 (by omega)) ?_
 rintro ⟨u, q3⟩ ⟨_, _, rfl⟩
 cases h : decide (u > 0)
 ·
  exact loop (q' + 1) (by omega) (by omega)
 ·
  refine Evx.succ ?_
  simp only [spec_l92Built.j0]
  exact Evx.pos trivial (Evx.now ⟨hD, hbl⟩)
theorem drawBuilt_open (l0 : List Int) (hw : ∀ x ∈ l0, (Lit.int .u8 x).wf = true) : Evx (fun k => spec_DrawFormulasUsed.f k l0) (fun r => DrF r.1 ∧ r.2.length ≤ 23) := by
 obtain ⟨s, h1, hc⟩ := open_ev l0 hw
 unfold spec_DrawFormulasUsed.f
 refine Evx.conb h1 (Evx.bind (drawBuilt_ev hc) ?_)
 rintro ⟨L, S, q⟩ ⟨hD, hq⟩
 exact Evx.now ⟨hD, hq⟩

theorem spec_l6fAt_ev (f : S55) (S : List Int) (i : Nat) (hi : i ≤ S.length) (hS : S.length ≤ 1000000) (hf : f.f0.length ≤ 1000000) : Ev (fun k => spec_l6fAt.f k f.f0 f.f1 S (i : Int)) (isPre f.f0 (S.drop i)) := by
 unfold spec_l6fAt.f isPre
 rw [w64 (by omega) (by omega)]
 by_cases h : (i : Int) + (f.f0.length : Int) ≤ (S.length : Int)
 ·
  rw [decide_eq_true (by rw [List.length_drop]; omega : f.f0.length ≤ (S.drop i).length), Bool.true_and]
  refine Ev.pos h (Ev.pos (by omega) (Ev.pos (by omega) ?_))
  have e : ((S.take ((i : Int) + (f.f0.length : Int)).toNat).drop (i : Int).toNat) = (S.drop i).take f.f0.length := by
   have e1 : ((i : Int) + (f.f0.length : Int)).toNat = i + f.f0.length := by omega
   rw [e1, Int.toNat_natCast, List.drop_take]
   congr 1; omega
  rw [e]
  exact Ev.bind (spec_l2Same_ev _ _ (by rw [List.length_take, List.length_drop]; omega)) (Ev.now _)
 ·
  rw [decide_eq_false (by rw [List.length_drop]; omega : ¬ f.f0.length ≤ (S.drop i).length)]
  exact Ev.neg h (Ev.now _)
theorem spec_l6fSteps_ev (S : List Int) (hS : S.length ≤ 1000000000000) : Ev (fun k => spec_l6fSteps.f k S) (decide (S.length ≤ 23) && S.all (inR (-20) 20)) := by
 unfold spec_l6fSteps.f
 have := Ev.over (0 : Int) S (fun k (_ : Unit) i => spec_l6fSteps.l0 k S i) (fun _ rest => rest.all (inR (-20) 20) && decide (S.length ≤ 23)) (fun _ _ => True) (by
  intro s _
  refine Ev.succ ?_
  simp only [spec_l6fSteps.l0]
  refine Ev.neg (by omega) (Ev.eqr (Ev.now _) ?_)
  simp only [List.all_nil, Bool.true_and]
  rw [Bool.eq_iff_iff]; simp; omega) (by
  intro s i rest _ hi _ ih
  refine Ev.succ ?_
  simp only [spec_l6fSteps.l0, List.all_cons]
  rw [w64 (by omega) (by omega)]
  refine Ev.pos (by omega) (Ev.pos (by omega) (Ev.conb (spec_l6In_eq _ _ _) ?_))
  have hrd : rd S (i : Int) = S.getD i 0 := rfl
  rw [hrd]
  show Ev _ ((decide (-20 ≤ S.getD i 0 ∧ S.getD i 0 ≤ 20) && _) && _)
  by_cases h : -20 ≤ S.getD i 0 ∧ S.getD i 0 ≤ 20
  ·
   rw [decide_eq_true h]
   exact Ev.pos rfl (ih () trivial)
  ·
   rw [decide_eq_false h]
   exact Ev.neg (by simp) (Ev.now _)) 0 () (Nat.zero_le _) trivial
 refine Ev.eqr (by simpa using this) ?_
 rw [Bool.and_comm]
theorem spec_l6fOk_ev (L : List S55) (S : List Int) (hll : L.length ≤ 1000000000000) (hl : ∀ x ∈ L, x.f0.length ≤ 1000000000000) (hS : S.length ≤ 1000000000000) : Ev (fun k => spec_l6fOk.f k L S) (okR L S) := by
 unfold spec_l6fOk.f okR
 refine Ev.bind (spec_FormulasValid_ev L hll hl) ?_
 cases fsOk L
 ·
  exact Ev.neg (by simp) (Ev.now _)
 ·
  refine Ev.pos rfl ?_
  rw [Bool.true_and]
  exact Ev.bind (spec_l6fSteps_ev S hS) (Ev.now _)

theorem getD_set_self {y : List Int} {i : Nat} (v : Int) (h : i < y.length) : (y.set i v).getD i 0 = v := by
 rw [List.getD_eq_getElem?_getD, List.getElem?_set_self h]; rfl
theorem getD_set_other {y : List Int} {i j : Nat} (v : Int) (h : i ≠ j) : (y.set i v).getD j 0 = y.getD j 0 := by
 rw [List.getD_eq_getElem?_getD, List.getElem?_set_ne h, ← List.getD_eq_getElem?_getD]
theorem ext_getD {a b : List Int} (h : a.length = b.length) (h' : ∀ j, j < a.length → a.getD j 0 = b.getD j 0) : a = b := by
 apply List.ext_getElem h
 intro j h1 h2
 have := h' j h1
 rw [List.getD_eq_getElem?_getD, List.getD_eq_getElem?_getD, List.getElem?_eq_getElem h1, List.getElem?_eq_getElem h2] at this
 exact this

def mA (g : List Int → Int) (s : List Int) : List S55 → Int → Int
 | [], a => a
 | f :: fs, a => if isPre f.f0 s = true then mA g s fs (wrap64 (a + g (s.drop f.f0.length))) else mA g s fs a
theorem wrap_range (x : Int) : -9223372036854775808 ≤ wrap64 x ∧ wrap64 x ≤ 9223372036854775807 := by unfold wrap64; omega
theorem outW_f0 (o : OutC) (f : S55) (r : OutC) : (outW o f r).f0 = wrap64 (o.f0 + r.f0) := by unfold outW; split <;> rfl
theorem rdA_many (rec : List Int → OutC) (s : List Int) : ∀ (L : List S55) (acc : OutC), -9223372036854775808 ≤ acc.f0 → acc.f0 ≤ 9223372036854775807 → (rdA rec s L acc).f0 = mA (fun t => (rec t).f0) s L acc.f0
 | [], acc, _, _ => rfl
 | f :: fs, acc, h, h' => by
  simp only [rdA, mA]
  by_cases hp : isPre f.f0 s = true
  ·
   rw [if_pos hp, if_pos hp]
   by_cases hz : (rec (s.drop f.f0.length)).f0 = 0
   ·
    rw [if_pos hz, rdA_many rec s fs acc h h', hz, Int.add_zero, w64 h h']
   ·
    rw [if_neg hz]
    have := wrap_range (acc.f0 + (rec (s.drop f.f0.length)).f0)
    rw [rdA_many rec s fs _ (by rw [outW_f0]; exact this.1) (by rw [outW_f0]; exact this.2), outW_f0]
  ·
   rw [if_neg hp, if_neg hp, rdA_many rec s fs acc h h']
theorem spec_l6fWays_inner {L : List S55} {S : List Int} (hL : ∀ f ∈ L, 1 ≤ f.f0.length ∧ f.f0.length ≤ 5) (hll : L.length ≤ 8) (hS : S.length ≤ 23) (i : Nat) (hi : i < S.length) (R : List Int)
 (W : Nat → Int) (hW : ∀ j, W j = (rdO L (S.drop j)).f0)
 (hnext : ∀ y : List Int, y.length = S.length + 1 → (∀ j, i ≤ j → j ≤ S.length → y.getD j 0 = W j) → (∀ j, j < i → y.getD j 0 = 0) → Ev (fun k => spec_l6fWays.l0 k L S y ((i : Int) - 1)) R)
 (y : List Int) (hy : y.length = S.length + 1) (hy1 : ∀ j, i < j → j ≤ S.length → y.getD j 0 = W j) (hy2 : ∀ j, j ≤ i → y.getD j 0 = 0) :
 Ev (fun k => spec_l6fWays.l1 k L S y (i : Int) 0) R := by
 have hWi : W i = mA (fun t => (rdO L t).f0) (S.drop i) L 0 := by
  rw [hW, rdO_step (fun f hf => (hL f hf).1) (by intro h; have := congrArg List.length h; rw [List.length_drop, List.length_nil] at this; omega)]
  exact rdA_many _ _ L _ (by simp) (by simp)
 have := Ev.over z55 L (fun k (y : List Int) q => spec_l6fWays.l1 k L S y (i : Int) q) (fun _ _ => R) (fun q y => y.length = S.length + 1 ∧ (∀ j, i < j → j ≤ S.length → y.getD j 0 = W j) ∧ (∀ j, j < i → y.getD j 0 = 0) ∧ mA (fun t => (rdO L t).f0) (S.drop i) (L.drop q) (y.getD i 0) = W i) (by
  intro y ⟨h1, h2, h3, h4⟩
  rw [List.drop_length] at h4
  simp only [mA] at h4
  refine Ev.succ ?_
  simp only [spec_l6fWays.l1]
  refine Ev.neg (by omega) ?_
  rw [w64 (by omega) (by omega)]
  exact hnext y h1 (fun j hj hj' => by rcases Nat.lt_or_eq_of_le hj with h | h; exact h2 j h hj'; rw [← h]; exact h4) h3) (by
  intro y q rest ⟨h1, h2, h3, h4⟩ hq hdr ih
  have hm : L.getD q z55 ∈ L := by
   rw [List.getD_eq_getElem?_getD, List.getElem?_eq_getElem hq]; exact List.getElem_mem hq
  have hf := hL _ hm
  have hrest : rest = L.drop (q + 1) := by
   rw [List.drop_eq_getElem_cons hq] at hdr
   exact ((List.cons.inj hdr).2).symm
  rw [hdr] at h4
  simp only [mA] at h4
  refine Ev.succ ?_
  simp only [spec_l6fWays.l1]
  have hrd : rd_T55 L (q : Int) = L.getD q z55 := rfl
  rw [hrd]
  rw [w64 (x := (q : Int) + 1) (by omega) (by omega)]
  generalize L.getD q z55 = f at hf h4
  refine Ev.pos (by omega) (Ev.pos (by omega) (Ev.bind (spec_l6fAt_ev f S i (by omega) (by omega) (by omega)) ?_))
  cases hp : isPre f.f0 (S.drop i)
  ·
   rw [if_neg (by rw [hp]; simp)] at h4
   refine Ev.neg (by simp) (ih y ⟨h1, h2, h3, ?_⟩)
   rw [← hrest]; exact h4
  ·
   rw [if_pos hp] at h4
   have hl := isPre_len hp
   rw [List.length_drop] at hl
   rw [w64 (x := (i : Int) + (f.f0.length : Int)) (by omega) (by omega)]
   refine Ev.pos rfl (Ev.pos (by omega) (Ev.pos (by omega) (Ev.pos (by omega) (Ev.pos (by omega) ?_))))
   have e1 : rd y (i : Int) = y.getD i 0 := rfl
   have e2 : rd y ((i : Int) + (f.f0.length : Int)) = W (i + f.f0.length) := by
    have : ((i : Int) + (f.f0.length : Int)).toNat = i + f.f0.length := by omega
    unfold rd
    rw [this]; exact h2 _ (by omega) (by omega)
   rw [e1, e2, Int.toNat_natCast]
   refine ih _ ⟨by rw [List.length_set]; exact h1, fun j hj hj' => by rw [getD_set_other _ (by omega)]; exact h2 j hj hj', fun j hj => by rw [getD_set_other _ (by omega)]; exact h3 j hj, ?_⟩
   rw [getD_set_self _ (by omega), ← hrest, hW (i + f.f0.length), ← List.drop_drop]
   exact h4) 0 y (Nat.zero_le _) ⟨hy, hy1, fun j hj => hy2 j (by omega), by rw [hy2 i (Nat.le_refl _), List.drop_zero]; exact hWi.symm⟩
 simpa using this
def waysL (L : List S55) (S : List Int) : List Int := (List.range (S.length + 1)).map (fun j => (rdO L (S.drop j)).f0)
theorem waysL_get {L : List S55} {S : List Int} {j : Nat} (h : j ≤ S.length) : (waysL L S).getD j 0 = (rdO L (S.drop j)).f0 := by
 unfold waysL
 rw [List.getD_eq_getElem?_getD, List.getElem?_map, List.getElem?_range (by omega)]; rfl
theorem waysL_len {L : List S55} {S : List Int} : (waysL L S).length = S.length + 1 := by unfold waysL; simp
theorem spec_l6fWays_ev {L : List S55} {S : List Int} (hL : ∀ f ∈ L, 1 ≤ f.f0.length ∧ f.f0.length ≤ 5) (hll : L.length ≤ 8) (hS : S.length ≤ 23) : Ev (fun k => spec_l6fWays.f k L S) (waysL L S) := by
 have key : ∀ m, m ≤ S.length → ∀ y : List Int, y.length = S.length + 1 → (∀ j, m ≤ j → j ≤ S.length → y.getD j 0 = (rdO L (S.drop j)).f0) → (∀ j, j < m → y.getD j 0 = 0) → Ev (fun k => spec_l6fWays.l0 k L S y ((m : Int) - 1)) (waysL L S) := by
  intro m
  induction m with
  | zero =>
   intro _ y h1 h2 _
   refine Ev.succ ?_
   simp only [spec_l6fWays.l0]
   refine Ev.neg (by omega) (Ev.eqr (Ev.now _) ?_)
   refine ext_getD (by rw [h1, waysL_len]) (fun j hj => ?_)
   rw [h2 j (Nat.zero_le _) (by omega), waysL_get (by omega)]
  | succ m ih =>
   intro hm y h1 h2 h3
   refine Ev.succ ?_
   simp only [spec_l6fWays.l0]
   have e : ((m + 1 : Nat) : Int) - 1 = (m : Int) := by omega
   rw [e]
   refine Ev.pos (by omega) ?_
   exact spec_l6fWays_inner hL hll hS m (by omega) _ (fun j => (rdO L (S.drop j)).f0) (fun _ => rfl) (fun y h1 h2 h3 => ih (by omega) y h1 h2 h3) y h1 (fun j hj hj' => h2 j (by omega) hj') (fun j hj => h3 j (by omega))
 unfold spec_l6fWays.f
 rw [w64 (x := (S.length : Int) + 1) (by omega) (by omega), w64 (x := (S.length : Int) - 1) (by omega) (by omega)]
 have e : ((S.length : Int) + 1).toNat = S.length + 1 := by omega
 rw [e]
 refine Ev.pos (by omega) (Ev.pos (by omega) (Ev.someb (Ev.pos (by omega) (Ev.pos (by rw [List.length_replicate]; omega) ?_))))
 rw [Int.toNat_natCast]
 refine key S.length (Nat.le_refl _) _ (by simp) (fun j hj hj' => ?_) (fun j hj => ?_)
 ·
  obtain rfl : j = S.length := by omega
  rw [getD_set_self _ (by simp), List.drop_length, rdO_nil]
 ·
  rw [getD_set_other _ (by omega), List.getD_eq_getElem?_getD, List.getElem?_replicate, if_pos (by omega)]; rfl

def cnt (g : List Int → Int) (s : List Int) : List S55 → Int
 | [] => 0
 | f :: fs => (if isPre f.f0 s = true then g (s.drop f.f0.length) else 0) + cnt g s fs
theorem cnt_nn {g : List Int → Int} {s : List Int} : ∀ l : List S55, (∀ f ∈ l, isPre f.f0 s = true → 0 ≤ g (s.drop f.f0.length)) → 0 ≤ cnt g s l
 | [], _ => Int.le_refl _
 | f :: fs, h => by
  simp only [cnt]
  have h1 := cnt_nn fs (fun x hx => h x (List.mem_cons_of_mem _ hx))
  by_cases hp : isPre f.f0 s = true
  ·
   rw [if_pos hp]; have := h f List.mem_cons_self hp; omega
  ·
   rw [if_neg hp]; omega
theorem mA_cnt {g : List Int → Int} {s : List Int} : ∀ (l : List S55) (a : Int), (∀ f ∈ l, isPre f.f0 s = true → 0 ≤ g (s.drop f.f0.length)) → 0 ≤ a → a + cnt g s l ≤ 4611686018427387904 → mA g s l a = a + cnt g s l
 | [], a, _, _, _ => by simp [mA, cnt]
 | f :: fs, a, h, h0, hb => by
  simp only [mA, cnt] at hb ⊢
  have h' := fun x hx => h x (List.mem_cons_of_mem _ hx)
  have hn := cnt_nn fs h'
  by_cases hp : isPre f.f0 s = true
  ·
   rw [if_pos hp] at hb ⊢
   rw [if_pos hp]
   have := h f List.mem_cons_self hp
   rw [w64 (by omega) (by omega), mA_cnt fs _ h' (by omega) (by omega)]
   omega
  ·
   rw [if_neg hp] at hb ⊢
   rw [if_neg hp, mA_cnt fs _ h' h0 (by omega)]
   omega
theorem cnt_sum {g : List Int → Int} {s : List Int} : ∀ l : List S55, (∀ f ∈ l, isPre f.f0 s = true → g (s.drop f.f0.length) ≤ ((2 ^ (s.length - f.f0.length) : Nat) : Int)) → cnt g s l ≤ (sumB s l : Int)
 | [], _ => by simp [cnt, sumB]
 | f :: fs, h => by
  simp only [cnt, sumB]
  have h1 := cnt_sum fs (fun x hx => h x (List.mem_cons_of_mem _ hx))
  rw [Int.natCast_add]
  by_cases hp : isPre f.f0 s = true
  ·
   rw [if_pos hp, if_pos hp]; have := h f List.mem_cons_self hp; omega
  ·
   rw [if_neg hp, if_neg hp]; omega
theorem cnt_sub {g g' : List Int → Int} {s : List Int} {l' l : List S55} (hs : l'.Sublist l) (h : ∀ f ∈ l, isPre f.f0 s = true → 0 ≤ g (s.drop f.f0.length)) (h' : ∀ f ∈ l, isPre f.f0 s = true → g' (s.drop f.f0.length) ≤ g (s.drop f.f0.length)) : cnt g' s l' ≤ cnt g s l := by
 induction hs with
 | slnil => exact Int.le_refl _
 | @cons l1 l2 a hs ih =>
  have := ih (fun x hx => h x (List.mem_cons_of_mem _ hx)) (fun x hx => h' x (List.mem_cons_of_mem _ hx))
  simp only [cnt]
  by_cases hp : isPre a.f0 s = true
  ·
   rw [if_pos hp]; have := h a List.mem_cons_self hp; omega
  ·
   rw [if_neg hp]; omega
 | @cons_cons l1 l2 a hs ih =>
  have := ih (fun x hx => h x (List.mem_cons_of_mem _ hx)) (fun x hx => h' x (List.mem_cons_of_mem _ hx))
  simp only [cnt]
  by_cases hp : isPre a.f0 s = true
  ·
   rw [if_pos hp, if_pos hp]; have := h' a List.mem_cons_self hp; omega
  ·
   rw [if_neg hp, if_neg hp]; omega
theorem rdO_cnt {L : List S55} (hv : FsV L) {s : List Int} (hl : s.length ≤ 23) (hs : s ≠ []) : (rdO L s).f0 = cnt (fun t => (rdO L t).f0) s L := by
 have hb : ∀ f ∈ L, isPre f.f0 s = true → OBd (s.length - f.f0.length) (rdO L (s.drop f.f0.length)) := fun f _ hp => rdO_bd hv _ _ (by rw [List.length_drop]) (by have := isPre_len hp; omega)
 have e : (rdO L s).f0 = mA (fun t => (rdO L t).f0) s L 0 := by
  rw [rdO_step (fun f hf => (hv.one f hf).1) hs]
  exact rdA_many _ _ _ _ (by decide) (by decide)
 have h1 := cnt_sum (g := fun t => (rdO L t).f0) (s := s) L (fun f hf hp => (hb f hf hp).hi)
 have h2 := sumB_le (s := s) (fun f hf => (hv.one f hf).1) hv.pw
 have h3 : 2 ^ s.length ≤ 2 ^ 23 := Nat.pow_le_pow_right (by decide) hl
 have h4 : (2 : Nat) ^ 23 = 8388608 := by decide
 rw [e, mA_cnt L 0 (fun f hf hp => (hb f hf hp).lo) (by omega) (by omega)]
 omega
theorem many_mono {L L' : List S55} (hv : FsV L) (hv' : FsV L') (hsub : L'.Sublist L) : ∀ (n : Nat) (s : List Int), s.length ≤ n → s.length ≤ 23 → (rdO L' s).f0 ≤ (rdO L s).f0
 | 0, s, h, _ => by
  obtain rfl : s = [] := List.eq_nil_of_length_eq_zero (by omega)
  rw [rdO_nil, rdO_nil]; exact Int.le_refl _
 | n + 1, s, h, h' => by
  by_cases hs : s = []
  ·
   subst hs; rw [rdO_nil, rdO_nil]; exact Int.le_refl _
  rw [rdO_cnt hv h' hs, rdO_cnt hv' h' hs]
  refine cnt_sub hsub (fun f hf hp => ?_) (fun f hf hp => ?_)
  ·
   exact (rdO_bd hv _ (s.drop f.f0.length) rfl (by rw [List.length_drop]; omega)).lo
  ·
   have := (hv.one f hf).1
   have := isPre_len hp
   exact many_mono hv hv' hsub n _ (by rw [List.length_drop]; omega) (by rw [List.length_drop]; omega)
theorem FsV.sub {L L' : List S55} (hv : FsV L) (hsub : L'.Sublist L) : FsV L' :=
 ⟨Nat.le_trans hsub.length_le hv.len, fun f hf => hv.one f (hsub.subset hf), fun f hf => hv.wt f (hsub.subset hf), hv.pw.sublist hsub⟩
theorem goF_of : ∀ (l acc : List S55), (∀ x ∈ l, fOk x = true) → (∀ a ∈ acc, ∀ b ∈ l, a.f0 ≠ b.f0) → l.Pairwise (fun a b => a.f0 ≠ b.f0) → goF acc l = true
 | [], _, _, _, _ => rfl
 | x :: xs, acc, h1, h2, h3 => by
  obtain ⟨p1, p2⟩ := List.pairwise_cons.1 h3
  simp only [goF, Bool.and_eq_true, Bool.not_eq_true', List.any_eq_false, beq_iff_eq]
  refine ⟨h1 x List.mem_cons_self, fun a ha => h2 a ha x List.mem_cons_self, goF_of xs (acc ++ [x]) (fun y hy => h1 y (List.mem_cons_of_mem _ hy)) (fun a ha b hb => ?_) p2⟩
  rcases List.mem_append.1 ha with ha | ha
  ·
   exact h2 a ha b (List.mem_cons_of_mem _ hb)
  ·
   rw [List.mem_singleton.1 ha]; exact p1 b hb
theorem fsOk_sub {L L' : List S55} (h : fsOk L = true) (hsub : L'.Sublist L) : fsOk L' = true := by
 have hv := FsV.of h
 have h8 := hsub.length_le
 have h9 := hv.len
 unfold fsOk
 rw [decide_eq_true (by omega), Bool.true_and]
 exact goF_of L' [] (fun x hx => fsOk_all h x (hsub.subset hx)) (by simp) (hv.pw.sublist hsub)

theorem cnt_mem {g : List Int → Int} {s : List Int} : ∀ (l : List S55) {f : S55}, (∀ f ∈ l, isPre f.f0 s = true → 0 ≤ g (s.drop f.f0.length)) → f ∈ l → isPre f.f0 s = true → g (s.drop f.f0.length) ≤ cnt g s l
 | x :: xs, f, h, hf, hp => by
  have h' := fun y hy => h y (List.mem_cons_of_mem _ hy)
  have hn := cnt_nn xs h'
  simp only [cnt]
  rcases List.mem_cons.1 hf with rfl | hf
  ·
   rw [if_pos hp]; omega
  ·
   have := cnt_mem xs h' hf hp
   by_cases hx : isPre x.f0 s = true
   ·
    rw [if_pos hx]; have := h x List.mem_cons_self hx; omega
   ·
    rw [if_neg hx]; omega
theorem nn_of {L : List S55} (hv : FsV L) {s : List Int} (hs : s.length ≤ 23) : ∀ f ∈ L, isPre f.f0 s = true → 0 ≤ (rdO L (s.drop f.f0.length)).f0 :=
 fun f _ _ => (rdO_bd hv _ (s.drop f.f0.length) rfl (by rw [List.length_drop]; omega)).lo

theorem isPre_app (p s : List Int) : isPre p (p ++ s) = true := by unfold isPre; simp

theorem rdC_has {rec : List Int → OutC} {s : List Int} {L : List S55} (k : Nat) (hk : k < L.length) (hp : isPre (rd_T55 L (k : Int)).f0 s = true) (hz : (rec (s.drop (rd_T55 L (k : Int)).f0.length)).f0 ≠ 0) : ∀ (d q : Nat), q + d = k → ((k : Int), rec (s.drop (rd_T55 L (k : Int)).f0.length)) ∈ rdC rec s (q : Int) (L.drop q)
 | d, q, e => by
  have hq : q < L.length := by omega
  have e1 : L.drop q = rd_T55 L (q : Int) :: L.drop (q + 1) := by
   rw [List.drop_eq_getElem_cons hq]
   unfold rd_T55
   rw [Int.toNat_natCast, List.getD_eq_getElem?_getD, List.getElem?_eq_getElem hq]; rfl
  rw [e1]
  simp only [rdC]
  have e2 : ((q : Int) + 1) = ((q + 1 : Nat) : Int) := by omega
  rw [e2]
  match d, e with
  | 0, e =>
   obtain rfl : q = k := e
   rw [if_pos hp, if_neg hz]
   exact List.mem_cons_self
  | d + 1, e =>
   have := rdC_has k hk hp hz d (q + 1) (by omega)
   split
   ·
    split
    ·
     exact this
    ·
     exact List.mem_cons_of_mem _ this
   ·
    exact this
def St (L : List S55) (S : List Int) (q j : Nat) : Prop := ∃ k : Nat, k < L.length ∧ isPre (rd_T55 L (k : Int)).f0 (S.drop q) = true ∧ q + (rd_T55 L (k : Int)).f0.length = j
inductive Rch (L : List S55) (S : List Int) (Q : Nat → Prop) : Nat → Prop
 | zero : Rch L S Q 0
 | step {q j : Nat} : Rch L S Q q → St L S q j → Q j → Rch L S Q j
theorem St.lt {L : List S55} (hv : FsV L) {S : List Int} {q j : Nat} (h : St L S q j) : q < j ∧ (q ≤ S.length → j ≤ S.length) := by
 obtain ⟨k, hk, hp, rfl⟩ := h
 have h1 := (hv.one _ (rd_mem (l := L) (k := (k : Int)) (by omega) (by omega))).1
 have h2 := isPre_len hp
 rw [List.length_drop] at h2
 exact ⟨by omega, fun h => by omega⟩
theorem rch_iff {L : List S55} {S : List Int} {Q : Nat → Prop} {j : Nat} : Rch L S Q j ↔ j = 0 ∨ ∃ q, Rch L S Q q ∧ St L S q j ∧ Q j := by
 constructor
 ·
  intro h
  cases h with
  | zero => exact .inl rfl
  | step h1 h2 h3 => exact .inr ⟨_, h1, h2, h3⟩
 ·
  rintro (rfl | ⟨q, h1, h2, h3⟩)
  ·
   exact .zero
  ·
   exact .step h1 h2 h3
theorem rch_all {L : List S55} {S : List Int} {Q : Nat → Prop} {j : Nat} (h : Rch L S Q j) : Rch L S (fun _ => True) j := by
 induction h with
 | zero => exact .zero
 | step _ h2 _ ih => exact .step ih h2 trivial
theorem ok_back {L : List S55} (hv : FsV L) {S : List Int} (hS : S.length ≤ 23) {q j : Nat} (h : St L S q j) (hz : (rdO L (S.drop j)).f0 ≠ 0) : (rdO L (S.drop q)).f0 ≠ 0 := by
 obtain ⟨k, hk, hp, rfl⟩ := h
 have hm := rd_mem (l := L) (k := (k : Int)) (by omega) (by omega)
 have h1 := (hv.one _ hm).1
 have h2 := isPre_len hp
 have hl : (S.drop q).length ≤ 23 := by rw [List.length_drop]; omega
 have hne : S.drop q ≠ [] := by intro e; rw [e, List.length_nil] at h2; omega
 rw [rdO_cnt hv hl hne]
 have h3 := cnt_mem (g := fun t => (rdO L t).f0) (s := S.drop q) L (nn_of hv hl) hm hp
 rw [List.drop_drop] at h3
 have h4 := (rdO_bd hv _ (S.drop (q + (rd_T55 L (k : Int)).f0.length)) rfl (by rw [List.length_drop]; omega)).lo
 omega
theorem rch_ok {L : List S55} (hv : FsV L) {S : List Int} (hS : S.length ≤ 23) {j : Nat} (h : Rch L S (fun _ => True) j) : (rdO L (S.drop j)).f0 ≠ 0 → Rch L S (fun j => (rdO L (S.drop j)).f0 ≠ 0) j := by
 induction h with
 | zero => exact fun _ => .zero
 | step _ h2 _ ih => exact fun hz => .step (ih (ok_back hv hS h2 hz)) h2 hz
theorem getD_setB {y : List Bool} {i j : Nat} (v : Bool) (hj : j < y.length) : (y.set i v).getD j false = if i = j then v else y.getD j false := by
 rw [List.getD_eq_getElem?_getD, List.getElem?_set, List.getD_eq_getElem?_getD]
 by_cases h : i = j
 ·
  subst h; simp [hj]
 ·
  simp [h]
theorem mkU_get1 (L : List S55) (p : Nat) : ∀ (h : List (Int × OutC)) (s : List Bool × List Bool) (k : Nat), k < s.1.length → ((mkU L p h s).1.getD k false = true ↔ s.1.getD k false = true ∨ ∃ x ∈ h, x.1.toNat = k)
 | [], s, k, _ => by simp [mkU]
 | (i, o) :: r, (U, V), k, hk => by
  simp only [mkU]
  rw [mkU_get1 L p r _ k (by simpa using hk)]
  have e : ((U.set i.toNat true, V.set (p + (rd_T55 L i).f0.length) true) : List Bool × List Bool).1 = U.set i.toNat true := rfl
  rw [e, getD_setB true hk]
  by_cases hi : i.toNat = k
  ·
   simp [hi]
  ·
   simp [hi]
theorem mkU_get2 (L : List S55) (p : Nat) : ∀ (h : List (Int × OutC)) (s : List Bool × List Bool) (j : Nat), j < s.2.length → ((mkU L p h s).2.getD j false = true ↔ s.2.getD j false = true ∨ ∃ x ∈ h, p + (rd_T55 L x.1).f0.length = j)
 | [], s, k, _ => by simp [mkU]
 | (i, o) :: r, (U, V), k, hk => by
  simp only [mkU]
  rw [mkU_get2 L p r _ k (by simpa using hk)]
  have e : ((U.set i.toNat true, V.set (p + (rd_T55 L i).f0.length) true) : List Bool × List Bool).2 = V.set (p + (rd_T55 L i).f0.length) true := rfl
  rw [e, getD_setB true hk]
  by_cases hi : p + (rd_T55 L i).f0.length = k
  ·
   simp [hi]
  ·
   simp [hi]
theorem calls_iff {L : List S55} {S : List Int} {p : Nat} (hp : p < S.length) (i : Int) : (∃ o, (i, o) ∈ rdCalls L (S.drop p)) ↔ 0 ≤ i ∧ i < (L.length : Int) ∧ isPre (rd_T55 L i).f0 (S.drop p) = true ∧ (rdO L (S.drop (p + (rd_T55 L i).f0.length))).f0 ≠ 0 := by
 have hne : S.drop p ≠ [] := by
  intro h
  have := congrArg List.length h
  rw [List.length_drop, List.length_nil] at this; omega
 have hcl : rdCalls L (S.drop p) = rdC (rdO L) (S.drop p) ((0 : Nat) : Int) L := if_neg hne
 rw [hcl]
 constructor
 ·
  rintro ⟨o, h⟩
  obtain ⟨h1, h2, h3, h4, h5⟩ := rdC_mem L 0 rfl h
  rw [h4, List.drop_drop] at h5
  exact ⟨h1, h2, h3, h5⟩
 ·
  rintro ⟨h1, h2, h3, h4⟩
  obtain ⟨k, rfl⟩ := Int.eq_ofNat_of_zero_le h1
  have := rdC_has (rec := rdO L) (s := S.drop p) (L := L) k (by omega) h3 (by rw [List.drop_drop]; exact h4) k 0 (by omega)
  rw [List.drop_zero] at this
  exact ⟨_, this⟩
theorem used_inv {L : List S55} (hv : FsV L) {S : List Int} : ∀ p, p ≤ S.length →
 (∀ j, j ≤ S.length → ((usedFrom L S p).2.getD j false = true ↔ j = 0 ∨ ∃ q, q < p ∧ Rch L S (fun j => (rdO L (S.drop j)).f0 ≠ 0) q ∧ St L S q j ∧ (rdO L (S.drop j)).f0 ≠ 0)) ∧
 (∀ k, k < L.length → ((usedFrom L S p).1.getD k false = true ↔ ∃ q, q < p ∧ Rch L S (fun j => (rdO L (S.drop j)).f0 ≠ 0) q ∧ isPre (rd_T55 L (k : Int)).f0 (S.drop q) = true ∧ (rdO L (S.drop (q + (rd_T55 L (k : Int)).f0.length))).f0 ≠ 0)) := by
 intro p
 induction p with
 | zero =>
  intro _
  refine ⟨fun j hj => ?_, fun k hk => ?_⟩
  ·
   show ((List.replicate (S.length + 1) false).set 0 true).getD j false = true ↔ _
   rw [getD_setB true (by rw [List.length_replicate]; omega)]
   by_cases h : 0 = j
   ·
    subst h; simp
   ·
    have h' : j ≠ 0 := fun e => h e.symm
    rw [if_neg h, List.getD_eq_getElem?_getD, List.getElem?_replicate]
    simp [h', show j < S.length + 1 by omega]
  ·
   show (List.replicate L.length false).getD k false = true ↔ _
   rw [List.getD_eq_getElem?_getD, List.getElem?_replicate]
   simp [hk]
 | succ p ih =>
  intro hp
  obtain ⟨i1, i2⟩ := ih (by omega)
  have hlen := usedFrom_len L S p
  have hr : (usedFrom L S p).2.getD p false = true ↔ Rch L S (fun j => (rdO L (S.drop j)).f0 ≠ 0) p := by
   rw [i1 p (by omega), rch_iff]
   constructor
   ·
    rintro (h | ⟨q, _, h2, h3, h4⟩)
    ·
     exact .inl h
    ·
     exact .inr ⟨q, h2, h3, h4⟩
   ·
    rintro (h | ⟨q, h2, h3, h4⟩)
    ·
     exact .inl h
    ·
     exact .inr ⟨q, (h3.lt hv).1, h2, h3, h4⟩
  rw [usedFrom_step]
  by_cases hc : (usedFrom L S p).2.getD p false = true
  ·
   rw [if_pos hc]
   have hR := hr.1 hc
   refine ⟨fun j hj => ?_, fun k hk => ?_⟩
   ·
    rw [mkU_get2 L p _ _ j (by omega), i1 j hj]
    constructor
    ·
     rintro ((h | ⟨q, h1, h2⟩) | ⟨⟨i, o⟩, hx, he⟩)
     ·
      exact .inl h
     ·
      exact .inr ⟨q, by omega, h2⟩
     ·
      obtain ⟨a1, a2, a3, a4⟩ := (calls_iff (by omega) i).1 ⟨o, hx⟩
      obtain ⟨k, rfl⟩ := Int.eq_ofNat_of_zero_le a1
      have he : p + (rd_T55 L (k : Int)).f0.length = j := he
      rw [he] at a4
      exact .inr ⟨p, by omega, hR, ⟨k, by omega, a3, he⟩, a4⟩
    ·
     rintro (h | ⟨q, h1, h2, h3, h4⟩)
     ·
      exact .inl (.inl h)
     ·
      by_cases hq : q < p
      ·
       exact .inl (.inr ⟨q, hq, h2, h3, h4⟩)
      ·
       obtain rfl : q = p := by omega
       obtain ⟨k, hk, hpre, he⟩ := h3
       obtain ⟨o, ho⟩ := (calls_iff (L := L) (S := S) (p := q) (by omega) (k : Int)).2 ⟨by omega, by omega, hpre, by rw [he]; exact h4⟩
       exact .inr ⟨((k : Int), o), ho, he⟩
   ·
    rw [mkU_get1 L p _ _ k (by omega), i2 k hk]
    constructor
    ·
     rintro (⟨q, h1, h2⟩ | ⟨⟨i, o⟩, hx, he⟩)
     ·
      exact ⟨q, by omega, h2⟩
     ·
      obtain ⟨a1, a2, a3, a4⟩ := (calls_iff (by omega) i).1 ⟨o, hx⟩
      obtain ⟨n, rfl⟩ := Int.eq_ofNat_of_zero_le a1
      have he : n = k := by simpa using he
      subst he
      exact ⟨p, by omega, hR, a3, a4⟩
    ·
     rintro ⟨q, h1, h2, h3, h4⟩
     by_cases hq : q < p
     ·
      exact .inl ⟨q, hq, h2, h3, h4⟩
     ·
      obtain rfl : q = p := by omega
      obtain ⟨o, ho⟩ := (calls_iff (L := L) (S := S) (p := q) (by omega) (k : Int)).2 ⟨by omega, by omega, h3, h4⟩
      exact .inr ⟨((k : Int), o), ho, by simp⟩
  ·
   rw [if_neg hc]
   have hR : ¬ Rch L S (fun j => (rdO L (S.drop j)).f0 ≠ 0) p := fun h => hc (hr.2 h)
   refine ⟨fun j hj => ?_, fun k hk => ?_⟩
   ·
    rw [i1 j hj]
    constructor
    ·
     rintro (h | ⟨q, h1, h2⟩)
     ·
      exact .inl h
     ·
      exact .inr ⟨q, by omega, h2⟩
    ·
     rintro (h | ⟨q, h1, h2, h3⟩)
     ·
      exact .inl h
     ·
      by_cases hq : q < p
      ·
       exact .inr ⟨q, hq, h2, h3⟩
      ·
       obtain rfl : q = p := by omega
       exact absurd h2 hR
   ·
    rw [i2 k hk]
    constructor
    ·
     rintro ⟨q, h1, h2⟩
     exact ⟨q, by omega, h2⟩
    ·
     rintro ⟨q, h1, h2, h3⟩
     by_cases hq : q < p
     ·
      exact ⟨q, hq, h2, h3⟩
     ·
      obtain rfl : q = p := by omega
      exact absurd h2 hR

theorem rd_ne {L : List S55} (hv : FsV L) {i q : Nat} (hi : i < L.length) (hq : q < L.length) (h : i ≠ q) : (rd_T55 L (i : Int)).f0 ≠ (rd_T55 L (q : Int)).f0 := by
 have e : ∀ j (hj : j < L.length), rd_T55 L (j : Int) = L[j] := by
  intro j hj
  unfold rd_T55
  rw [Int.toNat_natCast, List.getD_eq_getElem?_getD, List.getElem?_eq_getElem hj]; rfl
 rw [e i hi, e q hq]
 have hp := List.pairwise_iff_getElem.1 hv.pw
 rcases Nat.lt_or_gt_of_ne h with h | h
 ·
  exact hp i q hi hq h
 ·
  exact fun e => hp q i hq hi h e.symm

def Stk (L : List S55) (S : List Int) (a k j : Nat) : Prop := ∃ i : Nat, i < k ∧ isPre (rd_T55 L (i : Int)).f0 (S.drop a) = true ∧ a + (rd_T55 L (i : Int)).f0.length = j
def FromP (L : List S55) (S : List Int) (a : Nat) (y : List Int) : Prop := y.length = S.length + 1 ∧ ∀ j, j ≤ S.length → 0 ≤ y.getD j 0 ∧ y.getD j 0 ≤ ((2 ^ a : Nat) : Int) ∧ (0 < y.getD j 0 ↔ j = 0 ∨ ∃ q, q < a ∧ Rch L S (fun _ => True) q ∧ St L S q j)
def InP (L : List S55) (S : List Int) (a k : Nat) (y : List Int) : Prop := y.length = S.length + 1 ∧ ∀ j, j ≤ S.length → 0 ≤ y.getD j 0 ∧ (0 < y.getD j 0 ↔ (j = 0 ∨ ∃ q, q < a ∧ Rch L S (fun _ => True) q ∧ St L S q j) ∨ (Rch L S (fun _ => True) a ∧ Stk L S a k j)) ∧ (y.getD j 0 ≤ ((2 ^ a : Nat) : Int) ∨ (y.getD j 0 ≤ ((2 ^ (a + 1) : Nat) : Int) ∧ Stk L S a k j))
theorem from_here {L : List S55} (hv : FsV L) {S : List Int} {a : Nat} : Rch L S (fun _ => True) a ↔ a = 0 ∨ ∃ q, q < a ∧ Rch L S (fun _ => True) q ∧ St L S q a := by
 rw [rch_iff]
 constructor
 ·
  rintro (h | ⟨q, h1, h2, _⟩)
  ·
   exact .inl h
  ·
   exact .inr ⟨q, (h2.lt hv).1, h1, h2⟩
 ·
  rintro (h | ⟨q, _, h1, h2⟩)
  ·
   exact .inl h
  ·
   exact .inr ⟨q, h1, h2, trivial⟩
theorem pow23 {a : Nat} (h : a ≤ 23) : (2 ^ a : Nat) ≤ 8388608 := Nat.le_trans (Nat.pow_le_pow_right (by decide) h) (by decide)
theorem from_inner {L : List S55} (hv : FsV L) {S : List Int} (hS : S.length ≤ 23) (a : Nat) (ha : a < S.length) {P : List Int → Prop}
 (hnext : ∀ y, FromP L S (a + 1) y → Evx (fun k => spec_l6fFrom.l0 k L S y ((a : Int) + 1)) P) :
 ∀ (d k : Nat) (y : List Int), k + d = L.length → InP L S a k y → Evx (fun n => spec_l6fFrom.l1 n L S y (a : Int) (k : Int)) P
 | 0, k, y, e, ⟨h1, h2⟩ => by
  have hll := hv.len
  refine Evx.succ ?_
  simp only [spec_l6fFrom.l1]
  rw [w64 (x := (a : Int) + 1) (by omega) (by omega)]
  refine Evx.neg (by omega) (hnext y ⟨h1, fun j hj => ?_⟩)
  obtain ⟨i1, i2, i3⟩ := h2 j hj
  have hp := Nat.pow_succ 2 a
  refine ⟨i1, by rcases i3 with h | h <;> omega, ?_⟩
  rw [i2]
  have hst : Stk L S a k j ↔ St L S a j := by
   obtain rfl : k = L.length := by omega
   exact Iff.rfl
  rw [hst]
  constructor
  ·
   rintro ((h | ⟨q, g1, g2⟩) | ⟨g1, g2⟩)
   ·
    exact .inl h
   ·
    exact .inr ⟨q, by omega, g2⟩
   ·
    exact .inr ⟨a, by omega, g1, g2⟩
  ·
   rintro (h | ⟨q, g1, g2, g3⟩)
   ·
    exact .inl (.inl h)
   ·
    by_cases hq : q < a
    ·
     exact .inl (.inr ⟨q, hq, g2, g3⟩)
    ·
     obtain rfl : q = a := by omega
     exact .inr ⟨g2, g3⟩
 | d + 1, k, y, e, ⟨h1, h2⟩ => by
  have hll := hv.len
  have hk : k < L.length := by omega
  have ih := fun y' => from_inner hv hS a ha hnext d (k + 1) y' (by omega)
  have e4 : ((k + 1 : Nat) : Int) = (k : Int) + 1 := by omega
  rw [e4] at ih
  have hm := rd_mem (l := L) (k := (k : Int)) (by omega) (by omega)
  have hf := hv.one _ hm
  refine Evx.succ ?_
  simp only [spec_l6fFrom.l1]
  rw [w64 (x := (k : Int) + 1) (by omega) (by omega)]
  obtain ⟨f, hfe⟩ : ∃ f, f = rd_T55 L (k : Int) := ⟨_, rfl⟩
  rw [← hfe] at hf ⊢
  refine Evx.pos (by omega) (Evx.pos (by omega) (Evx.bind1 (spec_l6fAt_ev f S a (by omega) (by omega) (by omega)) ?_))
  have more : ∀ j, Stk L S a k j → Stk L S a (k + 1) j := by
   rintro j ⟨i, g1, g2⟩
   exact ⟨i, by omega, g2⟩
  cases hp : isPre f.f0 (S.drop a)
  ·
   have same : ∀ j, Stk L S a (k + 1) j ↔ Stk L S a k j := by
    intro j
    refine ⟨fun ⟨i, g1, g2, g3⟩ => ?_, more j⟩
    by_cases hi : i < k
    ·
     exact ⟨i, hi, g2, g3⟩
    ·
     obtain rfl : i = k := by omega
     rw [← hfe, hp] at g2; cases g2
   refine Evx.neg (by simp) (ih y ⟨h1, fun j hj => ?_⟩)
   obtain ⟨i1, i2, i3⟩ := h2 j hj
   rw [same]
   exact ⟨i1, i2, i3⟩
  ·
   have hl := isPre_len hp
   rw [List.length_drop] at hl
   have hJ : a + f.f0.length ≤ S.length := by omega
   rw [w64 (x := (a : Int) + (f.f0.length : Int)) (by omega) (by omega)]
   refine Evx.pos rfl (Evx.pos (by omega) (Evx.pos (by omega) (Evx.pos (by omega) (Evx.pos (by omega) ?_))))
   have eJ : ((a : Int) + (f.f0.length : Int)).toNat = a + f.f0.length := by omega
   have r1 : rd y ((a : Int) + (f.f0.length : Int)) = y.getD (a + f.f0.length) 0 := by unfold rd; rw [eJ]
   have r2 : rd y (a : Int) = y.getD a 0 := rfl
   rw [r1, r2, eJ]
   clear eJ r1 r2
   have hpow := Nat.pow_succ 2 a
   have hp23 := pow23 (a := a) (by omega)
   obtain ⟨a1, a2, a3⟩ := h2 a (by omega)
   have nostk : ∀ k', ¬ Stk L S a k' a ∨ L.length < k' := by
    intro k'
    by_cases hk' : k' ≤ L.length
    ·
     refine .inl ?_
     rintro ⟨i, g1, g2, g3⟩
     have := (hv.one _ (rd_mem (l := L) (k := (i : Int)) (by omega) (by omega))).1
     omega
    ·
     exact .inr (by omega)
   have noa : ¬ Stk L S a k a := by rcases nostk k with h | h; exact h; omega
   have ya : y.getD a 0 ≤ ((2 ^ a : Nat) : Int) := by rcases a3 with h | ⟨_, h⟩; exact h; exact absurd h noa
   have yr : 0 < y.getD a 0 ↔ Rch L S (fun _ => True) a := by
    rw [a2, from_here hv]
    exact ⟨fun h => h.elim id (fun h => absurd h.2 noa), .inl⟩
   have noJ : ¬ Stk L S a k (a + f.f0.length) := by
    rintro ⟨i, g1, g2, g3⟩
    have t1 := isPre_take hp
    have t2 := isPre_take g2
    have : (rd_T55 L (i : Int)).f0.length = f.f0.length := by omega
    rw [this] at t2
    have hx := rd_ne hv (i := i) (q := k) (by omega) hk (by omega)
    rw [← hfe] at hx
    exact hx (t2.symm.trans t1)
   obtain ⟨b1, b2, b3⟩ := h2 (a + f.f0.length) hJ
   have yJ : y.getD (a + f.f0.length) 0 ≤ ((2 ^ a : Nat) : Int) := by rcases b3 with h | ⟨_, h⟩; exact h; exact absurd h noJ
   have yes : Stk L S a (k + 1) (a + f.f0.length) := ⟨k, by omega, by rw [← hfe]; exact hp, by rw [← hfe]⟩
   rw [w64 (x := y.getD (a + f.f0.length) 0 + y.getD a 0) (by omega) (by omega)]
   refine ih _ ⟨by rw [List.length_set]; exact h1, fun j hj => ?_⟩
   by_cases hjJ : a + f.f0.length = j
   ·
    subst hjJ
    rw [getD_set_self _ (by omega)]
    refine ⟨by omega, ?_, .inr ⟨by omega, yes⟩⟩
    have s1 : 0 < y.getD (a + f.f0.length) 0 + y.getD a 0 ↔ 0 < y.getD (a + f.f0.length) 0 ∨ 0 < y.getD a 0 := by omega
    rw [s1, b2, yr]
    constructor
    ·
     rintro ((h | h) | h)
     ·
      exact .inl h
     ·
      exact absurd h.2 noJ
     ·
      exact .inr ⟨h, yes⟩
    ·
     rintro (h | h)
     ·
      exact .inl (.inl h)
     ·
      exact .inr h.1
   ·
    rw [getD_set_other _ hjJ]
    obtain ⟨i1, i2, i3⟩ := h2 j hj
    have same : Stk L S a (k + 1) j ↔ Stk L S a k j := by
     refine ⟨fun ⟨i, g1, g2, g3⟩ => ?_, more j⟩
     by_cases hi : i < k
     ·
      exact ⟨i, hi, g2, g3⟩
     ·
      obtain rfl : i = k := by omega
      rw [← hfe] at g3
      exact absurd g3 hjJ
    rw [same]
    exact ⟨i1, i2, i3⟩
theorem spec_l6fFrom_evx {L : List S55} (hv : FsV L) {S : List Int} (hS : S.length ≤ 23) : Evx (fun k => spec_l6fFrom.f k L S) (FromP L S S.length) := by
 have hll := hv.len
 have key : ∀ (d a : Nat) (y : List Int), a + d = S.length → FromP L S a y → Evx (fun k => spec_l6fFrom.l0 k L S y (a : Int)) (FromP L S S.length) := by
  intro d
  induction d with
  | zero =>
   intro a y e h
   obtain rfl : a = S.length := by omega
   refine Evx.succ ?_
   simp only [spec_l6fFrom.l0]
   exact Evx.neg (by omega) (Evx.now h)
  | succ d ih =>
   intro a y e h
   refine Evx.succ ?_
   simp only [spec_l6fFrom.l0]
   refine Evx.pos (by omega) ?_
   have := from_inner hv hS a (by omega) (P := FromP L S S.length) (fun y' h' => by
    have := ih (a + 1) y' (by omega) h'
    have e4 : ((a + 1 : Nat) : Int) = (a : Int) + 1 := by omega
    rwa [e4] at this) L.length 0 y (by omega) ⟨h.1, fun j hj => by
    obtain ⟨i1, i2, i3⟩ := h.2 j hj
    refine ⟨i1, ?_, .inl i2⟩
    rw [i3]
    refine ⟨.inl, fun h => h.elim id (fun h => ?_)⟩
    obtain ⟨_, i, hi, _⟩ := h
    exact absurd hi (by omega)⟩
   exact this
 unfold spec_l6fFrom.f
 rw [w64 (x := (S.length : Int) + 1) (by omega) (by omega)]
 have e : ((S.length : Int) + 1).toNat = S.length + 1 := by omega
 rw [e]
 refine Evx.pos (by omega) (Evx.pos (by omega) (Evx.someb (Evx.pos (by rw [List.length_replicate]; omega) ?_)))
 refine key S.length 0 _ (by omega) ⟨by simp, fun j hj => ?_⟩
 have hz : (List.replicate (S.length + 1) (0 : Int)).getD j 0 = 0 := by rw [List.getD_eq_getElem?_getD, List.getElem?_replicate, if_pos (by omega)]; rfl
 by_cases h0 : j = 0
 ·
  subst h0
  have : ((List.replicate (S.length + 1) (0 : Int)).set (0 : Int).toNat 1).getD 0 0 = 1 := getD_set_self _ (by simp)
  rw [this]
  exact ⟨by omega, by simp, ⟨fun _ => .inl rfl, fun _ => by omega⟩⟩
 ·
  rw [getD_set_other _ (by simpa using fun h => h0 h.symm), hz]
  refine ⟨by omega, Int.natCast_nonneg _, ⟨fun h => absurd h (by omega), fun h => ?_⟩⟩
  rcases h with h | ⟨q, hq, _⟩
  ·
   exact absurd h h0
  ·
   exact absurd hq (by omega)
theorem used_iff {L : List S55} (hv : FsV L) {S : List Int} (hS : S.length ≤ 23) {F : List Int} (hF : FromP L S S.length F) {k : Nat} (hk : k < L.length) :
 (usedFrom L S S.length).1.getD k false = true ↔ ∃ a, a < S.length ∧ isPre (rd_T55 L (k : Int)).f0 (S.drop a) = true ∧ 0 < F.getD a 0 ∧ 0 < (rdO L (S.drop (a + (rd_T55 L (k : Int)).f0.length))).f0 := by
 rw [(used_inv hv S.length (Nat.le_refl _)).2 k hk]
 have hFr : ∀ a, a ≤ S.length → (0 < F.getD a 0 ↔ Rch L S (fun _ => True) a) := by
  intro a ha
  rw [(hF.2 a ha).2.2, from_here hv]
  constructor
  ·
   rintro (h | ⟨q, _, h2, h3⟩)
   ·
    exact .inl h
   ·
    exact .inr ⟨q, (h3.lt hv).1, h2, h3⟩
  ·
   rintro (h | ⟨q, h1, h2, h3⟩)
   ·
    exact .inl h
   ·
    exact .inr ⟨q, by omega, h2, h3⟩
 constructor
 ·
  rintro ⟨a, h1, h2, h3, h4⟩
  have := (rdO_bd hv _ (S.drop (a + (rd_T55 L (k : Int)).f0.length)) rfl (by rw [List.length_drop]; omega)).lo
  exact ⟨a, h1, h3, (hFr a (by omega)).2 (rch_all h2), by omega⟩
 ·
  rintro ⟨a, h1, h2, h3, h4⟩
  exact ⟨a, h1, rch_ok hv hS ((hFr a (by omega)).1 h3) (ok_back hv hS ⟨k, hk, h2, rfl⟩ (by omega)), h2, by omega⟩
theorem spec_FormulasUsed_ev (L : List S55) (S : List Int) (hll : L.length ≤ 1000000000000) (hl : ∀ x ∈ L, x.f0.length ≤ 1000000000000) (hS : S.length ≤ 1000000000000) : Ev (fun k => spec_FormulasUsed.f k L S) (fUsed L S) := by
 unfold spec_FormulasUsed.f fUsed
 refine Ev.someb (Ev.bind (spec_l6fOk_ev L S hll hl hS) ?_)
 cases hok : okR L S
 ·
  exact Ev.neg (by simp) (Ev.eqr (Ev.now _) (by simp))
 rw [if_pos rfl]
 obtain ⟨l1, l2, l3⟩ := okR_lens hok
 have hv := FsV.of (okR_of hok).1
 obtain ⟨F, hFe, hF⟩ := spec_l6fFrom_evx hv l3
 refine Ev.pos rfl (Ev.bind (spec_l6fWays_ev l1 l2 l3) (Ev.bind hFe ?_))
 have hXl := (usedFrom_len L S S.length).1
 have hui := fun k (hk : k < L.length) => used_iff hv l3 hF hk
 generalize (usedFrom L S S.length).1 = X at hXl hui
 have := Ev.over false X (fun k (y : List Int) q => spec_FormulasUsed.l0 k L S y (waysL L S) F q) (fun _ _ => idxT 0 X) (fun q y => y ++ idxT (q : Int) (X.drop q) = idxT 0 X ∧ y.length ≤ q) (by
  intro y ⟨h, _⟩
  rw [List.drop_length] at h
  refine Ev.succ ?_
  simp only [spec_FormulasUsed.l0]
  refine Ev.neg (by omega) (Ev.eqr (Ev.now _) ?_)
  simpa [idxT] using h) (by
  intro y q rest ⟨h, hyl⟩ hq hdr ih
  have hqL : q < L.length := by omega
  rw [idxT_at hq] at h
  refine Ev.succ ?_
  simp only [spec_FormulasUsed.l0]
  refine Ev.pos (by omega) ?_
  have hm := rd_mem (l := L) (k := (q : Int)) (by omega) (by omega)
  have hf := hv.one _ hm
  have hu := hui q hqL
  have inner := Ev.over (0 : Int) S (fun k (b : Bool) a => spec_FormulasUsed.l1 k L S y (waysL L S) F (q : Int) b a) (fun _ _ => idxT 0 X) (fun a b => b = true ↔ ∃ c, c < a ∧ isPre (rd_T55 L (q : Int)).f0 (S.drop c) = true ∧ 0 < F.getD c 0 ∧ 0 < (rdO L (S.drop (c + (rd_T55 L (q : Int)).f0.length))).f0) (by
   intro b hb
   rw [← hu] at hb
   refine Ev.succ ?_
   simp only [spec_FormulasUsed.l1]
   rw [w64 (x := (q : Int) + 1) (by omega) (by omega)]
   refine Ev.neg (by omega) ?_
   cases b
   ·
    rw [if_neg (fun h => by have := hb.2 h; cases this)] at h
    exact Ev.neg (by simp) (ih y ⟨h, by omega⟩)
   ·
    rw [if_pos (hb.1 rfl)] at h
    refine Ev.pos rfl (Ev.pos (by omega) (ih (y ++ [(q : Int)]) ⟨?_, by rw [List.length_append, List.length_singleton]; omega⟩))
    rw [List.append_assoc]; exact h) (by
   intro b a rest' hb ha hdr' ih'
   refine Ev.succ ?_
   simp only [spec_FormulasUsed.l1]
   rw [w64 (x := (a : Int) + 1) (by omega) (by omega)]
   refine Ev.pos (by omega) ?_
   cases b
   ·
    have hno : ∀ c, c < a → ¬ (isPre (rd_T55 L (q : Int)).f0 (S.drop c) = true ∧ 0 < F.getD c 0 ∧ 0 < (rdO L (S.drop (c + (rd_T55 L (q : Int)).f0.length))).f0) := fun c hc hh => by have := hb.2 ⟨c, hc, hh⟩; cases this
    have last : ∀ b' : Bool, (b' = true ↔ isPre (rd_T55 L (q : Int)).f0 (S.drop a) = true ∧ 0 < F.getD a 0 ∧ 0 < (rdO L (S.drop (a + (rd_T55 L (q : Int)).f0.length))).f0) → (b' = true ↔ ∃ c, c < a + 1 ∧ isPre (rd_T55 L (q : Int)).f0 (S.drop c) = true ∧ 0 < F.getD c 0 ∧ 0 < (rdO L (S.drop (c + (rd_T55 L (q : Int)).f0.length))).f0) := by
     intro b' hb'
     rw [hb']
     refine ⟨fun h => ⟨a, by omega, h⟩, fun ⟨c, hc, hh⟩ => ?_⟩
     by_cases hca : c < a
     ·
      exact absurd hh (hno c hca)
     ·
      obtain rfl : c = a := by omega
      exact hh
    refine Ev.neg (by simp) (Ev.pos (by omega) (Ev.pos (by omega) (Ev.bind (spec_l6fAt_ev (rd_T55 L (q : Int)) S a (by omega) (by omega) (by omega)) ?_)))
    cases hp : isPre (rd_T55 L (q : Int)).f0 (S.drop a)
    ·
     exact Ev.neg (by simp) (ih' false (last false (by rw [hp]; simp)))
    ·
     have hl := isPre_len hp
     rw [List.length_drop] at hl
     have hFl := hF.1
     refine Ev.pos rfl (Ev.pos (by omega) (Ev.pos (by omega) ?_))
     have r2 : rd F (a : Int) = F.getD a 0 := rfl
     rw [r2]
     by_cases hFa : F.getD a 0 > 0
     ·
      refine Ev.pos hFa ?_
      rw [w64 (x := (a : Int) + ((rd_T55 L (q : Int)).f0.length : Int)) (by omega) (by omega)]
      refine Ev.pos (by omega) (Ev.pos (by rw [waysL_len]; omega) ?_)
      have r3 : rd (waysL L S) ((a : Int) + ((rd_T55 L (q : Int)).f0.length : Int)) = (rdO L (S.drop (a + (rd_T55 L (q : Int)).f0.length))).f0 := by
       unfold rd
       rw [show ((a : Int) + ((rd_T55 L (q : Int)).f0.length : Int)).toNat = a + (rd_T55 L (q : Int)).f0.length by omega]
       exact waysL_get (by omega)
      rw [r3]
      exact ih' _ (last _ (by rw [decide_eq_true_eq]; exact ⟨fun h => ⟨hp, hFa, h⟩, fun h => h.2.2⟩))
     ·
      exact Ev.neg hFa (ih' false (last false ⟨fun h => (by cases h), fun h => absurd h.2.1 hFa⟩))
   ·
    obtain ⟨c, hc, hh⟩ := hb.1 rfl
    exact Ev.pos rfl (ih' true ⟨fun _ => ⟨c, by omega, hh⟩, fun _ => rfl⟩)) 0 false (Nat.zero_le _) ⟨fun h => (by cases h), fun ⟨c, hc, _⟩ => absurd hc (by omega)⟩
  simpa using inner) 0 [] (Nat.zero_le _) ⟨by simp, Nat.le_refl _⟩
 simpa using this

def okIx (L : List S55) (r : List Int) : Prop := ∀ i ∈ r, 0 ≤ i ∧ i < (L.length : Int)
def flatR (L : List S55) : List Int → List Int
 | [] => []
 | i :: r => (rd_T55 L i).f0 ++ flatR L r
def sumW (L : List S55) : List Int → Int
 | [] => 0
 | i :: r => (rd_T55 L i).f1 + sumW L r
theorem flatR_app (L : List S55) : ∀ a b, flatR L (a ++ b) = flatR L a ++ flatR L b
 | [], b => rfl
 | i :: a, b => by simp only [List.cons_append, flatR]; rw [flatR_app L a b, List.append_assoc]
theorem lA_le {c : S55 → Int} {g : List Int → Int} {s : List Int} : ∀ (l : List S55) (a : Int), (∀ f ∈ l, 0 ≤ c f) → -1 ≤ a → (0 ≤ a → 0 ≤ lA c g s l a ∧ lA c g s l a ≤ a) ∧ (∀ f ∈ l, isPre f.f0 s = true → 0 ≤ g (s.drop f.f0.length) → 0 ≤ lA c g s l a ∧ lA c g s l a ≤ g (s.drop f.f0.length) + c f)
 | [], a, _, _ => ⟨fun h => ⟨h, Int.le_refl _⟩, fun f hf => by simp at hf⟩
 | x :: l, a, hc, ha => by
  have hc' := fun f hf => hc f (List.mem_cons_of_mem _ hf)
  have hx := hc x List.mem_cons_self
  simp only [lA]
  by_cases hp : isPre x.f0 s = true
  ·
   rw [if_pos hp]
   by_cases hg : g (s.drop x.f0.length) < 0
   ·
    rw [if_pos hg]
    obtain ⟨h1, h2⟩ := lA_le (g := g) (s := s) l a hc' ha
    refine ⟨h1, fun f hf hpf hgf => ?_⟩
    rcases List.mem_cons.1 hf with rfl | hf
    ·
     omega
    ·
     exact h2 f hf hpf hgf
   ·
    rw [if_neg hg]
    generalize hv : g (s.drop x.f0.length) + c x = v
    have hv0 : 0 ≤ v := by omega
    by_cases hlt : a < 0 ∨ v < a
    ·
     rw [if_pos hlt]
     obtain ⟨h1, h2⟩ := lA_le (g := g) (s := s) l v hc' (by omega)
     have h1 := h1 hv0
     refine ⟨fun ha' => by omega, fun f hf hpf hgf => ?_⟩
     rcases List.mem_cons.1 hf with rfl | hf
     ·
      omega
     ·
      exact h2 f hf hpf hgf
    ·
     rw [if_neg hlt]
     obtain ⟨h1, h2⟩ := lA_le (g := g) (s := s) l a hc' ha
     have h1 := h1 (by omega)
     refine ⟨fun _ => h1, fun f hf hpf hgf => ?_⟩
     rcases List.mem_cons.1 hf with rfl | hf
     ·
      omega
     ·
      exact h2 f hf hpf hgf
  ·
   rw [if_neg hp]
   obtain ⟨h1, h2⟩ := lA_le (g := g) (s := s) l a hc' ha
   refine ⟨h1, fun f hf hpf hgf => ?_⟩
   rcases List.mem_cons.1 hf with rfl | hf
   ·
    exact absurd hpf hp
   ·
    exact h2 f hf hpf hgf
theorem reads_least {L : List S55} (hv : FsV L) : ∀ (r : List Int), okIx L r → (flatR L r).length ≤ 23 → (0 ≤ oW (rdO L (flatR L r)) ∧ oW (rdO L (flatR L r)) ≤ sumW L r) ∧ (0 ≤ oF (rdO L (flatR L r)) ∧ oF (rdO L (flatR L r)) ≤ (r.length : Int))
 | [], _, _ => by simp only [flatR]; rw [rdO_nil]; simp [oW, oF, sumW]
 | i :: r, h, hl => by
  have hi := h i List.mem_cons_self
  have hm := rd_mem hi.1 hi.2
  simp only [flatR] at hl ⊢
  have h1 := hv.one _ hm
  obtain ⟨a, b⟩ := reads_least hv r (fun j hj => h j (List.mem_cons_of_mem _ hj)) (by rw [List.length_append] at hl; omega)
  have hne : (rd_T55 L i).f0 ++ flatR L r ≠ [] := by
   intro e
   have := congrArg List.length e
   rw [List.length_append, List.length_nil] at this; omega
  obtain ⟨e1, e2⟩ := rdO_least hv hl hne
  have ed : ((rd_T55 L i).f0 ++ flatR L r).drop (rd_T55 L i).f0.length = flatR L r := by simp
  rw [e1, e2]
  have l1 := (lA_le (c := fun f => f.f1) (g := fun t => oW (rdO L t)) (s := (rd_T55 L i).f0 ++ flatR L r) L (-1) (fun f hf => by have := hv.wt f hf; show 0 ≤ f.f1; omega) (by omega)).2 _ hm (isPre_app _ _) (by rw [ed]; exact a.1)
  have l2 := (lA_le (c := fun _ => 1) (g := fun t => oF (rdO L t)) (s := (rd_T55 L i).f0 ++ flatR L r) L (-1) (fun f hf => by show (0 : Int) ≤ 1; omega) (by omega)).2 _ hm (isPre_app _ _) (by rw [ed]; exact b.1)
  rw [ed] at l1 l2
  refine ⟨⟨l1.1, ?_⟩, l2.1, ?_⟩
  ·
   have := l1.2; simp only [sumW]; omega
  ·
   have := l2.2; rw [List.length_cons]; omega
theorem oW_nn {o : OutC} : 0 ≤ oW o → o.f0 ≠ 0 := by
 intro h hz
 unfold oW at h
 rw [if_pos hz] at h; omega
theorem reads_many {L : List S55} (hv : FsV L) {r : List Int} (h : okIx L r) (hl : (flatR L r).length ≤ 23) : 1 ≤ (rdO L (flatR L r)).f0 := by
 have h1 := oW_nn (reads_least hv r h hl).1.1
 have h2 := (rdO_bd hv _ (flatR L r) rfl hl).lo
 omega
def selA (x : Int × Int) : Int := if x.1 < 0 then -1 else x.2
def BInv (L : List S55) (s : List Int) (x : Int × Int) : Prop := x.1 < 0 ∨ (0 ≤ x.2 ∧ 0 ≤ x.1 ∧ x.1 < (L.length : Int) ∧ isPre (rd_T55 L x.1).f0 s = true ∧ (rdO L (s.drop (rd_T55 L x.1).f0.length)).f0 ≠ 0 ∧ x.2 = (rd_T55 L x.1).f1 + oW (rdO L (s.drop (rd_T55 L x.1).f0.length)))
theorem bestF_lA {L : List S55} (hv : FsV L) {s : List Int} (hs : s.length ≤ 23) : ∀ (l : List S55) (q : Nat), l = L.drop q → ∀ (b a : Int), BInv L s (b, a) →
 BInv L s (bestF L (rdC (rdO L) s (q : Int) l) (b, a)) ∧ lA (fun f => f.f1) (fun t => oW (rdO L t)) s l (selA (b, a)) = selA (bestF L (rdC (rdO L) s (q : Int) l) (b, a))
 | [], q, _, b, a, h => ⟨h, rfl⟩
 | f :: fs, q, hq, b, a, h => by
  have hlt : q < L.length := by
   rcases Nat.lt_or_ge q L.length with h | h
   ·
    exact h
   ·
    rw [List.drop_eq_nil_of_le h] at hq; cases hq
  have hf : f = rd_T55 L (q : Int) ∧ fs = L.drop (q + 1) := by
   rw [List.drop_eq_getElem_cons hlt] at hq
   refine ⟨?_, (List.cons.inj hq).2⟩
   unfold rd_T55
   rw [Int.toNat_natCast, List.getD_eq_getElem?_getD, List.getElem?_eq_getElem hlt]
   exact (List.cons.inj hq).1
  have e2 : ((q : Int) + 1) = ((q + 1 : Nat) : Int) := by omega
  have hm : rd_T55 L (q : Int) ∈ L := rd_mem (by omega) (by omega)
  have h1 := hv.one _ hm
  have hw := hv.wt _ hm
  simp only [rdC, lA]
  rw [e2]
  by_cases hp : isPre f.f0 s = true
  ·
   have hl := isPre_len hp
   have hbd := rdO_bd hv (s.length - f.f0.length) (s.drop f.f0.length) (by rw [List.length_drop]) (by omega)
   rw [if_pos hp, if_pos hp]
   by_cases hz : (rdO L (s.drop f.f0.length)).f0 = 0
   ·
    have e1 : oW (rdO L (s.drop f.f0.length)) = -1 := if_pos hz
    rw [if_pos hz, if_pos (by rw [e1]; omega)]
    exact bestF_lA hv hs fs (q + 1) hf.2 b a h
   ·
    have e1 : oW (rdO L (s.drop f.f0.length)) = (rdO L (s.drop f.f0.length)).f1 := if_neg hz
    have w0 := hbd.w0 hz
    have w1 := hbd.w1 hz
    rw [if_neg hz, if_neg (by rw [e1]; omega)]
    simp only [bestF]
    rw [hf.1] at hp hz e1 w0 w1 hl ⊢
    have ew : wrap64 ((rd_T55 L (q : Int)).f1 + (rdO L (s.drop (rd_T55 L (q : Int)).f0.length)).f1) = (rd_T55 L (q : Int)).f1 + oW (rdO L (s.drop (rd_T55 L (q : Int)).f0.length)) := by rw [w64 (by omega) (by omega), e1]
    rw [ew]
    have ec : oW (rdO L (s.drop (rd_T55 L (q : Int)).f0.length)) + (rd_T55 L (q : Int)).f1 = (rd_T55 L (q : Int)).f1 + oW (rdO L (s.drop (rd_T55 L (q : Int)).f0.length)) := by omega
    rw [ec]
    generalize hV : (rd_T55 L (q : Int)).f1 + oW (rdO L (s.drop (rd_T55 L (q : Int)).f0.length)) = V
    have hV0 : 0 ≤ V := by omega
    have sq : selA ((q : Int), V) = V := if_neg (by show ¬ (q : Int) < 0; omega)
    have nxt := bestF_lA hv hs fs (q + 1) hf.2 (q : Int) V (.inr ⟨hV0, by show 0 ≤ (q : Int); omega, by show (q : Int) < _; omega, hp, hz, hV.symm⟩)
    rw [sq] at nxt
    by_cases hb : b < 0
    ·
     have sb : selA (b, a) = -1 := if_pos hb
     rw [sb, if_pos (show (-1 : Int) < 0 ∨ V < -1 from .inl (by omega)), if_pos (show b < 0 ∨ V < a from .inl hb)]
     exact nxt
    ·
     have ha : 0 ≤ a := by rcases h with h | h; exact absurd h hb; exact h.1
     have sb : selA (b, a) = a := if_neg hb
     rw [sb]
     by_cases hc : V < a
     ·
      rw [if_pos (show a < 0 ∨ V < a from .inr hc), if_pos (show b < 0 ∨ V < a from .inr hc)]
      exact nxt
     ·
      rw [if_neg (show ¬ (a < 0 ∨ V < a) by omega), if_neg (show ¬ (b < 0 ∨ V < a) by omega)]
      have := bestF_lA hv hs fs (q + 1) hf.2 b a h
      rw [sb] at this
      exact this
  ·
   rw [if_neg hp, if_neg hp]
   exact bestF_lA hv hs fs (q + 1) hf.2 b a h
theorem best_least {L : List S55} (hv : FsV L) {s : List Int} (hs : s.length ≤ 23) (hne : s ≠ []) (hm : (rdO L s).f0 ≠ 0) :
 ∃ b, (bestF L (rdCalls L s) (-1, 0)).1 = b ∧ 0 ≤ b ∧ b < (L.length : Int) ∧ isPre (rd_T55 L b).f0 s = true ∧ (rdO L (s.drop (rd_T55 L b).f0.length)).f0 ≠ 0 ∧ oW (rdO L s) = (rd_T55 L b).f1 + oW (rdO L (s.drop (rd_T55 L b).f0.length)) := by
 have hcl : rdCalls L s = rdC (rdO L) s ((0 : Nat) : Int) L := if_neg hne
 obtain ⟨h1, h2⟩ := bestF_lA hv hs L 0 rfl (-1) 0 (.inl (by show (-1 : Int) < 0; omega))
 rw [← hcl] at h1 h2
 have s0 : selA (-1, 0) = -1 := rfl
 rw [s0, ← (rdO_least hv hs hne).1] at h2
 have h0 : 0 ≤ oW (rdO L s) := by
  have := rdO_bd hv s.length s rfl hs
  unfold oW
  rw [if_neg hm]; exact this.w0 hm
 rcases h1 with h1 | ⟨a1, a2, a3, a4, a5, a6⟩
 ·
  have : selA (bestF L (rdCalls L s) (-1, 0)) = -1 := if_pos h1
  omega
 ·
  have : selA (bestF L (rdCalls L s) (-1, 0)) = (bestF L (rdCalls L s) (-1, 0)).2 := if_neg (by omega)
  rw [this] at h2
  exact ⟨_, rfl, a2, a3, a4, a5, by rw [h2]; exact a6⟩
theorem bestGo_reads {L : List S55} (hv : FsV L) : ∀ (n : Nat) (s : List Int), s.length ≤ n → s.length ≤ 23 → (rdO L s).f0 ≠ 0 → okIx L (bestGo L n s) ∧ flatR L (bestGo L n s) = s ∧ sumW L (bestGo L n s) = oW (rdO L s)
 | 0, s, h, _, _ => by
  obtain rfl : s = [] := List.eq_nil_of_length_eq_zero (by omega)
  simp only [bestGo, flatR, sumW]
  rw [rdO_nil]
  exact ⟨fun i hi => by simp at hi, trivial, by simp [oW]⟩
 | n + 1, s, h, hs, hm => by
  by_cases hne : s = []
  ·
   subst hne
   simp only [bestGo, if_true, flatR, sumW]
   rw [rdO_nil]
   exact ⟨fun i hi => by simp at hi, trivial, by simp [oW]⟩
  ·
   obtain ⟨b, h1, h2, h3, h4, h5, h6⟩ := best_least hv hs hne hm
   have hl := isPre_len h4
   have ho := hv.one _ (rd_mem h2 h3)
   simp only [bestGo]
   rw [if_neg hne, h1]
   obtain ⟨a1, a2, a3⟩ := bestGo_reads hv n (s.drop (rd_T55 L b).f0.length) (by rw [List.length_drop]; omega) (by rw [List.length_drop]; omega) h5
   simp only [flatR, sumW]
   refine ⟨fun i hi => ?_, ?_, ?_⟩
   ·
    rcases List.mem_cons.1 hi with rfl | hi
    ·
     exact ⟨h2, h3⟩
    ·
     exact a1 i hi
   ·
    rw [a2]
    have := isPre_take h4
    conv => rhs; rw [← List.take_append_drop (rd_T55 L b).f0.length s, this]
   ·
    rw [a3, h6]
theorem bestGo_len (L : List S55) : ∀ (n : Nat) (s : List Int), (bestGo L n s).length ≤ n
 | 0, s => Nat.le_refl _
 | n + 1, s => by
  simp only [bestGo]
  split
  ·
   simp
  ·
   rw [List.length_cons]
   have := bestGo_len L n (s.drop (rd_T55 L (bestF L (rdCalls L s) (-1, 0)).1).f0.length)
   omega

def usedP (L : List S55) (S : List Int) (k : Nat) : Prop := ∃ a, a < S.length ∧ Rch L S (fun j => (rdO L (S.drop j)).f0 ≠ 0) a ∧ isPre (rd_T55 L (k : Int)).f0 (S.drop a) = true ∧ (rdO L (S.drop (a + (rd_T55 L (k : Int)).f0.length))).f0 ≠ 0
inductive Us (L : List S55) (k : Nat) : List Int → Prop
 | here {s : List Int} : isPre (rd_T55 L (k : Int)).f0 s = true → (rdO L (s.drop (rd_T55 L (k : Int)).f0.length)).f0 ≠ 0 → Us L k s
 | later {s : List Int} {i : Nat} : i < L.length → isPre (rd_T55 L (i : Int)).f0 s = true → Us L k (s.drop (rd_T55 L (i : Int)).f0.length) → Us L k s
theorem pre_ok {L : List S55} (hv : FsV L) {s : List Int} (hs : s.length ≤ 23) {i : Nat} (hi : i < L.length) (hp : isPre (rd_T55 L (i : Int)).f0 s = true) (hz : (rdO L (s.drop (rd_T55 L (i : Int)).f0.length)).f0 ≠ 0) : (rdO L s).f0 ≠ 0 := by
 have hm := rd_mem (l := L) (k := (i : Int)) (by omega) (by omega)
 have h1 := (hv.one _ hm).1
 have h2 := isPre_len hp
 have hne : s ≠ [] := by intro e; rw [e, List.length_nil] at h2; omega
 rw [rdO_cnt hv hs hne]
 have h3 := cnt_mem (g := fun t => (rdO L t).f0) (s := s) L (nn_of hv hs) hm hp
 have h4 := (rdO_bd hv _ (s.drop (rd_T55 L (i : Int)).f0.length) rfl (by rw [List.length_drop]; omega)).lo
 omega
theorem us_ok {L : List S55} (hv : FsV L) {k : Nat} (hk : k < L.length) {s : List Int} (h : Us L k s) : s.length ≤ 23 → (rdO L s).f0 ≠ 0 := by
 induction h with
 | here h1 h2 => exact fun hs => pre_ok hv hs hk h1 h2
 | later h1 h2 _ ih => exact fun hs => pre_ok hv hs h1 h2 (ih (by rw [List.length_drop]; omega))
theorem us_of {L : List S55} {S : List Int} {k a : Nat} (h : Rch L S (fun j => (rdO L (S.drop j)).f0 ≠ 0) a) : Us L k (S.drop a) → Us L k S := by
 induction h with
 | zero => exact fun h => by rwa [List.drop_zero] at h
 | step _ h2 _ ih =>
  obtain ⟨i, h4, h5, rfl⟩ := h2
  exact fun h => ih (.later h4 h5 (by rw [List.drop_drop]; exact h))
theorem us_used {L : List S55} (hv : FsV L) {S : List Int} (hS : S.length ≤ 23) {k : Nat} (hk : k < L.length) {s : List Int} (h : Us L k s) : ∀ a, s = S.drop a → Rch L S (fun j => (rdO L (S.drop j)).f0 ≠ 0) a → usedP L S k := by
 induction h with
 | here h1 h2 =>
  rintro a rfl hr
  have h3 := isPre_len h1
  rw [List.length_drop] at h3
  have h4 := (hv.one _ (rd_mem (l := L) (k := (k : Int)) (by omega) (by omega))).1
  rw [List.drop_drop] at h2
  exact ⟨a, by omega, hr, h1, h2⟩
 | @later s i h1 h2 h3 ih =>
  rintro a rfl hr
  have h4 := us_ok hv hk h3 (by rw [List.length_drop, List.length_drop]; omega)
  rw [List.drop_drop] at h4
  exact ih (a + (rd_T55 L (i : Int)).f0.length) (by rw [List.drop_drop]) (.step hr ⟨i, h1, h2, rfl⟩ h4)
theorem used_us {L : List S55} (hv : FsV L) {S : List Int} (hS : S.length ≤ 23) {k : Nat} (hk : k < L.length) : usedP L S k ↔ Us L k S := by
 constructor
 ·
  rintro ⟨a, _, h2, h3, h4⟩
  exact us_of h2 (.here h3 (by rw [List.drop_drop]; exact h4))
 ·
  intro h
  exact us_used hv hS hk h 0 (by rw [List.drop_zero]) .zero
theorem cnt_app {g : List Int → Int} {s : List Int} : ∀ (a b : List S55), cnt g s (a ++ b) = cnt g s a + cnt g s b
 | [], b => by simp [cnt]
 | x :: xs, b => by simp only [List.cons_append, cnt]; rw [cnt_app xs b]; omega
theorem cnt_lt {g g' : List Int → Int} {s : List Int} : ∀ (l : List S55), (∀ f ∈ l, isPre f.f0 s = true → g' (s.drop f.f0.length) ≤ g (s.drop f.f0.length)) → cnt g' s l ≤ cnt g s l ∧ (cnt g' s l < cnt g s l ↔ ∃ f ∈ l, isPre f.f0 s = true ∧ g' (s.drop f.f0.length) < g (s.drop f.f0.length))
 | [], _ => by simp [cnt]
 | x :: xs, h => by
  obtain ⟨h1, h2⟩ := cnt_lt xs (fun f hf => h f (List.mem_cons_of_mem _ hf))
  simp only [cnt]
  by_cases hp : isPre x.f0 s = true
  ·
   have hx := h x List.mem_cons_self hp
   rw [if_pos hp, if_pos hp]
   refine ⟨by omega, ?_⟩
   constructor
   ·
    intro hlt
    by_cases hc : g' (s.drop x.f0.length) < g (s.drop x.f0.length)
    ·
     exact ⟨x, List.mem_cons_self, hp, hc⟩
    ·
     obtain ⟨f, hf, hh⟩ := h2.1 (by omega)
     exact ⟨f, List.mem_cons_of_mem _ hf, hh⟩
   ·
    rintro ⟨f, hf, hh⟩
    rcases List.mem_cons.1 hf with rfl | hf
    ·
     omega
    ·
     have := h2.2 ⟨f, hf, hh⟩; omega
  ·
   rw [if_neg hp, if_neg hp]
   refine ⟨by omega, ?_⟩
   constructor
   ·
    intro hlt
    obtain ⟨f, hf, hh⟩ := h2.1 (by omega)
    exact ⟨f, List.mem_cons_of_mem _ hf, hh⟩
   ·
    rintro ⟨f, hf, hh⟩
    rcases List.mem_cons.1 hf with rfl | hf
    ·
     exact absurd hh.1 hp
    ·
     have := h2.2 ⟨f, hf, hh⟩; omega
theorem cnt_split {g : List Int → Int} {s : List Int} {L : List S55} {k : Nat} (hk : k < L.length) : cnt g s L = cnt g s (L.take k) + ((if isPre (L[k]).f0 s = true then g (s.drop (L[k]).f0.length) else 0) + cnt g s (L.drop (k + 1))) := by
 have e0 : L.take k ++ (L[k] :: L.drop (k + 1)) = L := by rw [← List.drop_eq_getElem_cons hk, List.take_append_drop]
 have h := cnt_app (g := g) (s := s) (L.take k) (L[k] :: L.drop (k + 1))
 rw [e0] at h
 exact h
theorem fewer_iff {L : List S55} (hv : FsV L) {k : Nat} (hk : k < L.length) : ∀ (n : Nat) (s : List Int), s.length ≤ n → s.length ≤ 23 → ((rdO (L.eraseIdx k) s).f0 < (rdO L s).f0 ↔ Us L k s)
 | 0, s, h, _ => by
  obtain rfl : s = [] := List.eq_nil_of_length_eq_zero (by omega)
  rw [rdO_nil, rdO_nil]
  refine ⟨fun h => absurd h (by decide), fun h => ?_⟩
  have key : ∀ i, i < L.length → ¬ isPre (rd_T55 L (i : Int)).f0 [] = true := by
   intro i hi hp
   have h1 := (hv.one _ (rd_mem (l := L) (k := (i : Int)) (by omega) (by omega))).1
   have h2 := isPre_len hp
   rw [List.length_nil] at h2; omega
  cases h with
  | here h1 _ => exact absurd h1 (key k hk)
  | later h1 h2 _ => exact absurd h2 (key _ h1)
 | n + 1, s, h, hs => by
  by_cases hne : s = []
  ·
   subst hne
   exact fewer_iff hv hk 0 [] (Nat.zero_le _) hs
  have hsub : (L.eraseIdx k).Sublist L := List.eraseIdx_sublist _ _
  have hv' := hv.sub hsub
  rw [rdO_cnt hv hs hne, rdO_cnt hv' hs hne]
  have e1 : L.eraseIdx k = L.take k ++ L.drop (k + 1) := List.eraseIdx_eq_take_drop_succ _ _
  have ek : L[k] = rd_T55 L (k : Int) := by
   unfold rd_T55
   rw [Int.toNat_natCast, List.getD_eq_getElem?_getD, List.getElem?_eq_getElem hk]; rfl
  have hle : ∀ f ∈ L, isPre f.f0 s = true → (rdO (L.eraseIdx k) (s.drop f.f0.length)).f0 ≤ (rdO L (s.drop f.f0.length)).f0 := fun f _ _ => many_mono hv hv' hsub _ _ (Nat.le_refl _) (by rw [List.length_drop]; omega)
  have hstep : ∀ f ∈ L, isPre f.f0 s = true → ((rdO (L.eraseIdx k) (s.drop f.f0.length)).f0 < (rdO L (s.drop f.f0.length)).f0 ↔ Us L k (s.drop f.f0.length)) := by
   intro f hf hp
   have h1 := (hv.one f hf).1
   have h2 := isPre_len hp
   exact fewer_iff hv hk n _ (by rw [List.length_drop]; omega) (by rw [List.length_drop]; omega)
  have ix : ∀ f ∈ L, ∃ i, i < L.length ∧ rd_T55 L (i : Int) = f := by
   intro f hf
   obtain ⟨i, hi, rfl⟩ := List.getElem_of_mem hf
   refine ⟨i, hi, ?_⟩
   unfold rd_T55
   rw [Int.toNat_natCast, List.getD_eq_getElem?_getD, List.getElem?_eq_getElem hi]; rfl
  have c0 : cnt (fun t => (rdO L t).f0) s L = cnt (fun t => (rdO L t).f0) s (L.take k) + ((if isPre (rd_T55 L (k : Int)).f0 s = true then (rdO L (s.drop (rd_T55 L (k : Int)).f0.length)).f0 else 0) + cnt (fun t => (rdO L t).f0) s (L.drop (k + 1))) := by
   rw [cnt_split hk, ek]
  have m1 : ∀ f ∈ L.take k, f ∈ L := fun f hf => List.mem_of_mem_take hf
  have m2 : ∀ f ∈ L.drop (k + 1), f ∈ L := fun f hf => List.mem_of_mem_drop hf
  obtain ⟨a1, a2⟩ := cnt_lt (g := fun t => (rdO L t).f0) (g' := fun t => (rdO (L.eraseIdx k) t).f0) (s := s) (L.take k) (fun f hf => hle f (m1 f hf))
  obtain ⟨b1, b2⟩ := cnt_lt (g := fun t => (rdO L t).f0) (g' := fun t => (rdO (L.eraseIdx k) t).f0) (s := s) (L.drop (k + 1)) (fun f hf => hle f (m2 f hf))
  rw [c0]
  conv => lhs; lhs; arg 3; rw [e1]
  rw [cnt_app]
  have hnn : 0 ≤ (if isPre (rd_T55 L (k : Int)).f0 s = true then (rdO L (s.drop (rd_T55 L (k : Int)).f0.length)).f0 else 0) := by
   split
   ·
    exact (rdO_bd hv _ (s.drop (rd_T55 L (k : Int)).f0.length) rfl (by rw [List.length_drop]; omega)).lo
   ·
    exact Int.le_refl _
  constructor
  ·
   intro hlt
   by_cases h1 : 0 < (if isPre (rd_T55 L (k : Int)).f0 s = true then (rdO L (s.drop (rd_T55 L (k : Int)).f0.length)).f0 else 0)
   ·
    by_cases hp : isPre (rd_T55 L (k : Int)).f0 s = true
    ·
     rw [if_pos hp] at h1
     exact .here hp (by omega)
    ·
     rw [if_neg hp] at h1
     exact absurd h1 (by decide)
   ·
    by_cases h2 : cnt (fun t => (rdO (L.eraseIdx k) t).f0) s (L.take k) < cnt (fun t => (rdO L t).f0) s (L.take k)
    ·
     obtain ⟨f, hf, hp, hh⟩ := a2.1 h2
     obtain ⟨i, hi, rfl⟩ := ix f (m1 f hf)
     exact .later hi hp ((hstep _ (m1 _ hf) hp).1 hh)
    ·
     obtain ⟨f, hf, hp, hh⟩ := b2.1 (by omega)
     obtain ⟨i, hi, rfl⟩ := ix f (m2 f hf)
     exact .later hi hp ((hstep _ (m2 _ hf) hp).1 hh)
  ·
   intro hu
   have fin : isPre (rd_T55 L (k : Int)).f0 s = true → (rdO L (s.drop (rd_T55 L (k : Int)).f0.length)).f0 ≠ 0 → cnt (fun t => (rdO (L.eraseIdx k) t).f0) s (L.take k) + cnt (fun t => (rdO (L.eraseIdx k) t).f0) s (L.drop (k + 1)) < cnt (fun t => (rdO L t).f0) s (L.take k) + ((if isPre (rd_T55 L (k : Int)).f0 s = true then (rdO L (s.drop (rd_T55 L (k : Int)).f0.length)).f0 else 0) + cnt (fun t => (rdO L t).f0) s (L.drop (k + 1))) := by
    intro hp hz
    rw [if_pos hp] at hnn ⊢
    omega
   cases hu with
   | here hp hz => exact fin hp hz
   | @later _ i hi hp hu =>
    by_cases hik : i = k
    ·
     subst hik
     exact fin hp (us_ok hv hk hu (by rw [List.length_drop]; omega))
    ·
     have hm := rd_mem (l := L) (k := (i : Int)) (by omega) (by omega)
     have hlt := (hstep _ hm hp).2 hu
     have ei : rd_T55 L (i : Int) = L[i] := by
      unfold rd_T55
      rw [Int.toNat_natCast, List.getD_eq_getElem?_getD, List.getElem?_eq_getElem hi]; rfl
     by_cases h1 : i < k
     ·
      have hin : rd_T55 L (i : Int) ∈ L.take k := by rw [ei]; exact List.mem_take_iff_getElem.2 ⟨i, by omega, rfl⟩
      have := a2.2 ⟨_, hin, hp, hlt⟩
      omega
     ·
      have hin : rd_T55 L (i : Int) ∈ L.drop (k + 1) := by rw [ei]; exact List.mem_drop_iff_getElem.2 ⟨i - (k + 1), by omega, by congr 1; omega⟩
      have := b2.2 ⟨_, hin, hp, hlt⟩
      omega
theorem mem_idxT {x : Int} : ∀ (bs : List Bool) (i : Int), x ∈ idxT i bs ↔ ∃ n, n < bs.length ∧ bs.getD n false = true ∧ x = i + (n : Int)
 | [], i => by simp [idxT]
 | b :: bs, i => by
  simp only [idxT]
  have e : x ∈ (if b = true then i :: idxT (i + 1) bs else idxT (i + 1) bs) ↔ (b = true ∧ x = i) ∨ x ∈ idxT (i + 1) bs := by
   cases b <;> simp
  rw [e, mem_idxT bs (i + 1)]
  constructor
  ·
   rintro (⟨h1, h2⟩ | ⟨n, h1, h2, h3⟩)
   ·
    exact ⟨0, by simp, by simpa using h1, by simpa using h2⟩
   ·
    exact ⟨n + 1, by simpa using h1, by simpa using h2, by rw [h3]; push_cast; omega⟩
  ·
   rintro ⟨n, h1, h2, h3⟩
   cases n with
   | zero => exact .inl ⟨by simpa using h2, by simpa using h3⟩
   | succ n => exact .inr ⟨n, by simpa using h1, by simpa using h2, by rw [h3]; push_cast; omega⟩
theorem mem_used {L : List S55} {S : List Int} (hok : okR L S = true) {k : Nat} (hk : k < L.length) : (k : Int) ∈ fUsed L S ↔ usedP L S k := by
 have hv := FsV.of (okR_of hok).1
 unfold fUsed
 rw [if_pos hok, mem_idxT]
 have hi := (used_inv hv S.length (Nat.le_refl _)).2 k hk
 constructor
 ·
  rintro ⟨n, _, h2, h3⟩
  obtain rfl : n = k := by omega
  obtain ⟨q, g1, g2, g3, g4⟩ := hi.1 h2
  exact ⟨q, g1, g2, g3, g4⟩
 ·
  rintro ⟨q, g1, g2, g3, g4⟩
  exact ⟨k, by rw [(usedFrom_len L S S.length).1]; exact hk, hi.2 ⟨q, g1, g2, g3, g4⟩, by omega⟩
theorem rch_start {L : List S55} (hv : FsV L) {S : List Int} (hS : S.length ≤ 23) {a : Nat} (h : Rch L S (fun j => (rdO L (S.drop j)).f0 ≠ 0) a) : (rdO L (S.drop a)).f0 ≠ 0 → (rdO L S).f0 ≠ 0 := by
 induction h with
 | zero => exact fun h => by rwa [List.drop_zero] at h
 | step _ h2 _ ih => exact fun hz => ih (ok_back hv hS h2 hz)
theorem used_start {L : List S55} {S : List Int} (hok : okR L S = true) (h : fUsed L S ≠ []) : (rdO L S).f0 ≠ 0 := by
 have hv := FsV.of (okR_of hok).1
 have hS := (okR_of hok).2
 obtain ⟨x, hx⟩ := List.exists_mem_of_ne_nil _ h
 have hx2 := hx
 unfold fUsed at hx2
 rw [if_pos hok, mem_idxT] at hx2
 obtain ⟨n, h1, h2, h3⟩ := hx2
 rw [(usedFrom_len L S S.length).1] at h1
 obtain rfl : x = (n : Int) := by omega
 obtain ⟨a, _, g2, g3, g4⟩ := (mem_used hok h1).1 hx
 exact rch_start hv hS g2 (ok_back hv hS ⟨n, h1, g3, rfl⟩ g4)
theorem flat_take (L : List S55) (r : List Int) (n : Nat) : flatR L r = flatR L (r.take n) ++ flatR L (r.drop n) := by rw [← flatR_app, List.take_append_drop]
theorem reads_used {L : List S55} (hv : FsV L) {S : List Int} (hS : S.length ≤ 23) {r : List Int} (hix : okIx L r) (hf : flatR L r = S) : ∀ n, n < r.length → ∀ k : Nat, (k : Int) = r.getD n 0 → usedP L S k := by
 have tail : ∀ n, okIx L (r.drop n) := fun n i hi => hix i (List.mem_of_mem_drop hi)
 have hd : ∀ n, S.drop (flatR L (r.take n)).length = flatR L (r.drop n) := by
  intro n
  have := flat_take L r n
  rw [hf] at this
  conv => lhs; rw [this]
  rw [List.drop_left]
 have hlen : ∀ n, (flatR L (r.drop n)).length ≤ 23 := by intro n; rw [← hd n, List.length_drop]; omega
 have step : ∀ n, n < r.length → ∃ k : Nat, k < L.length ∧ (k : Int) = r.getD n 0 ∧ flatR L (r.drop n) = (rd_T55 L (k : Int)).f0 ++ flatR L (r.drop (n + 1)) ∧ (flatR L (r.take (n + 1))).length = (flatR L (r.take n)).length + (rd_T55 L (k : Int)).f0.length := by
  intro n hn
  have hm : r.getD n 0 ∈ r := by rw [List.getD_eq_getElem?_getD, List.getElem?_eq_getElem hn]; exact List.getElem_mem hn
  have hb := hix _ hm
  obtain ⟨k, hk⟩ := Int.eq_ofNat_of_zero_le hb.1
  refine ⟨k, by omega, hk.symm, ?_, ?_⟩
  ·
   have e : r.drop n = r.getD n 0 :: r.drop (n + 1) := by
    rw [List.drop_eq_getElem_cons hn, List.getD_eq_getElem?_getD, List.getElem?_eq_getElem hn]; rfl
   rw [e, hk]; rfl
  ·
   have e : r.take (n + 1) = r.take n ++ [r.getD n 0] := by
    rw [List.take_succ_eq_append_getElem hn, List.getD_eq_getElem?_getD, List.getElem?_eq_getElem hn]; rfl
   rw [e, flatR_app, List.length_append, hk]
   simp [flatR]
 have ok : ∀ n, (rdO L (S.drop (flatR L (r.take n)).length)).f0 ≠ 0 := by
  intro n
  rw [hd n]
  have := reads_many hv (tail n) (hlen n)
  omega
 have reach : ∀ n, n ≤ r.length → Rch L S (fun j => (rdO L (S.drop j)).f0 ≠ 0) (flatR L (r.take n)).length := by
  intro n
  induction n with
  | zero => intro _; rw [List.take_zero]; exact .zero
  | succ n ih =>
   intro hn
   obtain ⟨k, h1, _, h3, h4⟩ := step n (by omega)
   refine .step (ih (by omega)) ⟨k, h1, ?_, h4.symm⟩ (ok (n + 1))
   rw [hd n, h3]; exact isPre_app _ _
 intro n hn k hk
 obtain ⟨k', h1, h2, h3, h4⟩ := step n hn
 obtain rfl : k = k' := by omega
 have g := ok (n + 1)
 rw [h4] at g
 have h5 := (hv.one _ (rd_mem (l := L) (k := (k : Int)) (by omega) (by omega))).1
 have h6 := congrArg List.length (flat_take L r n)
 rw [List.length_append, hf, h3, List.length_append] at h6
 refine ⟨(flatR L (r.take n)).length, by omega, reach n (by omega), ?_, g⟩
 rw [hd n, h3]; exact isPre_app _ _

theorem isz_bd : ∀ l : List S55, (∀ x ∈ l, x.f0.length ≤ 3) → isz l ≤ 3 * (l.length : Int)
 | [], _ => by simp [isz]
 | x :: xs, h => by
  have h1 := isz_bd xs (fun y hy => h y (List.mem_cons_of_mem _ hy))
  have h2 := h x List.mem_cons_self
  simp only [isz, List.length_cons]
  omega

end Go.Proofs.Ytnemcppllfmioaa.Pure
namespace Go.Proofs.Ytnemcppllfmioaa.Pure
set_option linter.unusedVariables false
set_option linter.unusedSimpArgs false
open Go Go.RowKit Go.Proofs.Ytnemcppllfmioaa.PFnReadUsed Go.Proofs.YtnemcppllfmioaaW.PrintWords Go.Proofs.YtnemcppllfmioaaW.PrintLast Go.Proofs.YtnemcppllfmioaaW.PrintMore

theorem laws_sameInts_ev (a b : List Int) (hl : a.length ≤ 1000000000000) : Ev (fun k => laws_sameInts.f k a b) (a == b) := by
 unfold laws_sameInts.f
 by_cases hlen : (a.length : Int) = (b.length : Int)
 ·
  refine Ev.pos hlen ?_
  have := Ev.over (0 : Int) a (fun k (_ : Unit) i => laws_sameInts.l0 k a b i) (fun _ rest => rest == b.drop (a.length - rest.length)) (fun _ _ => True) (by
   intro s _
   refine Ev.succ ?_
   simp only [laws_sameInts.l0]
   refine Ev.eqr (Ev.neg (by omega) (Ev.now _)) ?_
   have : b.drop a.length = [] := List.drop_eq_nil_of_le (by omega)
   simp [this]) (by
   intro s i rest _ hi hdr ih
   have hrl : rest.length + 1 + i = a.length := by
    have := congrArg List.length hdr
    simp at this; omega
   refine Ev.succ ?_
   simp only [laws_sameInts.l0]
   rw [w64 (by omega) (by omega)]
   refine Ev.pos (by omega) (Ev.pos (by omega) (Ev.pos (by omega) ?_))
   have hra : rd a (i : Int) = a.getD i 0 := rfl
   have hrb : rd b (i : Int) = b.getD i 0 := rfl
   rw [hra, hrb]
   have e2 : a.length - (a.getD i 0 :: rest).length = i := by simp; omega
   have e1 : a.length - rest.length = i + 1 := by omega
   have e3 : b.drop i = b.getD i 0 :: b.drop (i + 1) := by
    rw [List.drop_eq_getElem_cons (by omega), List.getD_eq_getElem?_getD, List.getElem?_eq_getElem (by omega)]; rfl
   rw [e2, e3]
   have ih := ih () trivial
   rw [e1] at ih
   by_cases h : a.getD i 0 = b.getD i 0
   ·
    refine Ev.pos h (Ev.eqr ih ?_)
    rw [h, Bool.eq_iff_iff]; simp
   ·
    refine Ev.neg h (Ev.eqr (Ev.now _) ?_)
    symm; rw [beq_eq_false_iff_ne]; intro hc; exact h (List.cons.inj hc).1) 0 () (Nat.zero_le _) trivial
  simpa using this
 ·
  refine Ev.neg hlen (Ev.eqr (Ev.now _) ?_)
  symm; rw [beq_eq_false_iff_ne]; rintro rfl; exact hlen rfl

theorem hasNumber_ev (l : List Int) (x : Int) (hl : l.length ≤ 1000000000000) : Ev (fun k => laws_hasNumber.f k l x) (decide (x ∈ l)) := by
 unfold laws_hasNumber.f
 have := Ev.over (0 : Int) l (fun k (_ : Unit) i => laws_hasNumber.l0 k l x i) (fun _ rest => decide (x ∈ rest)) (fun _ _ => True) (by
  intro s _
  refine Ev.succ ?_
  simp only [laws_hasNumber.l0]
  exact Ev.eqr (Ev.neg (by omega) (Ev.now _)) (by simp)) (by
  intro s i rest _ hi _ ih
  have hrd : rd l (i : Int) = l.getD i 0 := rfl
  refine Ev.succ ?_
  simp only [laws_hasNumber.l0]
  rw [hrd, w64 (x := (i : Int) + 1) (by omega) (by omega)]
  refine Ev.pos (by omega) (Ev.pos (by omega) ?_)
  by_cases hx : l.getD i 0 = x
  ·
   exact Ev.pos hx (Ev.eqr (Ev.now _) (by rw [hx]; simp))
  ·
   refine Ev.neg hx (Ev.eqr (ih () trivial) ?_)
   have hx' : ¬ x = l.getD i 0 := fun e => hx e.symm
   rw [decide_eq_decide, List.mem_cons]
   exact ⟨.inr, fun h => h.resolve_left hx'⟩) 0 () (Nat.zero_le _) trivial
 simpa using this
theorem FnReadUsed_core (l0 : List Int) (hm0 : l0.length ≤ maxLen) (hw : ∀ x ∈ l0, (Lit.int .u8 x).wf = true) : ∃ k, laws_FnReadUsed.f k l0 = some true := by
 unfold maxLen at hm0
 have key : Ev (fun k => laws_FnReadUsed.f k l0) true := by
  unfold laws_FnReadUsed.f
  by_cases hb : (l0.length : Int) > 1048576
  ·
   exact Ev.pos hb (Ev.now _)
  refine Ev.neg hb ?_
  obtain ⟨⟨L, S⟩, hd, hD, hS⟩ := drawBuilt_open l0 hw
  have hS : S.length ≤ 23 := hS
  have hD : DrF L := hD
  have hl : ∀ x ∈ L, x.f0.length ≤ 1000000000000 := fun x hx => by have := hD.2 x hx; omega
  have hll : L.length ≤ 1000000000000 := by have := hD.1; omega
  have hsz : FormulaSz L ≤ 1000000000000 := by have := isz_bd L hD.2; have := hD.1; unfold FormulaSz; omega
  have hul := fUsed_len L S
  have hU : impl_FormulasUsed.f L S = some (fUsed L S) := by
   unfold impl_FormulasUsed.f
   rw [if_pos ⟨hl, by omega⟩]
  refine Ev.bind hd (Ev.conb hU (Ev.bind (spec_FormulasUsed_ev L S hll hl (by omega)) (Ev.bind (laws_sameInts_ev _ _ (by omega)) ?_)))
  refine Ev.pos (by simp) (Ev.succ ?_)
  simp only [laws_FnReadUsed.j0]
  by_cases h0 : fUsed L S = []
  ·
   refine Ev.pos (by rw [h0]; rfl) (Ev.bind (laws_sameInts_ev _ _ (by omega)) (Ev.eqr (Ev.now _) (by simp)))
  have hne : ¬ ((((fUsed L S).length : Int) == 0) = true) := by
   rw [beq_iff_eq]
   intro e
   exact h0 (List.eq_nil_of_length_eq_zero (by omega))
  refine Ev.neg hne ?_
  have hok : okR L S = true := by
   cases h : okR L S
   ·
    exfalso; apply h0; unfold fUsed; rw [h]; rfl
   ·
    rfl
  have hF := (okR_of hok).1
  have hv := FsV.of hF
  have hz := used_start hok h0
  have hfirst : impl_FormulasFirst.f L S = some (fFirst L S) := by
   unfold impl_FormulasFirst.f
   rw [if_pos ⟨hl, by omega⟩]
  have hbestE : fBest L S = (bestGo L S.length S, true) := by
   unfold fBest
   rw [hok, if_pos rfl, if_neg hz]
  have hbest : impl_FormulasBest.f L S = some (bestGo L S.length S, true) := by
   unfold impl_FormulasBest.f
   rw [if_pos ⟨hl, by omega⟩, hbestE]
  have hfl : (fFirst L S).length ≤ 8 := by
   unfold fFirst
   rw [hok, if_pos rfl, List.length_map]
   have := rdCalls_len L S
   have := hv.len
   omega
  have hbl := bestGo_len L S.length S
  have hM : ∀ O, O.Sublist L → fsOk O = true → impl_FormulasMany.f O S = some (rdO O S).f0 := by
   intro O hsub hFO
   unfold impl_FormulasMany.f
   rw [if_pos ⟨fun x hx => hl x (hsub.subset hx), by omega⟩]
   unfold fMany
   have : okR O S = true := by
    unfold okR at hok ⊢
    rw [Bool.and_eq_true] at hok ⊢
    exact ⟨hFO, hok.2⟩
   rw [if_pos this]
  refine Ev.conb hfirst (Ev.conb hbest (Ev.someb (Ev.pos (by simp; omega) (Ev.someb (Ev.pos (by simp; omega) ?_)))))
  rw [List.nil_append]
  -- all of them are used
  have hin : ∀ x ∈ fFirst L S ++ bestGo L S.length S, x ∈ fUsed L S := by
   intro x hx
   rcases List.mem_append.1 hx with hx | hx
   ·
    unfold fFirst at hx
    rw [hok, if_pos rfl] at hx
    obtain ⟨⟨i, o⟩, h1, rfl⟩ := List.mem_map.1 hx
    have hs0 : 0 < S.length := by
     by_cases hs : S = []
     ·
      rw [hs] at h1
      have e : rdCalls L [] = [] := if_pos rfl
      rw [e] at h1; cases h1
     ·
      exact List.length_pos_iff.2 hs
    obtain ⟨a1, a2, a3, a4⟩ := (calls_iff (L := L) (S := S) hs0 i).1 ⟨o, by rw [List.drop_zero]; exact h1⟩
    obtain ⟨k, rfl⟩ := Int.eq_ofNat_of_zero_le a1
    exact (mem_used hok (by omega)).2 ⟨0, hs0, .zero, a3, a4⟩
   ·
    obtain ⟨g1, g2, _⟩ := bestGo_reads hv S.length S (Nat.le_refl _) hS hz
    have hb := g1 x hx
    obtain ⟨k, rfl⟩ := Int.eq_ofNat_of_zero_le hb.1
    obtain ⟨n, hn, hx⟩ := List.getElem_of_mem hx
    exact (mem_used hok (by omega)).2 (reads_used hv hS g1 g2 n hn k (by rw [List.getD_eq_getElem?_getD, List.getElem?_eq_getElem hn, hx]; rfl))
  have hloop1 : Ev (fun k => laws_FnReadUsed.l1 k L S (fUsed L S) true (rdO L S).f0 0) true := by
   have := Ev.over z55 L (fun k (_ : Unit) i => laws_FnReadUsed.l1 k L S (fUsed L S) true (rdO L S).f0 i) (fun _ _ => true) (fun _ _ => True) (by
    intro s _
    refine Ev.succ ?_
    simp only [laws_FnReadUsed.l1]
    exact Ev.neg (by omega) (Ev.now _)) (by
    intro s i rest _ hi _ ih
    have hsub : (L.eraseIdx i).Sublist L := List.eraseIdx_sublist _ _
    have hFO := fsOk_sub hF hsub
    have hW : impl_FormulasWithout.f L (i : Int) = some (L.eraseIdx i, true) := by
     unfold impl_FormulasWithout.f
     rw [if_pos hsz]
     unfold fwo
     rw [if_pos ⟨hF, by omega, by omega⟩, Int.toNat_natCast]
    refine Ev.succ ?_
    simp only [laws_FnReadUsed.l1]
    rw [w64 (x := (i : Int) + 1) (by omega) (by omega)]
    refine Ev.pos (by omega) (Ev.conb hW (Ev.conb (hM _ hsub hFO) (Ev.pos rfl (Ev.neg ?_ (Ev.bind (hasNumber_ev _ _ (by omega)) (Ev.neg ?_ (ih () trivial)))))))
    ·
     have := many_mono hv (FsV.of hFO) hsub _ S (Nat.le_refl _) hS
     show ¬ (rdO (L.eraseIdx i) S).f0 > (rdO L S).f0
     omega
    ·
     have h1 : (rdO (L.eraseIdx i) S).f0 < (rdO L S).f0 ↔ (i : Int) ∈ fUsed L S := by
      rw [fewer_iff hv hi _ S (Nat.le_refl _) hS, mem_used hok hi, used_us hv hS hi]
     have h2 : decide ((rdO (L.eraseIdx i) S).f0 < (rdO L S).f0) = decide ((i : Int) ∈ fUsed L S) := decide_eq_decide.2 h1
     show ¬ ((decide ((rdO (L.eraseIdx i) S).f0 < (rdO L S).f0) != decide ((i : Int) ∈ fUsed L S)) = true)
     rw [h2]
     simp) 0 () (Nat.zero_le _) trivial
   simpa using this
  have := Ev.over (0 : Int) (fFirst L S ++ bestGo L S.length S) (fun k (_ : Unit) i => laws_FnReadUsed.l0 k L S (fUsed L S) true (fFirst L S ++ bestGo L S.length S) i) (fun _ _ => true) (fun _ _ => True) (by
   intro s _
   refine Ev.succ ?_
   simp only [laws_FnReadUsed.l0]
   exact Ev.neg (by omega) (Ev.conb (hM L (List.Sublist.refl _) hF) hloop1)) (by
   intro s i rest _ hi _ ih
   have hrd : rd (fFirst L S ++ bestGo L S.length S) (i : Int) = (fFirst L S ++ bestGo L S.length S).getD i 0 := rfl
   have hmem := hin _ (show (fFirst L S ++ bestGo L S.length S).getD i 0 ∈ fFirst L S ++ bestGo L S.length S by rw [List.getD_eq_getElem?_getD, List.getElem?_eq_getElem hi]; exact List.getElem_mem hi)
   have hil : i ≤ 100 := by rw [List.length_append] at hi; omega
   refine Ev.succ ?_
   simp only [laws_FnReadUsed.l0]
   rw [hrd, w64 (x := (i : Int) + 1) (by omega) (by omega)]
   refine Ev.pos (by omega) (Ev.pos (by omega) (Ev.bind (hasNumber_ev _ _ (by omega)) ?_))
   rw [decide_eq_true hmem]
   exact Ev.pos rfl (ih () trivial)) 0 () (Nat.zero_le _) trivial
  simpa using this
 exact Ev.rounds key
theorem FnReadUsed_walk (l0 : List Int) (A0 : Option Addr) (c0 : Nat) (w : World) (hr0 : Kd.C (Kd.int .u8) w A0 l0.length l0) (hc0 : l0.length ≤ c0) (hw0 : ∀ x ∈ l0, (Lit.int .u8 x).wf = true) (hm0 : l0.length ≤ maxLen) :
 Calls Try.prog 9 #[.slice A0 l0.length c0] w fun e w' => e = .returned (.bool true) ∧ Below w.heap.size w w' := by
 obtain ⟨k, h⟩ := FnReadUsed_core l0 hm0 hw0
 exact laws_FnReadUsed.calls k A0 c0 l0 true w hr0 hc0 h

def Opn {α : Type} (P : Program) (t : TypeId) (d : Kd α) (ok : α → Prop) : Prop :=
 P.cellsOf t = d.sz ∧ ∀ {H : Type} (enc : TypeId × Value → H) (w : World) (base : Nat) (held : Bool) (fuel : Nat) (cs : List Value) (x : DataW H × List MemPlace), DataW.trod enc P w base (fun _ => true) held fuel t cs = some x → ∃ p, d.K w p cs ∧ ok p
theorem opn_int {P : Program} {t : TypeId} (k : IntKind) (ht : P.underlying t = some (.int k)) (hc : P.cellsOf t = 1) : Opn P t (Kd.int k) (fun n => (Lit.int k n).wf = true) :=
 ⟨hc, fun enc w base held fuel cs x h => by obtain ⟨n, rfl, _, hw⟩ := DataW.trod_int ht h; exact ⟨n, rfl, hw⟩⟩
theorem opn_slice {α : Type} {P : Program} {t e : TypeId} {d : Kd α} {ok : α → Prop} (ht : P.underlying t = some (.slice e)) (hc : P.cellsOf t = 1) (he : Opn P e d ok) : Opn P t (Kd.slice e d) (fun l => (∀ x ∈ l, ok x) ∧ l.length ≤ maxLen) := by
 refine ⟨hc, fun enc w base held fuel cs x h => ?_⟩
 rcases Go.Deep.open_slice ht h with ⟨rfl, _⟩ | ⟨a, len, cap, m, n, D, Pl, rfl, _, hl, hm, hmm, _, hi⟩
 ·
  exact ⟨[], ⟨none, 0, rfl, Nat.le_refl _, rfl, by simp, fun h => by simp at h⟩, by simp, by simp⟩
 ·
  have hmc : m = cap := by simpa using hmm
  clear hmm
  have key : ∀ k, k ≤ len → ∃ l : List α, l.length = k ∧ (∀ x ∈ l, ok x) ∧ ∀ j p, l[j]? = some p → ∃ c, c.length = d.sz ∧ d.K w p c ∧ ∀ i u, c[i]? = some u → w.cell? (a.add (j * d.sz + i)) = some u := by
   intro k
   induction k with
   | zero => intro _; exact ⟨[], rfl, by simp, by simp⟩
   | succ k ih =>
    intro hk
    obtain ⟨l, hll, hlo, hlc⟩ := ih (by omega)
    obtain ⟨cs', hcs, ht'⟩ := hi k (by omega)
    rw [he.1] at hcs
    obtain ⟨p, hp, hop⟩ := he.2 enc w base held n cs' _ ht'
    obtain ⟨_, hcl, hat⟩ := World.cells?_some hcs
    refine ⟨l ++ [p], by simp [hll], ?_, ?_⟩
    ·
     intro x hx
     rcases List.mem_append.1 hx with hx | hx
     ·
      exact hlo x hx
     ·
      rw [List.mem_singleton.1 hx]; exact hop
    ·
     intro j q hq
     by_cases hj : j < l.length
     ·
      rw [List.getElem?_append_left hj] at hq
      exact hlc j q hq
     ·
      have hj2 : j = l.length := by
       have := (List.getElem?_eq_some_iff.1 hq).1
       simp at this; omega
      subst hj2
      rw [List.getElem?_append_right (Nat.le_refl _)] at hq
      simp at hq
      subst hq
      refine ⟨cs', hcl, hp, fun i u hu => ?_⟩
      have hil : i < d.sz := by rw [← hcl]; exact (List.getElem?_eq_some_iff.1 hu).1
      rw [hll, ← Go.Deep.add_add, hat i hil, hu]
  obtain ⟨l, hll, hlo, hlc⟩ := key len (Nat.le_refl _)
  subst hll
  exact ⟨l, ⟨some a, cap, rfl, hl, rfl, by unfold maxLen at hm; omega, fun _ => ⟨a, rfl, hlc⟩⟩, hlo, by omega⟩
/-- A slice argument. -/
theorem opn_arg {α : Type} {P : Program} {t e : TypeId} {d : Kd α} {ok : List α → Prop} (h : Opn P t (Kd.slice e d) ok) {H : Type} {enc : TypeId × Value → H} {w : World} {base : Nat} {held : Bool} {a : Option Addr} {len cap : Nat} {x : DataW H} {p : List MemPlace} (hr : DataW.Trod enc P w base (fun _ => true) held t (.slice a len cap) x p) :
 ∃ l : List α, len = l.length ∧ l.length ≤ cap ∧ d.C w a l.length l ∧ ok l := by
 obtain ⟨fuel, hf⟩ := hr
 obtain ⟨l, ⟨A, c, he, hc, hC⟩, ho⟩ := h.2 enc w base held fuel _ _ hf
 simp [Value.cells] at he
 obtain ⟨rfl, rfl, rfl⟩ := he
 exact ⟨l, rfl, hc, hC, ho⟩

end Go.Proofs.Ytnemcppllfmioaa.Pure
