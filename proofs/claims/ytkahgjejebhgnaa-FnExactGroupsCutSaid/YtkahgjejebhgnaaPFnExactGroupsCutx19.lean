-- PRINTED BY print.sh 35421559b90ae4d0a3588c463048766b98c2df88dd9212a6774a882060cdf62d: not written by this session
import Derived.Test.YtkahgjejebhgnaaPFnExactGroupsCutx0
import Derived.Test.YtkahgjejebhgnaaPFnExactGroupsCutx13
import Derived.Test.YtkahgjejebhgnaaPFnExactGroupsCutx17
import Derived.Test.YtkahgjejebhgnaaPFnExactGroupsCutx18
namespace Go.Proofs.Ytkahgjejebhgnaa.PFnExactGroupsCut
open Go.RowKit Go.Proofs.YtkahgjejebhgnaaW.PrintWords Go.Proofs.YtkahgjejebhgnaaW.PrintLast Go.Proofs.YtkahgjejebhgnaaW.PrintMore
attribute [local go_sem] max2_int min2_int max_two min_two max_three min_three max_four min_four   -- for this text's walks alone
set_option linter.unusedVariables false
set_option linter.unusedSimpArgs false

/-! ### spec_GroupsCut: function 20 -/
def spec_GroupsCut.f (k : Nat) (l0 : List (S67)) (l1 : List (S65)) (a2 : Int) : Option ((List (S67)) × Bool) := (spec_GroupsValid.f k l0 l1).bind fun t145 => (if t145 = true then ((spec_l6In.f a2 0 (wrap64 ((l1.length : Int) - 1))).bind fun t146 => (if t146 = true then ((spec_l3Begin.f k l1 a2).bind fun t147 => ((some (([] : List (S67)) : List (S67))).bind fun y148 => (if 0 ≤ a2 then (if a2 < (l1.length : Int) then (if 0 ≤ t147 then (if t147 ≤ (wrap64 (t147 + ((rd_T65 l1 a2).f0))) then (if (wrap64 (t147 + ((rd_T65 l1 a2).f0))) ≤ (l0.length : Int) then ((some ((l0.take ((wrap64 (t147 + ((rd_T65 l1 a2).f0))) : Int).toNat).drop (t147 : Int).toNat : List (S67))).bind fun y152 => (if y148.length + y152.length < 8796093022208 then (some ((y148 ++ y152), true)) else (none))) else (none)) else (none)) else (none)) else (none)) else (none)))) else (some ((([] : List (S67))), false)))) else (some ((([] : List (S67))), false)))
theorem spec_GroupsCut.mono : ∀ a0 a1 a2 k, LeO (spec_GroupsCut.f k a0 a1 a2) (spec_GroupsCut.f (k + 1) a0 a1 a2) := by
  intro a0 a1 a2 k
  unfold spec_GroupsCut.f
  repeat' first
      | (with_reducible exact spec_GroupsValid.mono _ _ _)
      | (with_reducible exact spec_l3Begin.mono _ _ _)
      | (with_reducible exact LeO.refl _)
      | (with_reducible exact LeO.none _)
      | (with_reducible refine LeO.ite ?_ ?_)
      | (with_reducible refine LeO.bind ?_ (fun _ => ?_))
      | exact spec_GroupsValid.mono _ _ _
      | exact spec_l3Begin.mono _ _ _
      | exact LeO.none _
      | refine LeO.ite ?_ ?_
      | refine LeO.bind ?_ (fun _ => ?_)
set_option maxHeartbeats 8000000 in
set_option maxRecDepth 100000 in
theorem spec_GroupsCut.calls (k : Nat) (A0 : Option Addr) (c0 : Nat) (l0 : List (S67)) (A1 : Option Addr) (c1 : Nat) (l1 : List (S65)) (a2 : Int) (r1 : List (S67)) (r2 : Bool) (w : World) (hr0 : Kd.C k67 w A0 l0.length l0) (hc0 : l0.length ≤ c0) (hr1 : Kd.C k65 w A1 l1.length l1) (hc1 : l1.length ≤ c1) (h : spec_GroupsCut.f k l0 l1 a2 = some (r1, r2)) :
    Calls Try.prog 20 #[.slice A0 l0.length c0, .slice A1 l1.length c1, .int .i64 a2] w fun e w' => ∃ v0_ : Value, e = .returned (.tuple #[v0_, .bool r2]) ∧ Kd.R k67 67 w' w.heap.size (fun _ => True) v0_ r1 ∧ Below w.heap.size w w' := by
  have HR0 := Aside0.mk hr0
  have HC0 := Aside0.mk hc0
  clear hr0 hc0
  have HR1 := Aside0.mk hr1
  have HC1 := Aside0.mk hc1
  clear hr1 hc1
  have HB := Aside0.mk (Below.refl w.heap.size w)
  have H : ((spec_GroupsValid.f k l0 l1).bind fun t145 => (if t145 = true then ((spec_l6In.f a2 0 (wrap64 ((l1.length : Int) - 1))).bind fun t146 => (if t146 = true then ((spec_l3Begin.f k l1 a2).bind fun t147 => ((some (([] : List (S67)) : List (S67))).bind fun y148 => (if 0 ≤ a2 then (if a2 < (l1.length : Int) then (if 0 ≤ t147 then (if t147 ≤ (wrap64 (t147 + ((rd_T65 l1 a2).f0))) then (if (wrap64 (t147 + ((rd_T65 l1 a2).f0))) ≤ (l0.length : Int) then ((some ((l0.take ((wrap64 (t147 + ((rd_T65 l1 a2).f0))) : Int).toNat).drop (t147 : Int).toNat : List (S67))).bind fun y152 => (if y148.length + y152.length < 8796093022208 then (some ((y148 ++ y152), true)) else (none))) else (none)) else (none)) else (none)) else (none)) else (none)))) else (some ((([] : List (S67))), false)))) else (some ((([] : List (S67))), false)))) = some (r1, r2) := h
  clear h
  replace H := Option.bind_eq_some_iff.mp H
  obtain ⟨t145, A40, H⟩ := H
  replace H : (if t145 = true then ((spec_l6In.f a2 0 (wrap64 ((l1.length : Int) - 1))).bind fun t146 => (if t146 = true then ((spec_l3Begin.f k l1 a2).bind fun t147 => ((some (([] : List (S67)) : List (S67))).bind fun y148 => (if 0 ≤ a2 then (if a2 < (l1.length : Int) then (if 0 ≤ t147 then (if t147 ≤ (wrap64 (t147 + ((rd_T65 l1 a2).f0))) then (if (wrap64 (t147 + ((rd_T65 l1 a2).f0))) ≤ (l0.length : Int) then ((some ((l0.take ((wrap64 (t147 + ((rd_T65 l1 a2).f0))) : Int).toNat).drop (t147 : Int).toNat : List (S67))).bind fun y152 => (if y148.length + y152.length < 8796093022208 then (some ((y148 ++ y152), true)) else (none))) else (none)) else (none)) else (none)) else (none)) else (none)))) else (some ((([] : List (S67))), false)))) else (some ((([] : List (S67))), false))) = some (r1, r2) := H
  have A4 := Aside0.mk A40
  clear A40
  by_cases c5 : t145 = true
  · subst c5
    have H1 : ((spec_l6In.f a2 0 (wrap64 ((l1.length : Int) - 1))).bind fun t146 => (if t146 = true then ((spec_l3Begin.f k l1 a2).bind fun t147 => ((some (([] : List (S67)) : List (S67))).bind fun y148 => (if 0 ≤ a2 then (if a2 < (l1.length : Int) then (if 0 ≤ t147 then (if t147 ≤ (wrap64 (t147 + ((rd_T65 l1 a2).f0))) then (if (wrap64 (t147 + ((rd_T65 l1 a2).f0))) ≤ (l0.length : Int) then ((some ((l0.take ((wrap64 (t147 + ((rd_T65 l1 a2).f0))) : Int).toNat).drop (t147 : Int).toNat : List (S67))).bind fun y152 => (if y148.length + y152.length < 8796093022208 then (some ((y148 ++ y152), true)) else (none))) else (none)) else (none)) else (none)) else (none)) else (none)))) else (some ((([] : List (S67))), false)))) = some (r1, r2) := by rw [if_pos rfl] at H; exact H
    clear H
    have H := H1
    clear H1
    replace H := Option.bind_eq_some_iff.mp H
    obtain ⟨t146, A60, H⟩ := H
    replace H : (if t146 = true then ((spec_l3Begin.f k l1 a2).bind fun t147 => ((some (([] : List (S67)) : List (S67))).bind fun y148 => (if 0 ≤ a2 then (if a2 < (l1.length : Int) then (if 0 ≤ t147 then (if t147 ≤ (wrap64 (t147 + ((rd_T65 l1 a2).f0))) then (if (wrap64 (t147 + ((rd_T65 l1 a2).f0))) ≤ (l0.length : Int) then ((some ((l0.take ((wrap64 (t147 + ((rd_T65 l1 a2).f0))) : Int).toNat).drop (t147 : Int).toNat : List (S67))).bind fun y152 => (if y148.length + y152.length < 8796093022208 then (some ((y148 ++ y152), true)) else (none))) else (none)) else (none)) else (none)) else (none)) else (none)))) else (some ((([] : List (S67))), false))) = some (r1, r2) := H
    have A6 := Aside0.mk A60
    clear A60
    by_cases c7 : t146 = true
    · subst c7
      have H1 : ((spec_l3Begin.f k l1 a2).bind fun t147 => ((some (([] : List (S67)) : List (S67))).bind fun y148 => (if 0 ≤ a2 then (if a2 < (l1.length : Int) then (if 0 ≤ t147 then (if t147 ≤ (wrap64 (t147 + ((rd_T65 l1 a2).f0))) then (if (wrap64 (t147 + ((rd_T65 l1 a2).f0))) ≤ (l0.length : Int) then ((some ((l0.take ((wrap64 (t147 + ((rd_T65 l1 a2).f0))) : Int).toNat).drop (t147 : Int).toNat : List (S67))).bind fun y152 => (if y148.length + y152.length < 8796093022208 then (some ((y148 ++ y152), true)) else (none))) else (none)) else (none)) else (none)) else (none)) else (none)))) = some (r1, r2) := by rw [if_pos rfl] at H; exact H
      clear H
      have H := H1
      clear H1
      replace H := Option.bind_eq_some_iff.mp H
      obtain ⟨t147, A80, H⟩ := H
      replace H : ((some (([] : List (S67)) : List (S67))).bind fun y148 => (if 0 ≤ a2 then (if a2 < (l1.length : Int) then (if 0 ≤ t147 then (if t147 ≤ (wrap64 (t147 + ((rd_T65 l1 a2).f0))) then (if (wrap64 (t147 + ((rd_T65 l1 a2).f0))) ≤ (l0.length : Int) then ((some ((l0.take ((wrap64 (t147 + ((rd_T65 l1 a2).f0))) : Int).toNat).drop (t147 : Int).toNat : List (S67))).bind fun y152 => (if y148.length + y152.length < 8796093022208 then (some ((y148 ++ y152), true)) else (none))) else (none)) else (none)) else (none)) else (none)) else (none))) = some (r1, r2) := H
      have A8 := Aside0.mk A80
      clear A80
      obtain ⟨y148, hy148⟩ : ∃ y_ : List (S67), y_ = (([] : List (S67))) := ⟨_, rfl⟩
      replace H : (if 0 ≤ a2 then (if a2 < (l1.length : Int) then (if 0 ≤ t147 then (if t147 ≤ (wrap64 (t147 + ((rd_T65 l1 a2).f0))) then (if (wrap64 (t147 + ((rd_T65 l1 a2).f0))) ≤ (l0.length : Int) then ((some ((l0.take ((wrap64 (t147 + ((rd_T65 l1 a2).f0))) : Int).toNat).drop (t147 : Int).toNat : List (S67))).bind fun y152 => (if y148.length + y152.length < 8796093022208 then (some ((y148 ++ y152), true)) else (none))) else (none)) else (none)) else (none)) else (none)) else (none)) = some (r1, r2) := by first | (rw [hy148]; with_reducible exact H) | (have H2_ := (Option.bind_some _ _).symm.trans H; rw [hy148]; with_reducible exact H2_) | (have H2_ := (Option.bind_some _ _).symm.trans H; with_reducible exact H2_) | with_reducible exact H | (rw [hy148]; exact H) | exact H
      have Ny148 := Aside0.mk hy148
      clear hy148
      by_cases c9 : 0 ≤ a2
      · rw [if_pos c9] at H
        have c9b0 : decide (0 ≤ a2) = true := decide_eq_true c9
        clear c9
        by_cases c10 : a2 < (l1.length : Int)
        · rw [if_pos c10] at H
          have c10b0 : decide (a2 < (l1.length : Int)) = true := decide_eq_true c10
          clear c10
          by_cases c11 : 0 ≤ t147
          · rw [if_pos c11] at H
            have c11b0 := eq_true c11
            have c11b1 : decide (0 ≤ t147) = true := decide_eq_true c11
            clear c11
            by_cases c12 : t147 ≤ (wrap64 (t147 + ((rd_T65 l1 a2).f0)))
            · rw [if_pos c12] at H
              have c12b0 := eq_true c12
              have c12b1 : decide (t147 ≤ (wrap64 (t147 + ((rd_T65 l1 a2).f0)))) = true := decide_eq_true c12
              by_cases c13 : (wrap64 (t147 + ((rd_T65 l1 a2).f0))) ≤ (l0.length : Int)
              · rw [if_pos c13] at H
                have c13b0 := eq_true c13
                have c13b1 : decide ((wrap64 (t147 + ((rd_T65 l1 a2).f0))) ≤ (l0.length : Int)) = true := decide_eq_true c13
                obtain ⟨y152, hy152⟩ : ∃ y_ : List (S67), y_ = ((l0.take ((wrap64 (t147 + ((rd_T65 l1 a2).f0))) : Int).toNat).drop (t147 : Int).toNat) := ⟨_, rfl⟩
                replace H : (if y148.length + y152.length < 8796093022208 then (some ((y148 ++ y152), true)) else (none)) = some (r1, r2) := by first | (rw [hy152]; with_reducible exact H) | (have H2_ := (Option.bind_some _ _).symm.trans H; rw [hy152]; with_reducible exact H2_) | (have H2_ := (Option.bind_some _ _).symm.trans H; with_reducible exact H2_) | with_reducible exact H | (rw [hy152]; exact H) | exact H
                have Ny152 := Aside0.mk hy152
                clear hy152
                by_cases c14 : y148.length + y152.length < 8796093022208
                · rw [if_pos c14] at H
                  have LMc14 := Aside0.mk c14
                  clear c14
                  obtain ⟨y156, hy156⟩ : ∃ y_ : List (S67), y_ = (y148 ++ y152) := ⟨_, rfl⟩
                  replace H : (some (y156, true)) = some (r1, r2) := by first | (rw [hy156]; with_reducible exact H) | (have H2_ := (Option.bind_some _ _).symm.trans H; rw [hy156]; with_reducible exact H2_) | (have H2_ := (Option.bind_some _ _).symm.trans H; with_reducible exact H2_) | with_reducible exact H | (rw [hy156]; exact H) | exact H
                  have Ny156 := Aside0.mk hy156
                  clear hy156
                  simp only [Option.some.injEq, Prod.mk.injEq] at H
                  obtain ⟨rfl, rfl⟩ := H
                  go_enter Try.func20, Try.ntmps20
                  go_wp2_with (first | ((with_reducible refine gate_callee (f := 41) rfl ?_); refine goesL_ (some 11) rfl rfl Try.func41 (by kernel_rfl) rfl #[.slice A0 l0.length c0, .slice A1 l1.length c1] rfl (by (try simp only [List.map_toArray, List.map_cons, List.map_nil]); first | done | rfl | (simp only [List.length_drop, List.length_take]; rfl)) ?_; (with_reducible refine (spec_GroupsValid.calls k _ _ l0 _ _ l1 true _ ?side1 ?side2 ?side3 ?side4 A4.out).mono ?_); (case side1 => repeat (first | exact HR0.out | (with_reducible refine Kd.C_alloc ?_ _) | (with_reducible refine Kd.C_drewN ?_ _) | (with_reducible refine Kd.C_drew ?_))); (case side2 => exact HC0.out); (case side3 => repeat (first | exact HR1.out | (with_reducible refine Kd.C_alloc ?_ _) | (with_reducible refine Kd.C_drewN ?_ _) | (with_reducible refine Kd.C_drew ?_))); (case side4 => exact HC1.out); rintro e w15 ⟨rfl, hb⟩; refine ⟨_, rfl, ?_⟩; have n0_ := Aside0.mk (below_step (by repeat (first | (with_reducible first | exact HB.out | apply below_alloc | apply pw_below_drewN | apply below_drew1) | exact HB.out)) hb); clear HB; have HB := n0_; clear n0_; (try clear hb); (try clear hb2); (try clear hk); (try clear hi)) | (go_at_call 42; (with_reducible refine (spec_l6In.calls a2 0 (wrap64 ((l1.length : Int) - 1)) true _ A6.out).mono ?_); rintro e w' ⟨rfl, ⟨nd, rfl⟩⟩) | ((with_reducible refine gate_callee (f := 48) rfl ?_); refine goesL_ (some 24) rfl rfl Try.func48 (by kernel_rfl) rfl #[.slice A1 l1.length c1, .int .i64 a2] rfl (by (try simp only [List.map_toArray, List.map_cons, List.map_nil]); first | done | rfl | (simp only [List.length_drop, List.length_take]; rfl)) ?_; (with_reducible refine (spec_l3Begin.calls k _ _ l1 a2 t147 _ ?side1 ?side2 A8.out).mono ?_); (case side1 => repeat (first | exact (Kd.C_below HR1.out (by repeat (first | (with_reducible first | exact HB.out | apply below_alloc | apply pw_below_drewN | apply below_drew1) | exact HB.out))) | (with_reducible refine Kd.C_alloc ?_ _) | (with_reducible refine Kd.C_drewN ?_ _) | (with_reducible refine Kd.C_drew ?_))); (case side2 => exact HC1.out); rintro e w' ⟨rfl, ⟨nd, rfl⟩⟩; refine ⟨_, rfl, ?_⟩) | ((with_reducible refine gate_dst (N := 25) rfl ?_); (try (refine gate_guard (by rfl) ?_; dsimp only)); refine Kd.R_lit k67 _ 67 ?hg (N := 25) ?hd (xs := ([] : List (S67))) (inner := []) (ok := fun _ => True) (okp := fun _ => True) ?hr ?hp (fun _ hk => hk) trivial (Below.refl _ _) (Nat.le_refl _) (by simp) ?_; (case hd => rfl); (case hg => rfl); (case hr => first | (go_simp; done) | (go_simp; rfl)); (case hp => exact (Reps.none _ _)); intro v149 w16 ho17 hb hg_ hnew_; clear hg_ hnew_; (first | rw [← Ny148.out] at ho17 | (simp only [Int.reduceToNat] at ho17; rw [← Ny148.out] at ho17)); have n0_ := Aside0.mk (Kd.R_lower ho17 (below_size (by repeat (first | (with_reducible first | exact HB.out | apply below_alloc | apply pw_below_drewN | apply below_drew1) | exact HB.out)))); have n1_ := Aside0.mk (below_step (by repeat (first | (with_reducible first | exact HB.out | apply below_alloc | apply pw_below_drewN | apply below_drew1) | exact HB.out)) hb); clear HB; have HO150 := n0_; have HB := n1_; clear n0_ n1_; clear hb ho17; have p151 : 0 ≤ (a2 : Int) := of_decide_eq_true (by first | (with_reducible assumption) | assumption); have q151 : a2 < (l1.length : Int) := of_decide_eq_true (by first | (with_reducible assumption) | assumption); obtain ⟨ad151, e151, hx151_0, hx151_1⟩ := at_T65 HR1.out a2 p151 q151; cases e151; replace hx151_0 := (HB.out.cell (World.block_lt_of_cell? w _ hx151_0)).trans hx151_0; replace hx151_1 := (HB.out.cell (World.block_lt_of_cell? w _ hx151_1)).trans hx151_1; replace p151 := eq_true p151; replace q151 := eq_true q151; have q18 : ((wrap64 (t147 + ((rd_T65 l1 a2).f0))) : Int) ≤ ((l0.length : Int) : Int) := of_decide_eq_true (by first | (with_reducible assumption) | assumption); obtain ⟨i018, hi018, _, hsz18, _⟩ := info_parts info67; have hroom18 : l0.length ≤ c0 := HC0.out; have hC18 : Kd.C k67 _ A0 l0.length l0 := HR0.out; have ql18 : (t147 : Int) ≤ ((wrap64 (t147 + ((rd_T65 l1 a2).f0))) : Int) := of_decide_eq_true (by first | (with_reducible assumption) | assumption); have q018 : (0 : Int) ≤ (t147 : Int) := of_decide_eq_true (by first | (with_reducible assumption) | assumption); have hcut18 := cut_mid (P := Try.prog) 29 67 .i64 .i64 Try.underlying29 hi018 2 hsz18 A0 l0.length c0 t147 (wrap64 (t147 + ((rd_T65 l1 a2).f0))) q018 ql18 q18 hroom18; have hr18 := Kd.C_mid (lo := (t147 : Int).toNat) (hi := ((wrap64 (t147 + ((rd_T65 l1 a2).f0))) : Int).toNat) (c := c0) hC18 (by omega) (by omega) hroom18; obtain ⟨A18, hA18⟩ : ∃ A1, A1 = (if c0 = (t147 : Int).toNat then A0 else (A0 : Option Addr).map (·.add ((t147 : Int).toNat * 2))) := ⟨_, rfl⟩; obtain ⟨c18, hc18⟩ : ∃ c1, c1 = c0 - (t147 : Int).toNat := ⟨_, rfl⟩; have hy18 : y152.length = ((wrap64 (t147 + ((rd_T65 l1 a2).f0))) : Int).toNat - (t147 : Int).toNat := (by rw [Ny152.out, List.length_drop, List.length_take] <;> omega); rw [show ((l0).take ((wrap64 (t147 + ((rd_T65 l1 a2).f0))) : Int).toNat).drop (t147 : Int).toNat = y152 from Ny152.out.symm] at hr18; replace hr18 : Kd.C k67 _ A18 y152.length y152 := (by rw [hA18]; exact hr18); rw [← hy18, ← hA18, ← hc18] at hcut18; have HR155 := Aside0.mk hr18; have HC155 := Aside0.mk (show y152.length ≤ c18 from by rw [hy18, hc18]; exact Nat.sub_le_sub_right (Nat.le_trans (by omega) hroom18) _); clear hr18 hC18 hroom18 hi018 hsz18 hc18; have KY18 := Aside0.mk hy18; have KA18 := Aside0.mk hA18; clear hy18 hA18; replace q18 := eq_true q18) | ((with_reducible refine gate_builtin (b := .append) (xs := #[.tmp 25, .tmp 35]) rfl ?_); (try (refine gate_guard (by rfl) ?_; dsimp only)); at_builtin; refine Kd.R_append_rows k67 (w0 := w) w.heap.size rfl (.tmp 25) (.tmp 35) 29 67 (.agg #[(.int .i64 0), (.bool false)]) 16 rfl Try.underlying29 info67 rfl (by decide) (by omega) v149 y148 y152 _ _ _ (fun _ => True) (fun _ => False) rfl rfl ?aO ?aR (fun _ _ h => h) (fun _ h => h.elim) ?aF ?aB ?aS ?aL ?_; (case aR => repeat (first | exact (Kd.C_below HR155.out HB.out) | (with_reducible refine Kd.C_alloc ?_ _) | (with_reducible refine Kd.C_drewN ?_ _) | (with_reducible refine Kd.C_drew ?_))); (case aB => exact (by repeat (first | (with_reducible first | exact HB.out | apply below_alloc | apply pw_below_drewN | apply below_drew1) | exact HB.out))); (case aF => exact (fun _ _ => trivial)); (case aO => exact (by (with_reducible repeat (first | apply Kd.R_alloc | apply Kd.R_drewN | apply Kd.R_drew)); exact HO150.out)); (case aS => exact (below_size (by repeat (first | (with_reducible first | exact HB.out | apply below_alloc | apply pw_below_drewN | apply below_drew1) | exact HB.out)))); (case aL => have := LMc14.out; omega); intro v157 w19 ho hb hg hat; rw [← Ny156.out] at ho; have n0_ := Aside0.mk (hb); have n1_ := Aside0.mk (ho); clear HB; clear HO150; have HB := n0_; have HO158 := n1_; clear n0_ n1_; clear ho hb hg hat))
                  go_ret2
                  exact ⟨_, by first | rfl | (simp [errW_none, errW_some] <;> rfl) | (simp [*, errW_none, errW_some] <;> rfl), by (with_reducible repeat (first | apply Kd.R_alloc | apply Kd.R_drewN | apply Kd.R_drew)); exact HO158.out, by repeat (first | (with_reducible first | exact HB.out | apply below_alloc | apply pw_below_drewN | apply below_drew1) | exact HB.out)⟩
                · rw [if_neg c14] at H
                  exact absurd H (by simp)
              · rw [if_neg c13] at H
                exact absurd H (by simp)
            · rw [if_neg c12] at H
              exact absurd H (by simp)
          · rw [if_neg c11] at H
            exact absurd H (by simp)
        · rw [if_neg c10] at H
          exact absurd H (by simp)
      · rw [if_neg c9] at H
        exact absurd H (by simp)
    · replace c7 := Bool.eq_false_iff.mpr c7
      subst c7
      have H1 : (some ((([] : List (S67))), false)) = some (r1, r2) := by rw [if_neg (show ¬ (false = true) by decide)] at H; exact H
      clear H
      have H := H1
      clear H1
      obtain ⟨y159, hy159⟩ : ∃ y_ : List (S67), y_ = (([] : List (S67))) := ⟨_, rfl⟩
      replace H : (some (y159, false)) = some (r1, r2) := by first | (rw [hy159]; with_reducible exact H) | (have H2_ := (Option.bind_some _ _).symm.trans H; rw [hy159]; with_reducible exact H2_) | (have H2_ := (Option.bind_some _ _).symm.trans H; with_reducible exact H2_) | with_reducible exact H | (rw [hy159]; exact H) | exact H
      have Ny159 := Aside0.mk hy159
      clear hy159
      simp only [Option.some.injEq, Prod.mk.injEq] at H
      obtain ⟨rfl, rfl⟩ := H
      go_enter Try.func20, Try.ntmps20
      go_wp2_with (first | ((with_reducible refine gate_callee (f := 41) rfl ?_); refine goesL_ (some 11) rfl rfl Try.func41 (by kernel_rfl) rfl #[.slice A0 l0.length c0, .slice A1 l1.length c1] rfl (by (try simp only [List.map_toArray, List.map_cons, List.map_nil]); first | done | rfl | (simp only [List.length_drop, List.length_take]; rfl)) ?_; (with_reducible refine (spec_GroupsValid.calls k _ _ l0 _ _ l1 true _ ?side1 ?side2 ?side3 ?side4 A4.out).mono ?_); (case side1 => repeat (first | exact HR0.out | (with_reducible refine Kd.C_alloc ?_ _) | (with_reducible refine Kd.C_drewN ?_ _) | (with_reducible refine Kd.C_drew ?_))); (case side2 => exact HC0.out); (case side3 => repeat (first | exact HR1.out | (with_reducible refine Kd.C_alloc ?_ _) | (with_reducible refine Kd.C_drewN ?_ _) | (with_reducible refine Kd.C_drew ?_))); (case side4 => exact HC1.out); rintro e w20 ⟨rfl, hb⟩; refine ⟨_, rfl, ?_⟩; have n0_ := Aside0.mk (below_step (by repeat (first | (with_reducible first | exact HB.out | apply below_alloc | apply pw_below_drewN | apply below_drew1) | exact HB.out)) hb); clear HB; have HB := n0_; clear n0_; (try clear hb); (try clear hb2); (try clear hk); (try clear hi)) | (go_at_call 42; (with_reducible refine (spec_l6In.calls a2 0 (wrap64 ((l1.length : Int) - 1)) false _ A6.out).mono ?_); rintro e w' ⟨rfl, ⟨nd, rfl⟩⟩) | ((with_reducible refine gate_dst (N := 21) rfl ?_); (try (refine gate_guard (by rfl) ?_; dsimp only)); refine Kd.R_lit k67 _ 67 ?hg (N := 21) ?hd (xs := ([] : List (S67))) (inner := []) (ok := fun _ => True) (okp := fun _ => True) ?hr ?hp (fun _ hk => hk) trivial (Below.refl _ _) (Nat.le_refl _) (by simp) ?_; (case hd => rfl); (case hg => rfl); (case hr => first | (go_simp; done) | (go_simp; rfl)); (case hp => exact (Reps.none _ _)); intro v160 w21 ho22 hb hg_ hnew_; clear hg_ hnew_; (first | rw [← Ny159.out] at ho22 | (simp only [Int.reduceToNat] at ho22; rw [← Ny159.out] at ho22)); have n0_ := Aside0.mk (Kd.R_lower ho22 (below_size (by repeat (first | (with_reducible first | exact HB.out | apply below_alloc | apply pw_below_drewN | apply below_drew1) | exact HB.out)))); have n1_ := Aside0.mk (below_step (by repeat (first | (with_reducible first | exact HB.out | apply below_alloc | apply pw_below_drewN | apply below_drew1) | exact HB.out)) hb); clear HB; have HO161 := n0_; have HB := n1_; clear n0_ n1_; clear hb ho22))
      go_ret2
      exact ⟨_, by first | rfl | (simp [errW_none, errW_some] <;> rfl) | (simp [*, errW_none, errW_some] <;> rfl), by (with_reducible repeat (first | apply Kd.R_alloc | apply Kd.R_drewN | apply Kd.R_drew)); exact HO161.out, by repeat (first | (with_reducible first | exact HB.out | apply below_alloc | apply pw_below_drewN | apply below_drew1) | exact HB.out)⟩
  · replace c5 := Bool.eq_false_iff.mpr c5
    subst c5
    have H1 : (some ((([] : List (S67))), false)) = some (r1, r2) := by rw [if_neg (show ¬ (false = true) by decide)] at H; exact H
    clear H
    have H := H1
    clear H1
    obtain ⟨y162, hy162⟩ : ∃ y_ : List (S67), y_ = (([] : List (S67))) := ⟨_, rfl⟩
    replace H : (some (y162, false)) = some (r1, r2) := by first | (rw [hy162]; with_reducible exact H) | (have H2_ := (Option.bind_some _ _).symm.trans H; rw [hy162]; with_reducible exact H2_) | (have H2_ := (Option.bind_some _ _).symm.trans H; with_reducible exact H2_) | with_reducible exact H | (rw [hy162]; exact H) | exact H
    have Ny162 := Aside0.mk hy162
    clear hy162
    simp only [Option.some.injEq, Prod.mk.injEq] at H
    obtain ⟨rfl, rfl⟩ := H
    go_enter Try.func20, Try.ntmps20
    go_wp2_with (first | ((with_reducible refine gate_callee (f := 41) rfl ?_); refine goesL_ (some 11) rfl rfl Try.func41 (by kernel_rfl) rfl #[.slice A0 l0.length c0, .slice A1 l1.length c1] rfl (by (try simp only [List.map_toArray, List.map_cons, List.map_nil]); first | done | rfl | (simp only [List.length_drop, List.length_take]; rfl)) ?_; (with_reducible refine (spec_GroupsValid.calls k _ _ l0 _ _ l1 false _ ?side1 ?side2 ?side3 ?side4 A4.out).mono ?_); (case side1 => repeat (first | exact HR0.out | (with_reducible refine Kd.C_alloc ?_ _) | (with_reducible refine Kd.C_drewN ?_ _) | (with_reducible refine Kd.C_drew ?_))); (case side2 => exact HC0.out); (case side3 => repeat (first | exact HR1.out | (with_reducible refine Kd.C_alloc ?_ _) | (with_reducible refine Kd.C_drewN ?_ _) | (with_reducible refine Kd.C_drew ?_))); (case side4 => exact HC1.out); rintro e w23 ⟨rfl, hb⟩; refine ⟨_, rfl, ?_⟩; have n0_ := Aside0.mk (below_step (by repeat (first | (with_reducible first | exact HB.out | apply below_alloc | apply pw_below_drewN | apply below_drew1) | exact HB.out)) hb); clear HB; have HB := n0_; clear n0_; (try clear hb); (try clear hb2); (try clear hk); (try clear hi)) | ((with_reducible refine gate_dst (N := 21) rfl ?_); (try (refine gate_guard (by rfl) ?_; dsimp only)); refine Kd.R_lit k67 _ 67 ?hg (N := 21) ?hd (xs := ([] : List (S67))) (inner := []) (ok := fun _ => True) (okp := fun _ => True) ?hr ?hp (fun _ hk => hk) trivial (Below.refl _ _) (Nat.le_refl _) (by simp) ?_; (case hd => rfl); (case hg => rfl); (case hr => first | (go_simp; done) | (go_simp; rfl)); (case hp => exact (Reps.none _ _)); intro v163 w24 ho25 hb hg_ hnew_; clear hg_ hnew_; (first | rw [← Ny162.out] at ho25 | (simp only [Int.reduceToNat] at ho25; rw [← Ny162.out] at ho25)); have n0_ := Aside0.mk (Kd.R_lower ho25 (below_size (by repeat (first | (with_reducible first | exact HB.out | apply below_alloc | apply pw_below_drewN | apply below_drew1) | exact HB.out)))); have n1_ := Aside0.mk (below_step (by repeat (first | (with_reducible first | exact HB.out | apply below_alloc | apply pw_below_drewN | apply below_drew1) | exact HB.out)) hb); clear HB; have HO164 := n0_; have HB := n1_; clear n0_ n1_; clear hb ho25))
    go_ret2
    exact ⟨_, by first | rfl | (simp [errW_none, errW_some] <;> rfl) | (simp [*, errW_none, errW_some] <;> rfl), by (with_reducible repeat (first | apply Kd.R_alloc | apply Kd.R_drewN | apply Kd.R_drew)); exact HO164.out, by repeat (first | (with_reducible first | exact HB.out | apply below_alloc | apply pw_below_drewN | apply below_drew1) | exact HB.out)⟩

end Go.Proofs.Ytkahgjejebhgnaa.PFnExactGroupsCut
