/- Lemmas on the printed functions for the law FnExactFormulasWithout. -/
import Derived.Test.YtkahgjejebhgnaaQFnExactFormulasWithoutq0
import Derived.Test.YtkahgjejebhgnaaQFnExactFormulasWithoutq1
import Derived.Test.YtkahgjejebhgnaaQFnExactFormulasWithoutq2
import Derived.Test.YtkahgjejebhgnaaQFnExactFormulasWithoutq3
import Derived.Deep.RegionHeld3
import Derived.BigRegion
import Derived.Deep.Slices
import Derived.Laws.CopyOwn
namespace Go.Proofs.Ytkahgjejebhgnaa.Pure
set_option linter.unusedVariables false
set_option linter.unusedSimpArgs false
open Go Go.RowKit Go.Proofs.Ytkahgjejebhgnaa.PFnExactFormulasWithout Go.Proofs.YtkahgjejebhgnaaW.PrintWords Go.Proofs.YtkahgjejebhgnaaW.PrintLast Go.Proofs.YtkahgjejebhgnaaW.PrintMore

set_option maxHeartbeats 8000000 in
set_option maxRecDepth 100000 in
theorem FnExactFormulasWithout_walk (l : List S83) (k : Int) (Al : Option Addr) (cl : Nat) (w : World) (hrl : Kd.C k83 w Al l.length l) (hcl : l.length ≤ cl) (hwl : ∀ x ∈ l, ((∀ y ∈ x.f0, (Lit.int .i64 y).wf = true) ∧ x.f0.length ≤ maxLen) ∧ (Lit.int .i64 x.f1).wf = true) (hml : l.length ≤ maxLen) :
    Calls Try.prog 8 #[.slice Al l.length cl, .int .i64 k] w fun e w' => e = .returned (.bool true) ∧ Below w.heap.size w w' := by
  have HRl := Aside0.mk hrl
  have HCl := Aside0.mk hcl
  unfold maxLen at hml
  clear hrl hcl
  have HWl := Aside0.mk hwl
  clear hwl
  by_cases z0 : (1048576 : Int) - FormulaSz (l.map convFormula) < 0
  · go_enter Try.func8, Try.ntmps8
    go_wp2_with fail
    refine (FormulaS_sz l _ _ _ _ (by omega) (by omega) (by omega) (fun x hx => by have := (HWl.out x hx).1.2; unfold maxLen at this; omega) HRl.out HCl.out).mono ?_
    rintro _ ws0 ⟨e0', rfl, he0', hb⟩
    have hb0 := hb
    have u0 : decide (e0' < 0) = true := by rw [he0', if_pos z0]; rfl
    clear he0' z0
    go_wp2
    go_ret
    exact ⟨rfl, hb0⟩
  obtain ⟨e0, he0⟩ : ∃ e : Int, e = (1048576 : Int) - FormulaSz (l.map convFormula) := ⟨_, rfl⟩
  have n0 := FormulaSz_len (l.map convFormula)
  rw [List.length_map] at n0
  have t0 : decide (e0 < 0) = false := decide_eq_false (by omega)
  have y0 : l.length ≤ 1048576 := by omega
  have y0' : 0 ≤ e0 ∧ e0 ≤ 1048576 := by omega
  have q0 : FormulaSz (l.map convFormula) ≤ 1048576 := by omega
  clear n0
  replace he0 := Aside0.mk he0
  obtain ⟨xl, hxl⟩ : ∃ x, x = l.map convFormula := ⟨_, rfl⟩
  have lxl : xl.length ≤ 1048576 := by rw [hxl, List.length_map]; omega
  have lzl : FormulaSz xl ≤ 1048576 := by rw [hxl]; omega
  have lyl : 0 ≤ FormulaSz xl := FormulaSz_nn xl
  have Xl := Aside0.mk hxl
  clear hxl
  skip
  obtain ⟨r0, r1, hres⟩ : ∃ r0 r1, fwo xl k = (r0, r1) := ⟨_, _, rfl⟩
  have lr : FormulaSz r0 ≤ 2000000 := by have := fwo_sz xl k; rw [hres] at this; simp only [] at this; omega
  have lr1 : r0.length ≤ 2000000 := by have := FormulaSz_len r0; omega
  have lr2 := FormulaSz_nn r0
  have RES := Aside0.mk hres
  clear hres
  go_enter Try.func8, Try.ntmps8
  go_wp2_with fail
  refine (FormulaS_sz l _ _ _ _ (by omega) (by omega) (by omega) (fun x hx => by have := (HWl.out x hx).1.2; unfold maxLen at this; omega) HRl.out HCl.out).mono ?_
  rintro _ w1 ⟨e', rfl, he', hb⟩
  obtain rfl : e' = e0 := by have := he0.out; rw [he', if_neg (by omega), this]
  clear he'
  have HB := Aside0.mk hb
  have S1 := Aside0.mk hb.size
  go_wp2_with fail
  refine (FormulaS_to l _ _ _ (by omega) (Kd.C_below HRl.out HB.out) HCl.out).mono ?_
  rintro _ w2 ⟨vsl, rfl, ho, hb⟩
  rw [← Xl.out] at ho
  obtain ⟨Asl, csl, rfl, _, _⟩ := Kd.S_reads ho
  have Osl := Aside0.mk (OwnS.make ho HB.out.size)
  clear ho
  replace HB := Aside0.mk (below_step HB.out hb)
  have S2 := Aside0.mk hb.size
  go_wp2_with fail
  refine (spec_FormulasWithout_calls xl k _ _ _ Osl.out.C Osl.out.cap (by omega)).mono ?_
  rintro _ w3 ⟨v, rfl, ho, hb⟩
  simp only [RES.out] at ho ⊢
  obtain ⟨AW, cW, rfl, _, _⟩ := Kd.S_reads ho
  replace Osl := Aside0.mk (Osl.out.below hb)
  have OW := Aside0.mk (OwnS.make ho HB.out.size)
  clear ho
  replace HB := Aside0.mk (below_step HB.out hb)
  have S3 := Aside0.mk hb.size
  clear Osl
  go_wp2_with fail
  refine (FormulaS_to l _ _ _ (by omega) (Kd.C_below HRl.out HB.out) HCl.out).mono ?_
  rintro _ w4 ⟨vpl, rfl, ho, hb⟩
  rw [← Xl.out] at ho
  obtain ⟨Apl, cpl, rfl, _, _⟩ := Kd.S_reads ho
  replace OW := Aside0.mk (OW.out.below hb)
  have Opl := Aside0.mk (OwnS.make ho HB.out.size)
  clear ho
  replace HB := Aside0.mk (below_step HB.out hb)
  have S4 := Aside0.mk hb.size
  go_wp2_with fail
  refine (impl_FormulasWithout_calls xl k _ _ _ Opl.out.C Opl.out.cap (by omega)).mono ?_
  rintro _ w5 ⟨v, rfl, ho, hb⟩
  simp only [RES.out] at ho ⊢
  obtain ⟨AG, cG, rfl, _, _⟩ := Kd.S_reads ho
  replace OW := Aside0.mk (OW.out.below hb)
  replace Opl := Aside0.mk (Opl.out.below hb)
  have OG := Aside0.mk (OwnS.make ho HB.out.size)
  clear ho
  replace HB := Aside0.mk (below_step HB.out hb)
  have S5 := Aside0.mk hb.size
  go_wp2_with fail
  refine (FormulaS_eq r0 _ _ _ _ _ (by omega) OG.out.C OG.out.cap OW.out.C OW.out.cap).mono ?_
  rintro _ w6 ⟨rfl, hb⟩
  replace OW := Aside0.mk (OW.out.below hb)
  replace Opl := Aside0.mk (Opl.out.below hb)
  replace OG := Aside0.mk (OG.out.below hb)
  replace HB := Aside0.mk (below_step HB.out hb)
  have S6 := Aside0.mk hb.size
  go_wp2_with fail
  refine (FormulaS_to l _ _ _ (by omega) (Kd.C_below HRl.out HB.out) HCl.out).mono ?_
  rintro _ w7 ⟨vtl, rfl, ho, hb⟩
  rw [← Xl.out] at ho
  obtain ⟨Atl, ctl, rfl, _, _⟩ := Kd.S_reads ho
  replace OW := Aside0.mk (OW.out.below hb)
  replace Opl := Aside0.mk (Opl.out.below hb)
  replace OG := Aside0.mk (OG.out.below hb)
  have Otl := Aside0.mk (OwnS.make ho HB.out.size)
  clear ho
  replace HB := Aside0.mk (below_step HB.out hb)
  have S7 := Aside0.mk hb.size
  go_wp2_with fail
  refine (FormulaS_eq xl _ _ _ _ _ (by omega) Opl.out.C Opl.out.cap Otl.out.C Otl.out.cap).mono ?_
  rintro _ w8 ⟨rfl, hb⟩
  replace OW := Aside0.mk (OW.out.below hb)
  replace Opl := Aside0.mk (Opl.out.below hb)
  replace OG := Aside0.mk (OG.out.below hb)
  replace Otl := Aside0.mk (Otl.out.below hb)
  replace HB := Aside0.mk (below_step HB.out hb)
  have S8 := Aside0.mk hb.size
  clear Otl
  go_wp2_with fail
  refine (FormulaS_mark xl _ _ _ _ w _ (by omega) (by omega) (by omega) HB.out Opl.out).mono ?_
  rintro _ w9 ⟨k0, rfl, hk0, ho, hb, hkept⟩
  clear Opl
  replace OW := Aside0.mk (OW.out.kept hkept (by intro k h1 h2 h3; have := S1.out; have := S2.out; have := S3.out; have := S4.out; have := S5.out; have := S6.out; have := S7.out; have := S8.out; omega))
  replace OG := Aside0.mk (OG.out.kept hkept (by intro k h1 h2 h3; have := S1.out; have := S2.out; have := S3.out; have := S4.out; have := S5.out; have := S6.out; have := S7.out; have := S8.out; omega))
  replace HB := Aside0.mk hb
  have S9 := Aside0.mk hkept.1
  have b0 : 0 ≤ k0 ∧ k0 ≤ 2097153 := by omega
  clear hk0 ho hkept
  have u : decide (k0 < 0) = false := decide_eq_false (by omega)
  go_wp2_with fail
  refine (FormulaS_eq r0 _ _ _ _ _ (by omega) OG.out.C OG.out.cap OW.out.C OW.out.cap).mono ?_
  rintro _ w10 ⟨rfl, hb⟩
  replace OW := Aside0.mk (OW.out.below hb)
  replace OG := Aside0.mk (OG.out.below hb)
  replace HB := Aside0.mk (below_step HB.out hb)
  have S10 := Aside0.mk hb.size
  go_wp2_with fail
  refine (FormulaS_mark r0 _ _ _ _ w _ (by omega) (by omega) (by omega) HB.out OG.out).mono ?_
  rintro _ w11 ⟨mk_, rfl, hm_, ho, hb, hkept⟩
  replace OW := Aside0.mk (OW.out.kept hkept (by intro k h1 h2 h3; have := S1.out; have := S2.out; have := S3.out; have := S4.out; have := S5.out; have := S6.out; have := S7.out; have := S8.out; have := S9.out; have := S10.out; omega))
  replace OG := Aside0.mk ho
  replace HB := Aside0.mk hb
  have S11 := Aside0.mk hkept.1
  clear ho hkept
  have um : decide (mk_ < 0) = false := decide_eq_false (by omega)
  have HM_ := Aside0.mk hm_
  clear hm_
  go_wp2_with fail
  refine (FormulaS_held r0 1 _ _ _ (by omega) (by omega) (by omega) (by have h := (Kd.S_reads' OG.out).2.2; rw [markFormula_len] at h; exact h) OG.out.cap).mono ?_
  rintro _ w12 ⟨q, rfl, hq, hb⟩
  obtain rfl : mk_ = q := by rw [hq, HM_.out]
  clear hq
  replace OW := Aside0.mk (OW.out.below hb)
  replace OG := Aside0.mk (OG.out.below hb)
  replace HB := Aside0.mk (below_step HB.out hb)
  have S12 := Aside0.mk hb.size
  go_wp2_with fail
  refine (FormulaS_to l _ _ _ (by omega) (Kd.C_below HRl.out HB.out) HCl.out).mono ?_
  rintro _ w13 ⟨vhl, rfl, ho, hb⟩
  rw [← Xl.out] at ho
  obtain ⟨Ahl, chl, rfl, _, _⟩ := Kd.S_reads ho
  replace OW := Aside0.mk (OW.out.below hb)
  replace OG := Aside0.mk (OG.out.below hb)
  have Ohl := Aside0.mk (OwnS.make ho HB.out.size)
  clear ho
  replace HB := Aside0.mk (below_step HB.out hb)
  have S13 := Aside0.mk hb.size
  go_wp2_with fail
  refine (impl_FormulasWithout_calls xl k _ _ _ Ohl.out.C Ohl.out.cap (by omega)).mono ?_
  rintro _ w14 ⟨v, rfl, ho, hb⟩
  simp only [RES.out] at ho ⊢
  obtain ⟨AH, cH, rfl, _, _⟩ := Kd.S_reads ho
  replace OW := Aside0.mk (OW.out.below hb)
  replace OG := Aside0.mk (OG.out.below hb)
  replace Ohl := Aside0.mk (Ohl.out.below hb)
  have OH := Aside0.mk (OwnS.make ho HB.out.size)
  clear ho
  replace HB := Aside0.mk (below_step HB.out hb)
  have S14 := Aside0.mk hb.size
  clear Ohl
  go_wp2_with fail
  refine (FormulaS_eq r0 _ _ _ _ _ (by omega) OH.out.C OH.out.cap OW.out.C OW.out.cap).mono ?_
  rintro _ w15 ⟨rfl, hb⟩
  replace OW := Aside0.mk (OW.out.below hb)
  replace OG := Aside0.mk (OG.out.below hb)
  replace OH := Aside0.mk (OH.out.below hb)
  replace HB := Aside0.mk (below_step HB.out hb)
  have S15 := Aside0.mk hb.size
  go_wp2_with fail
  refine (FormulaS_held r0 1 _ _ _ (by omega) (by omega) (by omega) (by have h := (Kd.S_reads' OG.out).2.2; rw [markFormula_len] at h; exact h) OG.out.cap).mono ?_
  rintro _ w16 ⟨q, rfl, hq, hb⟩
  obtain rfl : mk_ = q := by rw [hq, HM_.out]
  clear hq
  replace OW := Aside0.mk (OW.out.below hb)
  replace OG := Aside0.mk (OG.out.below hb)
  replace OH := Aside0.mk (OH.out.below hb)
  replace HB := Aside0.mk (below_step HB.out hb)
  have S16 := Aside0.mk hb.size
  go_wp2
  go_ret
  exact ⟨rfl, HB.out⟩

end Go.Proofs.Ytkahgjejebhgnaa.Pure
