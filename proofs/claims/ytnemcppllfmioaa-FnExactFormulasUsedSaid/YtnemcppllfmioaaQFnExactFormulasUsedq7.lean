/- Lemmas on the printed functions for the law FnExactFormulasUsed. -/
import Derived.Test.YtnemcppllfmioaaQFnExactFormulasUsedq0
import Derived.Test.YtnemcppllfmioaaQFnExactFormulasUsedq1
import Derived.Test.YtnemcppllfmioaaQFnExactFormulasUsedq2
import Derived.Test.YtnemcppllfmioaaQFnExactFormulasUsedq3
import Derived.Test.YtnemcppllfmioaaQFnExactFormulasUsedq4
import Derived.Test.YtnemcppllfmioaaQFnExactFormulasUsedq5
import Derived.Test.YtnemcppllfmioaaQFnExactFormulasUsedq6
import Derived.Deep.RegionHeld3
import Derived.BigRegion
import Derived.Deep.Slices
import Derived.Laws.CopyOwn
namespace Go.Proofs.Ytnemcppllfmioaa.Pure
set_option linter.unusedVariables false
set_option linter.unusedSimpArgs false
open Go Go.RowKit Go.Proofs.Ytnemcppllfmioaa.PFnExactFormulasUsed Go.Proofs.YtnemcppllfmioaaW.PrintWords Go.Proofs.YtnemcppllfmioaaW.PrintLast Go.Proofs.YtnemcppllfmioaaW.PrintMore

set_option maxHeartbeats 8000000 in
set_option maxRecDepth 100000 in
theorem FnExactFormulasUsed_walk (l : List S98) (r : List Int) (Al : Option Addr) (cl : Nat) (Ar : Option Addr) (cr : Nat) (w : World) (hrl : Kd.C k98 w Al l.length l) (hcl : l.length ≤ cl) (hwl : ∀ x ∈ l, ((∀ y ∈ x.f0, (Lit.int .i64 y).wf = true) ∧ x.f0.length ≤ maxLen) ∧ (Lit.int .i64 x.f1).wf = true) (hml : l.length ≤ maxLen) (hrr : Kd.C (Kd.int .i64) w Ar r.length r) (hcr : r.length ≤ cr) (hwr : ∀ x ∈ r, (Lit.int .i64 x).wf = true) (hmr : r.length ≤ maxLen) :
    Calls Try.prog 7 #[.slice Al l.length cl, .slice Ar r.length cr] w fun e w' => e = .returned (.bool true) ∧ Below w.heap.size w w' := by
  have HRl := Aside0.mk hrl
  have HCl := Aside0.mk hcl
  unfold maxLen at hml
  clear hrl hcl
  have HWl := Aside0.mk hwl
  clear hwl
  have HRr := Aside0.mk hrr
  have HCr := Aside0.mk hcr
  unfold maxLen at hmr
  clear hrr hcr
  have HWr := Aside0.mk hwr
  clear hwr
  by_cases gr : (r.length : Int) > 1048576
  · have d0 : decide (1048576 < (r.length : Int)) = true := decide_eq_true gr
    have d0' : decide (1048576 < r.length) = true := decide_eq_true (by omega)
    clear gr
    go_enter Try.func7, Try.ntmps7
    go_wp2
    go_ret
    exact ⟨rfl, Below.refl _ _⟩
  have dr : decide (1048576 < (r.length : Int)) = false := decide_eq_false gr
  have dr' : decide (1048576 < r.length) = false := decide_eq_false (by omega)
  have ylr : r.length ≤ 1048576 := by omega
  clear gr
  by_cases z0 : (1048576 : Int) - FormulaSz (l.map convFormula) < 0
  · go_enter Try.func7, Try.ntmps7
    go_wp2_with fail
    refine (FormulaS_sz l _ _ _ _ (by omega) (by omega) (by omega) (fun x hx => by have := (HWl.out x hx).1.2; unfold maxLen at this; omega) HRl.out HCl.out).mono ?_
    rintro _ ws0 ⟨e0', rfl, he0', hb⟩
    have hb0 := hb
    have u0 : decide (e0' < 0) = true := by rw [he0', if_pos z0]; rfl
    clear he0' z0
    go_wp2
    go_ret
    exact ⟨rfl, hb0⟩
  obtain ⟨e0, he0⟩ : ∃ e : Int, e = (1048576 : Int) - FormulaSz (l.map convFormula) := ⟨_, rfl⟩
  have n0 := FormulaSz_len (l.map convFormula)
  rw [List.length_map] at n0
  have t0 : decide (e0 < 0) = false := decide_eq_false (by omega)
  have y0 : l.length ≤ 1048576 := by omega
  have y0' : 0 ≤ e0 ∧ e0 ≤ 1048576 := by omega
  have q0 : FormulaSz (l.map convFormula) ≤ 1048576 := by omega
  clear n0
  replace he0 := Aside0.mk he0
  obtain ⟨xl, hxl⟩ : ∃ x, x = l.map convFormula := ⟨_, rfl⟩
  have lxl : xl.length ≤ 1048576 := by rw [hxl, List.length_map]; omega
  have lzl : FormulaSz xl ≤ 1048576 := by rw [hxl]; omega
  have lyl : 0 ≤ FormulaSz xl := FormulaSz_nn xl
  have Xl := Aside0.mk hxl
  clear hxl
  obtain ⟨xr, hxr⟩ : ∃ x, x = r.map convInt := ⟨_, rfl⟩
  have lxr : xr.length ≤ 1048576 := by rw [hxr, List.length_map]; omega
  have Xr := Aside0.mk hxr
  clear hxr
  skip
  obtain ⟨r0, hres⟩ : ∃ r0, fUsed xl xr = (r0) := ⟨_, rfl⟩
  have lr : r0.length ≤ 2000000 := by have := fUsed_len xl xr; rw [hres] at this; omega
  have RES := Aside0.mk hres
  clear hres
  go_enter Try.func7, Try.ntmps7
  go_wp2_with fail
  refine (FormulaS_sz l _ _ _ _ (by omega) (by omega) (by omega) (fun x hx => by have := (HWl.out x hx).1.2; unfold maxLen at this; omega) HRl.out HCl.out).mono ?_
  rintro _ w1 ⟨e', rfl, he', hb⟩
  obtain rfl : e' = e0 := by have := he0.out; rw [he', if_neg (by omega), this]
  clear he'
  have HB := Aside0.mk hb
  have S1 := Aside0.mk hb.size
  go_wp2_with fail
  refine (FormulaS_to l _ _ _ (by omega) (Kd.C_below HRl.out HB.out) HCl.out).mono ?_
  rintro _ w2 ⟨vsl, rfl, ho, hb⟩
  rw [← Xl.out] at ho
  obtain ⟨Asl, csl, rfl, _, _⟩ := Kd.S_reads ho
  have Osl := Aside0.mk (OwnS.make ho HB.out.size)
  clear ho
  replace HB := Aside0.mk (below_step HB.out hb)
  have S2 := Aside0.mk hb.size
  go_wp2_with fail
  refine (IntS_to r _ _ _ (by omega) (Kd.C_below HRr.out HB.out) HCr.out).mono ?_
  rintro _ w3 ⟨vsr, rfl, ho, hb⟩
  rw [← Xr.out] at ho
  obtain ⟨Asr, csr, rfl, _, _⟩ := Kd.R_reads ho
  replace Osl := Aside0.mk (Osl.out.below hb)
  have Osr := Aside0.mk (Own.make ho HB.out.size)
  clear ho
  replace HB := Aside0.mk (below_step HB.out hb)
  have S3 := Aside0.mk hb.size
  go_wp2_with fail
  refine (spec_FormulasUsed_x xl xr _ _ _ _ _ Osl.out.C Osl.out.cap Osr.out.C Osr.out.cap (by omega) (by omega)).mono ?_
  rintro _ w4 ⟨v, rfl, ho, hb⟩
  simp only [RES.out] at ho ⊢
  obtain ⟨AW, cW, rfl, _, _⟩ := Kd.R_reads ho
  replace Osl := Aside0.mk (Osl.out.below hb)
  replace Osr := Aside0.mk (Osr.out.below hb)
  have OW := Aside0.mk (Own.make ho HB.out.size)
  clear ho
  replace HB := Aside0.mk (below_step HB.out hb)
  have S4 := Aside0.mk hb.size
  clear Osl
  clear Osr
  go_wp2_with fail
  refine (FormulaS_to l _ _ _ (by omega) (Kd.C_below HRl.out HB.out) HCl.out).mono ?_
  rintro _ w5 ⟨vpl, rfl, ho, hb⟩
  rw [← Xl.out] at ho
  obtain ⟨Apl, cpl, rfl, _, _⟩ := Kd.S_reads ho
  replace OW := Aside0.mk (OW.out.below hb)
  have Opl := Aside0.mk (OwnS.make ho HB.out.size)
  clear ho
  replace HB := Aside0.mk (below_step HB.out hb)
  have S5 := Aside0.mk hb.size
  go_wp2_with fail
  refine (IntS_to r _ _ _ (by omega) (Kd.C_below HRr.out HB.out) HCr.out).mono ?_
  rintro _ w6 ⟨vpr, rfl, ho, hb⟩
  rw [← Xr.out] at ho
  obtain ⟨Apr, cpr, rfl, _, _⟩ := Kd.R_reads ho
  replace OW := Aside0.mk (OW.out.below hb)
  replace Opl := Aside0.mk (Opl.out.below hb)
  have Opr := Aside0.mk (Own.make ho HB.out.size)
  clear ho
  replace HB := Aside0.mk (below_step HB.out hb)
  have S6 := Aside0.mk hb.size
  go_wp2_with fail
  refine (impl_FormulasUsed_x xl xr _ _ _ _ _ Opl.out.C Opl.out.cap Opr.out.C Opr.out.cap (by omega) (by omega)).mono ?_
  rintro _ w7 ⟨v, rfl, ho, hb⟩
  simp only [RES.out] at ho ⊢
  obtain ⟨AG, cG, rfl, _, _⟩ := Kd.R_reads ho
  replace OW := Aside0.mk (OW.out.below hb)
  replace Opl := Aside0.mk (Opl.out.below hb)
  replace Opr := Aside0.mk (Opr.out.below hb)
  have OG := Aside0.mk (Own.make ho HB.out.size)
  clear ho
  replace HB := Aside0.mk (below_step HB.out hb)
  have S7 := Aside0.mk hb.size
  go_wp2_with fail
  refine (IntS_eq r0 _ _ _ _ _ (by omega) OG.out.C OG.out.cap OW.out.C OW.out.cap).mono ?_
  rintro _ w8 ⟨rfl, hb⟩
  replace OW := Aside0.mk (OW.out.below hb)
  replace Opl := Aside0.mk (Opl.out.below hb)
  replace Opr := Aside0.mk (Opr.out.below hb)
  replace OG := Aside0.mk (OG.out.below hb)
  replace HB := Aside0.mk (below_step HB.out hb)
  have S8 := Aside0.mk hb.size
  go_wp2_with fail
  refine (FormulaS_to l _ _ _ (by omega) (Kd.C_below HRl.out HB.out) HCl.out).mono ?_
  rintro _ w9 ⟨vtl, rfl, ho, hb⟩
  rw [← Xl.out] at ho
  obtain ⟨Atl, ctl, rfl, _, _⟩ := Kd.S_reads ho
  replace OW := Aside0.mk (OW.out.below hb)
  replace Opl := Aside0.mk (Opl.out.below hb)
  replace Opr := Aside0.mk (Opr.out.below hb)
  replace OG := Aside0.mk (OG.out.below hb)
  have Otl := Aside0.mk (OwnS.make ho HB.out.size)
  clear ho
  replace HB := Aside0.mk (below_step HB.out hb)
  have S9 := Aside0.mk hb.size
  go_wp2_with fail
  refine (FormulaS_eq xl _ _ _ _ _ (by omega) Opl.out.C Opl.out.cap Otl.out.C Otl.out.cap).mono ?_
  rintro _ w10 ⟨rfl, hb⟩
  replace OW := Aside0.mk (OW.out.below hb)
  replace Opl := Aside0.mk (Opl.out.below hb)
  replace Opr := Aside0.mk (Opr.out.below hb)
  replace OG := Aside0.mk (OG.out.below hb)
  replace Otl := Aside0.mk (Otl.out.below hb)
  replace HB := Aside0.mk (below_step HB.out hb)
  have S10 := Aside0.mk hb.size
  clear Otl
  go_wp2_with fail
  refine (IntS_to r _ _ _ (by omega) (Kd.C_below HRr.out HB.out) HCr.out).mono ?_
  rintro _ w11 ⟨vtr, rfl, ho, hb⟩
  rw [← Xr.out] at ho
  obtain ⟨Atr, ctr, rfl, _, _⟩ := Kd.R_reads ho
  replace OW := Aside0.mk (OW.out.below hb)
  replace Opl := Aside0.mk (Opl.out.below hb)
  replace Opr := Aside0.mk (Opr.out.below hb)
  replace OG := Aside0.mk (OG.out.below hb)
  have Otr := Aside0.mk (Own.make ho HB.out.size)
  clear ho
  replace HB := Aside0.mk (below_step HB.out hb)
  have S11 := Aside0.mk hb.size
  go_wp2_with fail
  refine (IntS_eq xr _ _ _ _ _ (by omega) Opr.out.C Opr.out.cap Otr.out.C Otr.out.cap).mono ?_
  rintro _ w12 ⟨rfl, hb⟩
  replace OW := Aside0.mk (OW.out.below hb)
  replace Opl := Aside0.mk (Opl.out.below hb)
  replace Opr := Aside0.mk (Opr.out.below hb)
  replace OG := Aside0.mk (OG.out.below hb)
  replace Otr := Aside0.mk (Otr.out.below hb)
  replace HB := Aside0.mk (below_step HB.out hb)
  have S12 := Aside0.mk hb.size
  clear Otr
  go_wp2_with fail
  refine (FormulaS_mark xl _ _ _ _ w _ (by omega) (by omega) (by omega) HB.out Opl.out).mono ?_
  rintro _ w13 ⟨k0, rfl, hk0, ho, hb, hkept⟩
  clear Opl
  replace OW := Aside0.mk (OW.out.kept hkept (by intro k h1 h2 h3; have := S1.out; have := S2.out; have := S3.out; have := S4.out; have := S5.out; have := S6.out; have := S7.out; have := S8.out; have := S9.out; have := S10.out; have := S11.out; have := S12.out; omega))
  replace Opr := Aside0.mk (Opr.out.kept hkept (by intro k h1 h2 h3; have := S1.out; have := S2.out; have := S3.out; have := S4.out; have := S5.out; have := S6.out; have := S7.out; have := S8.out; have := S9.out; have := S10.out; have := S11.out; have := S12.out; omega))
  replace OG := Aside0.mk (OG.out.kept hkept (by intro k h1 h2 h3; have := S1.out; have := S2.out; have := S3.out; have := S4.out; have := S5.out; have := S6.out; have := S7.out; have := S8.out; have := S9.out; have := S10.out; have := S11.out; have := S12.out; omega))
  replace HB := Aside0.mk hb
  have S13 := Aside0.mk hkept.1
  have b0 : 0 ≤ k0 ∧ k0 ≤ 2097153 := by omega
  clear hk0 ho hkept
  go_wp2_with fail
  refine (IntS_mark xr _ _ _ _ w _ (by omega) (by omega) (by omega) HB.out Opr.out).mono ?_
  rintro _ w14 ⟨k1, rfl, hk1, ho, hb, hkept⟩
  clear Opr
  replace OW := Aside0.mk (OW.out.kept hkept (by intro k h1 h2 h3; have := S1.out; have := S2.out; have := S3.out; have := S4.out; have := S5.out; have := S6.out; have := S7.out; have := S8.out; have := S9.out; have := S10.out; have := S11.out; have := S12.out; have := S13.out; omega))
  replace OG := Aside0.mk (OG.out.kept hkept (by intro k h1 h2 h3; have := S1.out; have := S2.out; have := S3.out; have := S4.out; have := S5.out; have := S6.out; have := S7.out; have := S8.out; have := S9.out; have := S10.out; have := S11.out; have := S12.out; have := S13.out; omega))
  replace HB := Aside0.mk hb
  have S14 := Aside0.mk hkept.1
  have b1 : 0 ≤ k1 ∧ k1 ≤ 4194305 := by omega
  clear hk1 ho hkept
  have u : decide (k1 < 0) = false := decide_eq_false (by omega)
  go_wp2_with fail
  refine (IntS_eq r0 _ _ _ _ _ (by omega) OG.out.C OG.out.cap OW.out.C OW.out.cap).mono ?_
  rintro _ w15 ⟨rfl, hb⟩
  replace OW := Aside0.mk (OW.out.below hb)
  replace OG := Aside0.mk (OG.out.below hb)
  replace HB := Aside0.mk (below_step HB.out hb)
  have S15 := Aside0.mk hb.size
  go_wp2_with fail
  refine (IntS_mark r0 _ _ _ _ w _ (by omega) (by omega) (by omega) HB.out OG.out).mono ?_
  rintro _ w16 ⟨mk_, rfl, hm_, ho, hb, hkept⟩
  replace OW := Aside0.mk (OW.out.kept hkept (by intro k h1 h2 h3; have := S1.out; have := S2.out; have := S3.out; have := S4.out; have := S5.out; have := S6.out; have := S7.out; have := S8.out; have := S9.out; have := S10.out; have := S11.out; have := S12.out; have := S13.out; have := S14.out; have := S15.out; omega))
  replace OG := Aside0.mk ho
  replace HB := Aside0.mk hb
  have S16 := Aside0.mk hkept.1
  clear ho hkept
  have um : decide (mk_ < 0) = false := decide_eq_false (by omega)
  have HM_ := Aside0.mk hm_
  clear hm_
  go_wp2_with fail
  refine (IntS_held r0.length 1 _ _ _ (by omega) (by omega) (by omega) (by have h := (Kd.R_reads' OG.out).2.2; rw [markInt_len] at h; exact h) OG.out.cap).mono ?_
  rintro _ w17 ⟨q, rfl, hq, hb⟩
  obtain rfl : mk_ = q := by rw [hq, HM_.out]
  clear hq
  replace OW := Aside0.mk (OW.out.below hb)
  replace OG := Aside0.mk (OG.out.below hb)
  replace HB := Aside0.mk (below_step HB.out hb)
  have S17 := Aside0.mk hb.size
  go_wp2_with fail
  refine (FormulaS_to l _ _ _ (by omega) (Kd.C_below HRl.out HB.out) HCl.out).mono ?_
  rintro _ w18 ⟨vhl, rfl, ho, hb⟩
  rw [← Xl.out] at ho
  obtain ⟨Ahl, chl, rfl, _, _⟩ := Kd.S_reads ho
  replace OW := Aside0.mk (OW.out.below hb)
  replace OG := Aside0.mk (OG.out.below hb)
  have Ohl := Aside0.mk (OwnS.make ho HB.out.size)
  clear ho
  replace HB := Aside0.mk (below_step HB.out hb)
  have S18 := Aside0.mk hb.size
  go_wp2_with fail
  refine (IntS_to r _ _ _ (by omega) (Kd.C_below HRr.out HB.out) HCr.out).mono ?_
  rintro _ w19 ⟨vhr, rfl, ho, hb⟩
  rw [← Xr.out] at ho
  obtain ⟨Ahr, chr, rfl, _, _⟩ := Kd.R_reads ho
  replace OW := Aside0.mk (OW.out.below hb)
  replace OG := Aside0.mk (OG.out.below hb)
  replace Ohl := Aside0.mk (Ohl.out.below hb)
  have Ohr := Aside0.mk (Own.make ho HB.out.size)
  clear ho
  replace HB := Aside0.mk (below_step HB.out hb)
  have S19 := Aside0.mk hb.size
  go_wp2_with fail
  refine (impl_FormulasUsed_x xl xr _ _ _ _ _ Ohl.out.C Ohl.out.cap Ohr.out.C Ohr.out.cap (by omega) (by omega)).mono ?_
  rintro _ w20 ⟨v, rfl, ho, hb⟩
  simp only [RES.out] at ho ⊢
  obtain ⟨AH, cH, rfl, _, _⟩ := Kd.R_reads ho
  replace OW := Aside0.mk (OW.out.below hb)
  replace OG := Aside0.mk (OG.out.below hb)
  replace Ohl := Aside0.mk (Ohl.out.below hb)
  replace Ohr := Aside0.mk (Ohr.out.below hb)
  have OH := Aside0.mk (Own.make ho HB.out.size)
  clear ho
  replace HB := Aside0.mk (below_step HB.out hb)
  have S20 := Aside0.mk hb.size
  clear Ohl
  clear Ohr
  go_wp2_with fail
  refine (IntS_eq r0 _ _ _ _ _ (by omega) OH.out.C OH.out.cap OW.out.C OW.out.cap).mono ?_
  rintro _ w21 ⟨rfl, hb⟩
  replace OW := Aside0.mk (OW.out.below hb)
  replace OG := Aside0.mk (OG.out.below hb)
  replace OH := Aside0.mk (OH.out.below hb)
  replace HB := Aside0.mk (below_step HB.out hb)
  have S21 := Aside0.mk hb.size
  go_wp2_with fail
  refine (IntS_held r0.length 1 _ _ _ (by omega) (by omega) (by omega) (by have h := (Kd.R_reads' OG.out).2.2; rw [markInt_len] at h; exact h) OG.out.cap).mono ?_
  rintro _ w22 ⟨q, rfl, hq, hb⟩
  obtain rfl : mk_ = q := by rw [hq, HM_.out]
  clear hq
  replace OW := Aside0.mk (OW.out.below hb)
  replace OG := Aside0.mk (OG.out.below hb)
  replace OH := Aside0.mk (OH.out.below hb)
  replace HB := Aside0.mk (below_step HB.out hb)
  have S22 := Aside0.mk hb.size
  go_wp2
  go_ret
  exact ⟨rfl, HB.out⟩

end Go.Proofs.Ytnemcppllfmioaa.Pure
