/- Lemmas on the printed functions for the law FnExactFormulasClear. -/
import Derived.Test.YtnemcppllfmioaaQFnExactFormulasClearq0
import Derived.Test.YtnemcppllfmioaaQFnExactFormulasClearq1
import Derived.Test.YtnemcppllfmioaaQFnExactFormulasClearq2
import Derived.Test.YtnemcppllfmioaaQFnExactFormulasClearq3
import Derived.Test.YtnemcppllfmioaaQFnExactFormulasClearq4
import Derived.Test.YtnemcppllfmioaaQFnExactFormulasClearq5
import Derived.Test.YtnemcppllfmioaaQFnExactFormulasClearq6
import Derived.Test.YtnemcppllfmioaaQFnExactFormulasClearq7
import Derived.Deep.RegionHeld3
import Derived.BigRegion
import Derived.Deep.Slices
import Derived.Laws.CopyOwn
namespace Go.Proofs.Ytnemcppllfmioaa.Pure
set_option linter.unusedVariables false
set_option linter.unusedSimpArgs false
open Go Go.RowKit Go.Proofs.Ytnemcppllfmioaa.PFnExactFormulasClear Go.Proofs.YtnemcppllfmioaaW.PrintWords Go.Proofs.YtnemcppllfmioaaW.PrintLast Go.Proofs.YtnemcppllfmioaaW.PrintMore

set_option maxHeartbeats 8000000 in
set_option maxRecDepth 100000 in
theorem FnExactFormulasClear_walk (l : List S98) (n : Int) (Al : Option Addr) (cl : Nat) (w : World) (hrl : Kd.C k98 w Al l.length l) (hcl : l.length ≤ cl) (hwl : ∀ x ∈ l, ((∀ y ∈ x.f0, (Lit.int .i64 y).wf = true) ∧ x.f0.length ≤ maxLen) ∧ (Lit.int .i64 x.f1).wf = true) (hml : l.length ≤ maxLen) :
    Calls Try.prog 4 #[.slice Al l.length cl, .int .i64 n] w fun e w' => e = .returned (.bool true) ∧ Below w.heap.size w w' := by
  have HRl := Aside0.mk hrl
  have HCl := Aside0.mk hcl
  unfold maxLen at hml
  clear hrl hcl
  have HWl := Aside0.mk hwl
  clear hwl
  by_cases z0 : (1048576 : Int) - FormulaSz (l.map convFormula) < 0
  · go_enter Try.func4, Try.ntmps4
    go_wp2_with fail
    refine (FormulaS_sz l _ _ _ _ (by omega) (by omega) (by omega) (fun x hx => by have := (HWl.out x hx).1.2; unfold maxLen at this; omega) HRl.out HCl.out).mono ?_
    rintro _ ws0 ⟨e0', rfl, he0', hb⟩
    have hb0 := hb
    have u0 : decide (e0' < 0) = true := by rw [he0', if_pos z0]; rfl
    clear he0' z0
    go_wp2
    go_ret
    exact ⟨rfl, hb0⟩
  obtain ⟨e0, he0⟩ : ∃ e : Int, e = (1048576 : Int) - FormulaSz (l.map convFormula) := ⟨_, rfl⟩
  have n0 := FormulaSz_len (l.map convFormula)
  rw [List.length_map] at n0
  have t0 : decide (e0 < 0) = false := decide_eq_false (by omega)
  have y0 : l.length ≤ 1048576 := by omega
  have y0' : 0 ≤ e0 ∧ e0 ≤ 1048576 := by omega
  have q0 : FormulaSz (l.map convFormula) ≤ 1048576 := by omega
  clear n0
  replace he0 := Aside0.mk he0
  obtain ⟨xl, hxl⟩ : ∃ x, x = l.map convFormula := ⟨_, rfl⟩
  have lxl : xl.length ≤ 1048576 := by rw [hxl, List.length_map]; omega
  have lzl : FormulaSz xl ≤ 1048576 := by rw [hxl]; omega
  have lyl : 0 ≤ FormulaSz xl := FormulaSz_nn xl
  have Xl := Aside0.mk hxl
  clear hxl
  skip
  obtain ⟨r0, hres⟩ : ∃ r0, clearI xl n = (r0) := ⟨_, rfl⟩
  skip
  have RES := Aside0.mk hres
  clear hres
  go_enter Try.func4, Try.ntmps4
  go_wp2_with fail
  refine (FormulaS_sz l _ _ _ _ (by omega) (by omega) (by omega) (fun x hx => by have := (HWl.out x hx).1.2; unfold maxLen at this; omega) HRl.out HCl.out).mono ?_
  rintro _ w1 ⟨e', rfl, he', hb⟩
  obtain rfl : e' = e0 := by have := he0.out; rw [he', if_neg (by omega), this]
  clear he'
  have HB := Aside0.mk hb
  have S1 := Aside0.mk hb.size
  go_wp2_with fail
  refine (FormulaS_to l _ _ _ (by omega) (Kd.C_below HRl.out HB.out) HCl.out).mono ?_
  rintro _ w2 ⟨vsl, rfl, ho, hb⟩
  rw [← Xl.out] at ho
  obtain ⟨Asl, csl, rfl, _, _⟩ := Kd.S_reads ho
  have Osl := Aside0.mk (OwnS.make ho HB.out.size)
  clear ho
  replace HB := Aside0.mk (below_step HB.out hb)
  have S2 := Aside0.mk hb.size
  go_wp2_with fail
  refine (spec_FormulasClear_x xl n _ _ _ Osl.out.C Osl.out.cap (by omega)).mono ?_
  rintro _ w3 ⟨rfl, hb⟩
  simp only [RES.out]
  replace Osl := Aside0.mk (Osl.out.below hb)
  replace HB := Aside0.mk (below_step HB.out hb)
  have S3 := Aside0.mk hb.size
  clear Osl
  go_wp2_with fail
  refine (FormulaS_to l _ _ _ (by omega) (Kd.C_below HRl.out HB.out) HCl.out).mono ?_
  rintro _ w4 ⟨vpl, rfl, ho, hb⟩
  rw [← Xl.out] at ho
  obtain ⟨Apl, cpl, rfl, _, _⟩ := Kd.S_reads ho
  have Opl := Aside0.mk (OwnS.make ho HB.out.size)
  clear ho
  replace HB := Aside0.mk (below_step HB.out hb)
  have S4 := Aside0.mk hb.size
  go_wp2_with fail
  refine (impl_FormulasClear_x xl n _ _ _ Opl.out.C Opl.out.cap (by omega)).mono ?_
  rintro _ w5 ⟨rfl, hb⟩
  simp only [RES.out]
  replace Opl := Aside0.mk (Opl.out.below hb)
  replace HB := Aside0.mk (below_step HB.out hb)
  have S5 := Aside0.mk hb.size
  go_wp2_with fail
  refine (FormulaS_to l _ _ _ (by omega) (Kd.C_below HRl.out HB.out) HCl.out).mono ?_
  rintro _ w6 ⟨vtl, rfl, ho, hb⟩
  rw [← Xl.out] at ho
  obtain ⟨Atl, ctl, rfl, _, _⟩ := Kd.S_reads ho
  replace Opl := Aside0.mk (Opl.out.below hb)
  have Otl := Aside0.mk (OwnS.make ho HB.out.size)
  clear ho
  replace HB := Aside0.mk (below_step HB.out hb)
  have S6 := Aside0.mk hb.size
  go_wp2_with fail
  refine (FormulaS_eq xl _ _ _ _ _ (by omega) Opl.out.C Opl.out.cap Otl.out.C Otl.out.cap).mono ?_
  rintro _ w7 ⟨rfl, hb⟩
  replace Opl := Aside0.mk (Opl.out.below hb)
  replace Otl := Aside0.mk (Otl.out.below hb)
  replace HB := Aside0.mk (below_step HB.out hb)
  have S7 := Aside0.mk hb.size
  clear Otl
  go_wp2
  go_ret
  exact ⟨rfl, HB.out⟩

end Go.Proofs.Ytnemcppllfmioaa.Pure
