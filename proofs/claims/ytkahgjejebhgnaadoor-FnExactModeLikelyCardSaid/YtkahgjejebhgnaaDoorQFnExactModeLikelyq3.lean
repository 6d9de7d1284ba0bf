/- Lemmas on the printed functions for the law FnExactModeLikely. -/
import Derived.Test.YtkahgjejebhgnaaDoorQFnExactModeLikelyq0
import Derived.Test.YtkahgjejebhgnaaDoorQFnExactModeLikelyq1
import Derived.Test.YtkahgjejebhgnaaDoorQFnExactModeLikelyq2
import Derived.Deep.RegionHeld3
import Derived.BigRegion
import Derived.Deep.Slices
import Derived.Laws.CopyOwn
namespace Go.Proofs.YtkahgjejebhgnaaDoor.Pure
set_option linter.unusedVariables false
set_option linter.unusedSimpArgs false
open Go Go.RowKit Go.Proofs.YtkahgjejebhgnaaDoor.PFnExactModeLikely Go.Proofs.YtkahgjejebhgnaaDoorW.PrintWords Go.Proofs.YtkahgjejebhgnaaDoorW.PrintLast Go.Proofs.YtkahgjejebhgnaaDoorW.PrintMore

set_option maxHeartbeats 8000000 in
set_option maxRecDepth 100000 in
theorem FnExactModeLikely_walk (m : List S65) (Am : Option Addr) (cm : Nat) (w : World) (ht : MTab w) (hrm : Kd.C k65 w Am m.length m) (hcm : m.length ≤ cm) (hmm : m.length ≤ maxLen) :
    Calls Tryd.prog 8 #[.slice Am m.length cm] w fun e w' => e = .returned (.bool true) ∧ Below w.heap.size w w' := by
  have HT := Aside0.mk ht
  clear ht
  have HRm := Aside0.mk hrm
  have HCm := Aside0.mk hcm
  unfold maxLen at hmm
  clear hrm hcm
  by_cases z0 : (1048576 : Int) - (m.length : Int) < 0
  · go_enter Tryd.func8, Tryd.ntmps8
    go_wp2_with fail
    refine (ToneS_sz m _ _ _ _ (by omega) (by omega) (by omega) HRm.out HCm.out).mono ?_
    rintro _ ws0 ⟨e0', rfl, he0', hb⟩
    have hb0 := hb
    have u0 : decide (e0' < 0) = true := by rw [he0', if_pos z0]; rfl
    clear he0' z0
    go_wp2
    go_ret
    exact ⟨rfl, hb0⟩
  obtain ⟨e0, he0⟩ : ∃ e : Int, e = (1048576 : Int) - (m.length : Int) := ⟨_, rfl⟩
  have t0 : decide (e0 < 0) = false := decide_eq_false (by omega)
  have y0 : m.length ≤ 1048576 := by omega
  have y0' : 0 ≤ e0 ∧ e0 ≤ 1048576 := by omega
  replace he0 := Aside0.mk he0
  obtain ⟨xm, hxm⟩ : ∃ x, x = m.map convTone := ⟨_, rfl⟩
  have lxm : xm.length ≤ 1048576 := by rw [hxm, List.length_map]; omega
  have Xm := Aside0.mk hxm
  clear hxm
  skip
  obtain ⟨r0, r1, hres⟩ : ∃ r0 r1, mLikely xm = (r0, r1) := ⟨_, _, rfl⟩
  skip
  have RES := Aside0.mk hres
  clear hres
  go_enter Tryd.func8, Tryd.ntmps8
  go_wp2_with fail
  refine (ToneS_sz m _ _ _ _ (by omega) (by omega) (by omega) HRm.out HCm.out).mono ?_
  rintro _ w1 ⟨e', rfl, he', hb⟩
  obtain rfl : e' = e0 := by have := he0.out; rw [he', if_neg (by omega), this]
  clear he'
  have HB := Aside0.mk hb
  have S1 := Aside0.mk hb.size
  go_wp2_with fail
  refine (ToneS_to m _ _ _ (by omega) (Kd.C_below HRm.out HB.out) HCm.out).mono ?_
  rintro _ w2 ⟨vsm, rfl, ho, hb⟩
  rw [← Xm.out] at ho
  obtain ⟨Asm, csm, rfl, _, _⟩ := Kd.R_reads ho
  have Osm := Aside0.mk (Own.make ho HB.out.size)
  clear ho
  replace HB := Aside0.mk (below_step HB.out hb)
  have S2 := Aside0.mk hb.size
  go_wp2_with fail
  refine (spec_ModeLikely_calls xm _ _ _ Osm.out.C Osm.out.cap (by omega)).mono ?_
  rintro _ w3 ⟨rfl, hb⟩
  simp only [RES.out]
  replace Osm := Aside0.mk (Osm.out.below hb)
  replace HB := Aside0.mk (below_step HB.out hb)
  have S3 := Aside0.mk hb.size
  clear Osm
  go_wp2_with fail
  refine (ToneS_to m _ _ _ (by omega) (Kd.C_below HRm.out HB.out) HCm.out).mono ?_
  rintro _ w4 ⟨vpm, rfl, ho, hb⟩
  rw [← Xm.out] at ho
  obtain ⟨Apm, cpm, rfl, _, _⟩ := Kd.R_reads ho
  have Opm := Aside0.mk (Own.make ho HB.out.size)
  clear ho
  replace HB := Aside0.mk (below_step HB.out hb)
  have S4 := Aside0.mk hb.size
  go_wp2_with fail
  refine (impl_ModeLikely_calls xm _ _ _ (HT.out.below HB.out) Opm.out.C Opm.out.cap (by omega)).mono ?_
  rintro _ w5 ⟨rfl, hb⟩
  simp only [RES.out]
  replace Opm := Aside0.mk (Opm.out.below hb)
  replace HB := Aside0.mk (below_step HB.out hb)
  have S5 := Aside0.mk hb.size
  go_wp2_with fail
  refine (ToneS_to m _ _ _ (by omega) (Kd.C_below HRm.out HB.out) HCm.out).mono ?_
  rintro _ w6 ⟨vtm, rfl, ho, hb⟩
  rw [← Xm.out] at ho
  obtain ⟨Atm, ctm, rfl, _, _⟩ := Kd.R_reads ho
  replace Opm := Aside0.mk (Opm.out.below hb)
  have Otm := Aside0.mk (Own.make ho HB.out.size)
  clear ho
  replace HB := Aside0.mk (below_step HB.out hb)
  have S6 := Aside0.mk hb.size
  go_wp2_with fail
  refine (ToneS_eq xm _ _ _ _ _ (by omega) Opm.out.C Opm.out.cap Otm.out.C Otm.out.cap).mono ?_
  rintro _ w7 ⟨rfl, hb⟩
  replace Opm := Aside0.mk (Opm.out.below hb)
  replace Otm := Aside0.mk (Otm.out.below hb)
  replace HB := Aside0.mk (below_step HB.out hb)
  have S7 := Aside0.mk hb.size
  clear Otm
  go_wp2
  go_ret
  exact ⟨rfl, HB.out⟩

end Go.Proofs.YtkahgjejebhgnaaDoor.Pure
