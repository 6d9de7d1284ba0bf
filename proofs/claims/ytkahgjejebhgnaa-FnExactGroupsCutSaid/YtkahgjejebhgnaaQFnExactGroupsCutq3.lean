/- Lemmas on the printed functions for the law FnExactGroupsCut. -/
import Derived.Test.YtkahgjejebhgnaaQFnExactGroupsCutq0
import Derived.Test.YtkahgjejebhgnaaQFnExactGroupsCutq1
import Derived.Test.YtkahgjejebhgnaaQFnExactGroupsCutq2
import Derived.Deep.RegionHeld3
import Derived.BigRegion
import Derived.Deep.Slices
import Derived.Laws.CopyOwn
namespace Go.Proofs.Ytkahgjejebhgnaa.Pure
set_option linter.unusedVariables false
set_option linter.unusedSimpArgs false
open Go Go.RowKit Go.Proofs.Ytkahgjejebhgnaa.PFnExactGroupsCut Go.Proofs.YtkahgjejebhgnaaW.PrintWords Go.Proofs.YtkahgjejebhgnaaW.PrintLast Go.Proofs.YtkahgjejebhgnaaW.PrintMore

set_option maxHeartbeats 8000000 in
set_option maxRecDepth 100000 in
theorem FnExactGroupsCut_walk (m : List S69) (g : List S71) (k : Int) (Am : Option Addr) (cm : Nat) (Ag : Option Addr) (cg : Nat) (w : World) (hrm : Kd.C k69 w Am m.length m) (hcm : m.length ≤ cm) (hmm : m.length ≤ maxLen) (hrg : Kd.C k71 w Ag g.length g) (hcg : g.length ≤ cg) (hmg : g.length ≤ maxLen) :
    Calls Try.prog 4 #[.slice Am m.length cm, .slice Ag g.length cg, .int .i64 k] w fun e w' => e = .returned (.bool true) ∧ Below w.heap.size w w' := by
  have HRm := Aside0.mk hrm
  have HCm := Aside0.mk hcm
  unfold maxLen at hmm
  clear hrm hcm
  have HRg := Aside0.mk hrg
  have HCg := Aside0.mk hcg
  unfold maxLen at hmg
  clear hrg hcg
  by_cases z0 : (1048576 : Int) - (m.length : Int) < 0
  · go_enter Try.func4, Try.ntmps4
    go_wp2_with fail
    refine (ToneS_sz m _ _ _ _ (by omega) (by omega) (by omega) HRm.out HCm.out).mono ?_
    rintro _ ws0 ⟨e0', rfl, he0', hb⟩
    have hb0 := hb
    have u0 : decide (e0' < 0) = true := by rw [he0', if_pos z0]; rfl
    clear he0' z0
    go_wp2
    go_ret
    exact ⟨rfl, hb0⟩
  obtain ⟨e0, he0⟩ : ∃ e : Int, e = (1048576 : Int) - (m.length : Int) := ⟨_, rfl⟩
  have t0 : decide (e0 < 0) = false := decide_eq_false (by omega)
  have y0 : m.length ≤ 1048576 := by omega
  have y0' : 0 ≤ e0 ∧ e0 ≤ 1048576 := by omega
  replace he0 := Aside0.mk he0
  by_cases z1 : e0 - (g.length : Int) < 0
  · go_enter Try.func4, Try.ntmps4
    go_wp2_with fail
    refine (ToneS_sz m _ _ _ _ (by omega) (by omega) (by omega) HRm.out HCm.out).mono ?_
    rintro _ ws0 ⟨e0', rfl, he0', hb⟩
    have hb0 := hb
    obtain rfl : e0' = e0 := by rw [he0', if_neg (by omega), he0.out]
    clear he0'
    go_wp2_with fail
    refine (MelismaS_sz g _ _ _ _ (by omega) (by omega) (by omega) (Kd.C_below HRg.out hb0) HCg.out).mono ?_
    rintro _ ws1 ⟨e1', rfl, he1', hb⟩
    have hb1 := below_step hb0 hb
    have u1 : decide (e1' < 0) = true := by rw [he1', if_pos z1]; rfl
    clear he1' z1
    go_wp2
    go_ret
    exact ⟨rfl, hb1⟩
  obtain ⟨e1, he1⟩ : ∃ e : Int, e = e0 - (g.length : Int) := ⟨_, rfl⟩
  have t1 : decide (e1 < 0) = false := decide_eq_false (by omega)
  have y1 : g.length ≤ 1048576 := by omega
  have y1' : 0 ≤ e1 ∧ e1 ≤ 1048576 := by omega
  replace he1 := Aside0.mk he1
  obtain ⟨xm, hxm⟩ : ∃ x, x = m.map convTone := ⟨_, rfl⟩
  have lxm : xm.length ≤ 1048576 := by rw [hxm, List.length_map]; omega
  have Xm := Aside0.mk hxm
  clear hxm
  obtain ⟨xg, hxg⟩ : ∃ x, x = g.map convMelisma := ⟨_, rfl⟩
  have lxg : xg.length ≤ 1048576 := by rw [hxg, List.length_map]; omega
  have Xg := Aside0.mk hxg
  clear hxg
  skip
  obtain ⟨r0, r1, hres⟩ : ∃ r0 r1, gcut xm xg k = (r0, r1) := ⟨_, _, rfl⟩
  have lr : r0.length ≤ 2000000 := by have := gcut_len xm xg k; rw [hres] at this; simp only [] at this; omega
  have RES := Aside0.mk hres
  clear hres
  go_enter Try.func4, Try.ntmps4
  go_wp2_with fail
  refine (ToneS_sz m _ _ _ _ (by omega) (by omega) (by omega) HRm.out HCm.out).mono ?_
  rintro _ w1 ⟨e', rfl, he', hb⟩
  obtain rfl : e' = e0 := by have := he0.out; rw [he', if_neg (by omega), this]
  clear he'
  have HB := Aside0.mk hb
  have S1 := Aside0.mk hb.size
  go_wp2_with fail
  refine (MelismaS_sz g _ _ _ _ (by omega) (by omega) (by omega) (Kd.C_below HRg.out HB.out) HCg.out).mono ?_
  rintro _ w2 ⟨e', rfl, he', hb⟩
  obtain rfl : e' = e1 := by have := he1.out; rw [he', if_neg (by omega), this]
  clear he'
  replace HB := Aside0.mk (below_step HB.out hb)
  have S2 := Aside0.mk hb.size
  go_wp2_with fail
  refine (ToneS_to m _ _ _ (by omega) (Kd.C_below HRm.out HB.out) HCm.out).mono ?_
  rintro _ w3 ⟨vsm, rfl, ho, hb⟩
  rw [← Xm.out] at ho
  obtain ⟨Asm, csm, rfl, _, _⟩ := Kd.R_reads ho
  have Osm := Aside0.mk (Own.make ho HB.out.size)
  clear ho
  replace HB := Aside0.mk (below_step HB.out hb)
  have S3 := Aside0.mk hb.size
  go_wp2_with fail
  refine (MelismaS_to g _ _ _ (by omega) (Kd.C_below HRg.out HB.out) HCg.out).mono ?_
  rintro _ w4 ⟨vsg, rfl, ho, hb⟩
  rw [← Xg.out] at ho
  obtain ⟨Asg, csg, rfl, _, _⟩ := Kd.R_reads ho
  replace Osm := Aside0.mk (Osm.out.below hb)
  have Osg := Aside0.mk (Own.make ho HB.out.size)
  clear ho
  replace HB := Aside0.mk (below_step HB.out hb)
  have S4 := Aside0.mk hb.size
  go_wp2_with fail
  refine (spec_GroupsCut_calls xm xg k _ _ _ _ _ Osm.out.C Osm.out.cap Osg.out.C Osg.out.cap (by omega) (by omega)).mono ?_
  rintro _ w5 ⟨v, rfl, ho, hb⟩
  simp only [RES.out] at ho ⊢
  obtain ⟨AW, cW, rfl, _, _⟩ := Kd.R_reads ho
  replace Osm := Aside0.mk (Osm.out.below hb)
  replace Osg := Aside0.mk (Osg.out.below hb)
  have OW := Aside0.mk (Own.make ho HB.out.size)
  clear ho
  replace HB := Aside0.mk (below_step HB.out hb)
  have S5 := Aside0.mk hb.size
  clear Osm
  clear Osg
  go_wp2_with fail
  refine (ToneS_to m _ _ _ (by omega) (Kd.C_below HRm.out HB.out) HCm.out).mono ?_
  rintro _ w6 ⟨vpm, rfl, ho, hb⟩
  rw [← Xm.out] at ho
  obtain ⟨Apm, cpm, rfl, _, _⟩ := Kd.R_reads ho
  replace OW := Aside0.mk (OW.out.below hb)
  have Opm := Aside0.mk (Own.make ho HB.out.size)
  clear ho
  replace HB := Aside0.mk (below_step HB.out hb)
  have S6 := Aside0.mk hb.size
  go_wp2_with fail
  refine (MelismaS_to g _ _ _ (by omega) (Kd.C_below HRg.out HB.out) HCg.out).mono ?_
  rintro _ w7 ⟨vpg, rfl, ho, hb⟩
  rw [← Xg.out] at ho
  obtain ⟨Apg, cpg, rfl, _, _⟩ := Kd.R_reads ho
  replace OW := Aside0.mk (OW.out.below hb)
  replace Opm := Aside0.mk (Opm.out.below hb)
  have Opg := Aside0.mk (Own.make ho HB.out.size)
  clear ho
  replace HB := Aside0.mk (below_step HB.out hb)
  have S7 := Aside0.mk hb.size
  go_wp2_with fail
  refine (impl_GroupsCut_calls xm xg k _ _ _ _ _ Opm.out.C Opm.out.cap Opg.out.C Opg.out.cap (by omega)).mono ?_
  rintro _ w8 ⟨v, rfl, ho, hb⟩
  simp only [RES.out] at ho ⊢
  obtain ⟨AG, cG, rfl, _, _⟩ := Kd.R_reads ho
  replace OW := Aside0.mk (OW.out.below hb)
  replace Opm := Aside0.mk (Opm.out.below hb)
  replace Opg := Aside0.mk (Opg.out.below hb)
  have OG := Aside0.mk (Own.make ho HB.out.size)
  clear ho
  replace HB := Aside0.mk (below_step HB.out hb)
  have S8 := Aside0.mk hb.size
  go_wp2_with fail
  refine (ToneS_eq r0 _ _ _ _ _ (by omega) OG.out.C OG.out.cap OW.out.C OW.out.cap).mono ?_
  rintro _ w9 ⟨rfl, hb⟩
  replace OW := Aside0.mk (OW.out.below hb)
  replace Opm := Aside0.mk (Opm.out.below hb)
  replace Opg := Aside0.mk (Opg.out.below hb)
  replace OG := Aside0.mk (OG.out.below hb)
  replace HB := Aside0.mk (below_step HB.out hb)
  have S9 := Aside0.mk hb.size
  go_wp2_with fail
  refine (ToneS_to m _ _ _ (by omega) (Kd.C_below HRm.out HB.out) HCm.out).mono ?_
  rintro _ w10 ⟨vtm, rfl, ho, hb⟩
  rw [← Xm.out] at ho
  obtain ⟨Atm, ctm, rfl, _, _⟩ := Kd.R_reads ho
  replace OW := Aside0.mk (OW.out.below hb)
  replace Opm := Aside0.mk (Opm.out.below hb)
  replace Opg := Aside0.mk (Opg.out.below hb)
  replace OG := Aside0.mk (OG.out.below hb)
  have Otm := Aside0.mk (Own.make ho HB.out.size)
  clear ho
  replace HB := Aside0.mk (below_step HB.out hb)
  have S10 := Aside0.mk hb.size
  go_wp2_with fail
  refine (ToneS_eq xm _ _ _ _ _ (by omega) Opm.out.C Opm.out.cap Otm.out.C Otm.out.cap).mono ?_
  rintro _ w11 ⟨rfl, hb⟩
  replace OW := Aside0.mk (OW.out.below hb)
  replace Opm := Aside0.mk (Opm.out.below hb)
  replace Opg := Aside0.mk (Opg.out.below hb)
  replace OG := Aside0.mk (OG.out.below hb)
  replace Otm := Aside0.mk (Otm.out.below hb)
  replace HB := Aside0.mk (below_step HB.out hb)
  have S11 := Aside0.mk hb.size
  clear Otm
  go_wp2_with fail
  refine (MelismaS_to g _ _ _ (by omega) (Kd.C_below HRg.out HB.out) HCg.out).mono ?_
  rintro _ w12 ⟨vtg, rfl, ho, hb⟩
  rw [← Xg.out] at ho
  obtain ⟨Atg, ctg, rfl, _, _⟩ := Kd.R_reads ho
  replace OW := Aside0.mk (OW.out.below hb)
  replace Opm := Aside0.mk (Opm.out.below hb)
  replace Opg := Aside0.mk (Opg.out.below hb)
  replace OG := Aside0.mk (OG.out.below hb)
  have Otg := Aside0.mk (Own.make ho HB.out.size)
  clear ho
  replace HB := Aside0.mk (below_step HB.out hb)
  have S12 := Aside0.mk hb.size
  go_wp2_with fail
  refine (MelismaS_eq xg _ _ _ _ _ (by omega) Opg.out.C Opg.out.cap Otg.out.C Otg.out.cap).mono ?_
  rintro _ w13 ⟨rfl, hb⟩
  replace OW := Aside0.mk (OW.out.below hb)
  replace Opm := Aside0.mk (Opm.out.below hb)
  replace Opg := Aside0.mk (Opg.out.below hb)
  replace OG := Aside0.mk (OG.out.below hb)
  replace Otg := Aside0.mk (Otg.out.below hb)
  replace HB := Aside0.mk (below_step HB.out hb)
  have S13 := Aside0.mk hb.size
  clear Otg
  go_wp2_with fail
  refine (ToneS_mark xm _ _ _ _ w _ (by omega) (by omega) (by omega) HB.out Opm.out).mono ?_
  rintro _ w14 ⟨k0, rfl, hk0, ho, hb, hkept⟩
  clear Opm
  replace OW := Aside0.mk (OW.out.kept hkept (by intro k h1 h2 h3; have := S1.out; have := S2.out; have := S3.out; have := S4.out; have := S5.out; have := S6.out; have := S7.out; have := S8.out; have := S9.out; have := S10.out; have := S11.out; have := S12.out; have := S13.out; omega))
  replace Opg := Aside0.mk (Opg.out.kept hkept (by intro k h1 h2 h3; have := S1.out; have := S2.out; have := S3.out; have := S4.out; have := S5.out; have := S6.out; have := S7.out; have := S8.out; have := S9.out; have := S10.out; have := S11.out; have := S12.out; have := S13.out; omega))
  replace OG := Aside0.mk (OG.out.kept hkept (by intro k h1 h2 h3; have := S1.out; have := S2.out; have := S3.out; have := S4.out; have := S5.out; have := S6.out; have := S7.out; have := S8.out; have := S9.out; have := S10.out; have := S11.out; have := S12.out; have := S13.out; omega))
  replace HB := Aside0.mk hb
  have S14 := Aside0.mk hkept.1
  have b0 : 0 ≤ k0 ∧ k0 ≤ 2097153 := by omega
  clear hk0 ho hkept
  go_wp2_with fail
  refine (MelismaS_mark xg _ _ _ _ w _ (by omega) (by omega) (by omega) HB.out Opg.out).mono ?_
  rintro _ w15 ⟨k1, rfl, hk1, ho, hb, hkept⟩
  clear Opg
  replace OW := Aside0.mk (OW.out.kept hkept (by intro k h1 h2 h3; have := S1.out; have := S2.out; have := S3.out; have := S4.out; have := S5.out; have := S6.out; have := S7.out; have := S8.out; have := S9.out; have := S10.out; have := S11.out; have := S12.out; have := S13.out; have := S14.out; omega))
  replace OG := Aside0.mk (OG.out.kept hkept (by intro k h1 h2 h3; have := S1.out; have := S2.out; have := S3.out; have := S4.out; have := S5.out; have := S6.out; have := S7.out; have := S8.out; have := S9.out; have := S10.out; have := S11.out; have := S12.out; have := S13.out; have := S14.out; omega))
  replace HB := Aside0.mk hb
  have S15 := Aside0.mk hkept.1
  have b1 : 0 ≤ k1 ∧ k1 ≤ 4194305 := by omega
  clear hk1 ho hkept
  have u : decide (k1 < 0) = false := decide_eq_false (by omega)
  go_wp2_with fail
  refine (ToneS_eq r0 _ _ _ _ _ (by omega) OG.out.C OG.out.cap OW.out.C OW.out.cap).mono ?_
  rintro _ w16 ⟨rfl, hb⟩
  replace OW := Aside0.mk (OW.out.below hb)
  replace OG := Aside0.mk (OG.out.below hb)
  replace HB := Aside0.mk (below_step HB.out hb)
  have S16 := Aside0.mk hb.size
  go_wp2_with fail
  refine (ToneS_mark r0 _ _ _ _ w _ (by omega) (by omega) (by omega) HB.out OG.out).mono ?_
  rintro _ w17 ⟨mk_, rfl, hm_, ho, hb, hkept⟩
  replace OW := Aside0.mk (OW.out.kept hkept (by intro k h1 h2 h3; have := S1.out; have := S2.out; have := S3.out; have := S4.out; have := S5.out; have := S6.out; have := S7.out; have := S8.out; have := S9.out; have := S10.out; have := S11.out; have := S12.out; have := S13.out; have := S14.out; have := S15.out; have := S16.out; omega))
  replace OG := Aside0.mk ho
  replace HB := Aside0.mk hb
  have S17 := Aside0.mk hkept.1
  clear ho hkept
  have um : decide (mk_ < 0) = false := decide_eq_false (by omega)
  have HM_ := Aside0.mk hm_
  clear hm_
  go_wp2_with fail
  refine (ToneS_held r0.length 1 _ _ _ (by omega) (by omega) (by omega) (by have h := (Kd.R_reads' OG.out).2.2; rw [markTone_len] at h; exact h) OG.out.cap).mono ?_
  rintro _ w18 ⟨q, rfl, hq, hb⟩
  obtain rfl : mk_ = q := by rw [hq, HM_.out]
  clear hq
  replace OW := Aside0.mk (OW.out.below hb)
  replace OG := Aside0.mk (OG.out.below hb)
  replace HB := Aside0.mk (below_step HB.out hb)
  have S18 := Aside0.mk hb.size
  go_wp2_with fail
  refine (ToneS_to m _ _ _ (by omega) (Kd.C_below HRm.out HB.out) HCm.out).mono ?_
  rintro _ w19 ⟨vhm, rfl, ho, hb⟩
  rw [← Xm.out] at ho
  obtain ⟨Ahm, chm, rfl, _, _⟩ := Kd.R_reads ho
  replace OW := Aside0.mk (OW.out.below hb)
  replace OG := Aside0.mk (OG.out.below hb)
  have Ohm := Aside0.mk (Own.make ho HB.out.size)
  clear ho
  replace HB := Aside0.mk (below_step HB.out hb)
  have S19 := Aside0.mk hb.size
  go_wp2_with fail
  refine (MelismaS_to g _ _ _ (by omega) (Kd.C_below HRg.out HB.out) HCg.out).mono ?_
  rintro _ w20 ⟨vhg, rfl, ho, hb⟩
  rw [← Xg.out] at ho
  obtain ⟨Ahg, chg, rfl, _, _⟩ := Kd.R_reads ho
  replace OW := Aside0.mk (OW.out.below hb)
  replace OG := Aside0.mk (OG.out.below hb)
  replace Ohm := Aside0.mk (Ohm.out.below hb)
  have Ohg := Aside0.mk (Own.make ho HB.out.size)
  clear ho
  replace HB := Aside0.mk (below_step HB.out hb)
  have S20 := Aside0.mk hb.size
  go_wp2_with fail
  refine (impl_GroupsCut_calls xm xg k _ _ _ _ _ Ohm.out.C Ohm.out.cap Ohg.out.C Ohg.out.cap (by omega)).mono ?_
  rintro _ w21 ⟨v, rfl, ho, hb⟩
  simp only [RES.out] at ho ⊢
  obtain ⟨AH, cH, rfl, _, _⟩ := Kd.R_reads ho
  replace OW := Aside0.mk (OW.out.below hb)
  replace OG := Aside0.mk (OG.out.below hb)
  replace Ohm := Aside0.mk (Ohm.out.below hb)
  replace Ohg := Aside0.mk (Ohg.out.below hb)
  have OH := Aside0.mk (Own.make ho HB.out.size)
  clear ho
  replace HB := Aside0.mk (below_step HB.out hb)
  have S21 := Aside0.mk hb.size
  clear Ohm
  clear Ohg
  go_wp2_with fail
  refine (ToneS_eq r0 _ _ _ _ _ (by omega) OH.out.C OH.out.cap OW.out.C OW.out.cap).mono ?_
  rintro _ w22 ⟨rfl, hb⟩
  replace OW := Aside0.mk (OW.out.below hb)
  replace OG := Aside0.mk (OG.out.below hb)
  replace OH := Aside0.mk (OH.out.below hb)
  replace HB := Aside0.mk (below_step HB.out hb)
  have S22 := Aside0.mk hb.size
  go_wp2_with fail
  refine (ToneS_held r0.length 1 _ _ _ (by omega) (by omega) (by omega) (by have h := (Kd.R_reads' OG.out).2.2; rw [markTone_len] at h; exact h) OG.out.cap).mono ?_
  rintro _ w23 ⟨q, rfl, hq, hb⟩
  obtain rfl : mk_ = q := by rw [hq, HM_.out]
  clear hq
  replace OW := Aside0.mk (OW.out.below hb)
  replace OG := Aside0.mk (OG.out.below hb)
  replace OH := Aside0.mk (OH.out.below hb)
  replace HB := Aside0.mk (below_step HB.out hb)
  have S23 := Aside0.mk hb.size
  go_wp2
  go_ret
  exact ⟨rfl, HB.out⟩

end Go.Proofs.Ytkahgjejebhgnaa.Pure
