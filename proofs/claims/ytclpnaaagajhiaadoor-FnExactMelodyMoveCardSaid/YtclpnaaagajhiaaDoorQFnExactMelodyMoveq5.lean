/- Lemmas on the printed functions for the law FnExactMelodyMove. -/
import Derived.Test.YtclpnaaagajhiaaDoorQFnExactMelodyMoveq0
import Derived.Test.YtclpnaaagajhiaaDoorQFnExactMelodyMoveq1
import Derived.Test.YtclpnaaagajhiaaDoorQFnExactMelodyMoveq2
import Derived.Test.YtclpnaaagajhiaaDoorQFnExactMelodyMoveq3
import Derived.Test.YtclpnaaagajhiaaDoorQFnExactMelodyMoveq4
import Derived.Deep.RegionHeld3
import Derived.BigRegion
import Derived.Deep.Slices
import Derived.Laws.CopyOwn
namespace Go.Proofs.YtclpnaaagajhiaaDoor.Pure
set_option linter.unusedVariables false
set_option linter.unusedSimpArgs false
open Go Go.RowKit Go.Proofs.YtclpnaaagajhiaaDoor.PFnExactMelodyMove Go.Proofs.YtclpnaaagajhiaaDoorW.PrintWords Go.Proofs.YtclpnaaagajhiaaDoorW.PrintLast Go.Proofs.YtclpnaaagajhiaaDoorW.PrintMore

set_option maxHeartbeats 8000000 in
set_option maxRecDepth 100000 in
theorem FnExactMelodyMove_walk (m : List S50) (k : Int) (Am : Option Addr) (cm : Nat) (w : World) (ht : HTab w) (hrm : Kd.C k50 w Am m.length m) (hcm : m.length ≤ cm) (hmm : m.length ≤ maxLen) :
    Calls Tryd.prog 4 #[.slice Am m.length cm, .int .i64 k] w fun e w' => e = .returned (.bool true) ∧ Below w.heap.size w w' := by
  have HT := Aside0.mk ht
  clear ht
  have HRm := Aside0.mk hrm
  have HCm := Aside0.mk hcm
  unfold maxLen at hmm
  clear hrm hcm
  by_cases z0 : (1048576 : Int) - (m.length : Int) < 0
  · go_enter Tryd.func4, Tryd.ntmps4
    go_wp2_with fail
    refine (ToneS_sz m _ _ _ _ (by omega) (by omega) (by omega) HRm.out HCm.out).mono ?_
    rintro _ ws0 ⟨e0', rfl, he0', hb⟩
    have hb0 := hb
    have u0 : decide (e0' < 0) = true := by rw [he0', if_pos z0]; rfl
    clear he0' z0
    go_wp2
    go_ret
    exact ⟨rfl, hb0⟩
  obtain ⟨e0, he0⟩ : ∃ e : Int, e = (1048576 : Int) - (m.length : Int) := ⟨_, rfl⟩
  have t0 : decide (e0 < 0) = false := decide_eq_false (by omega)
  have y0 : m.length ≤ 1048576 := by omega
  have y0' : 0 ≤ e0 ∧ e0 ≤ 1048576 := by omega
  replace he0 := Aside0.mk he0
  obtain ⟨xm, hxm⟩ : ∃ x, x = m.map convTone := ⟨_, rfl⟩
  have lxm : xm.length ≤ 1048576 := by rw [hxm, List.length_map]; omega
  have Xm := Aside0.mk hxm
  clear hxm
  skip
  obtain ⟨r0, r1, hres⟩ : ∃ r0 r1, mmove xm k = (r0, r1) := ⟨_, _, rfl⟩
  have lr : r0.length ≤ 2000000 := by have := mmove_len xm k; rw [hres] at this; simp only [] at this; omega
  have RES := Aside0.mk hres
  clear hres
  go_enter Tryd.func4, Tryd.ntmps4
  go_wp2_with fail
  refine (ToneS_sz m _ _ _ _ (by omega) (by omega) (by omega) HRm.out HCm.out).mono ?_
  rintro _ w1 ⟨e', rfl, he', hb⟩
  obtain rfl : e' = e0 := by have := he0.out; rw [he', if_neg (by omega), this]
  clear he'
  have HB := Aside0.mk hb
  have S1 := Aside0.mk hb.size
  go_wp2_with fail
  refine (ToneS_to m _ _ _ (by omega) (Kd.C_below HRm.out HB.out) HCm.out).mono ?_
  rintro _ w2 ⟨vsm, rfl, ho, hb⟩
  rw [← Xm.out] at ho
  obtain ⟨Asm, csm, rfl, _, _⟩ := Kd.R_reads ho
  have Osm := Aside0.mk (Own.make ho HB.out.size)
  clear ho
  replace HB := Aside0.mk (below_step HB.out hb)
  have S2 := Aside0.mk hb.size
  go_wp2_with fail
  refine (spec_MelodyMove_x xm k _ _ _ Osm.out.C Osm.out.cap (by omega)).mono ?_
  rintro _ w3 ⟨v, rfl, ho, hb⟩
  simp only [RES.out] at ho ⊢
  obtain ⟨AW, cW, rfl, _, _⟩ := Kd.R_reads ho
  replace Osm := Aside0.mk (Osm.out.below hb)
  have OW := Aside0.mk (Own.make ho HB.out.size)
  clear ho
  replace HB := Aside0.mk (below_step HB.out hb)
  have S3 := Aside0.mk hb.size
  clear Osm
  go_wp2_with fail
  refine (ToneS_to m _ _ _ (by omega) (Kd.C_below HRm.out HB.out) HCm.out).mono ?_
  rintro _ w4 ⟨vpm, rfl, ho, hb⟩
  rw [← Xm.out] at ho
  obtain ⟨Apm, cpm, rfl, _, _⟩ := Kd.R_reads ho
  replace OW := Aside0.mk (OW.out.below hb)
  have Opm := Aside0.mk (Own.make ho HB.out.size)
  clear ho
  replace HB := Aside0.mk (below_step HB.out hb)
  have S4 := Aside0.mk hb.size
  go_wp2_with fail
  refine (impl_MelodyMove_calls xm k _ _ _ (HT.out.below HB.out) Opm.out.C Opm.out.cap (by omega)).mono ?_
  rintro _ w5 ⟨v, rfl, ho, hb⟩
  simp only [RES.out] at ho ⊢
  obtain ⟨AG, cG, rfl, _, _⟩ := Kd.R_reads ho
  replace OW := Aside0.mk (OW.out.below hb)
  replace Opm := Aside0.mk (Opm.out.below hb)
  have OG := Aside0.mk (Own.make ho HB.out.size)
  clear ho
  replace HB := Aside0.mk (below_step HB.out hb)
  have S5 := Aside0.mk hb.size
  go_wp2_with fail
  refine (ToneS_eq r0 _ _ _ _ _ (by omega) OG.out.C OG.out.cap OW.out.C OW.out.cap).mono ?_
  rintro _ w6 ⟨rfl, hb⟩
  replace OW := Aside0.mk (OW.out.below hb)
  replace Opm := Aside0.mk (Opm.out.below hb)
  replace OG := Aside0.mk (OG.out.below hb)
  replace HB := Aside0.mk (below_step HB.out hb)
  have S6 := Aside0.mk hb.size
  go_wp2_with fail
  refine (ToneS_to m _ _ _ (by omega) (Kd.C_below HRm.out HB.out) HCm.out).mono ?_
  rintro _ w7 ⟨vtm, rfl, ho, hb⟩
  rw [← Xm.out] at ho
  obtain ⟨Atm, ctm, rfl, _, _⟩ := Kd.R_reads ho
  replace OW := Aside0.mk (OW.out.below hb)
  replace Opm := Aside0.mk (Opm.out.below hb)
  replace OG := Aside0.mk (OG.out.below hb)
  have Otm := Aside0.mk (Own.make ho HB.out.size)
  clear ho
  replace HB := Aside0.mk (below_step HB.out hb)
  have S7 := Aside0.mk hb.size
  go_wp2_with fail
  refine (ToneS_eq xm _ _ _ _ _ (by omega) Opm.out.C Opm.out.cap Otm.out.C Otm.out.cap).mono ?_
  rintro _ w8 ⟨rfl, hb⟩
  replace OW := Aside0.mk (OW.out.below hb)
  replace Opm := Aside0.mk (Opm.out.below hb)
  replace OG := Aside0.mk (OG.out.below hb)
  replace Otm := Aside0.mk (Otm.out.below hb)
  replace HB := Aside0.mk (below_step HB.out hb)
  have S8 := Aside0.mk hb.size
  clear Otm
  go_wp2_with fail
  refine (ToneS_mark xm _ _ _ _ w _ (by omega) (by omega) (by omega) HB.out Opm.out).mono ?_
  rintro _ w9 ⟨k0, rfl, hk0, ho, hb, hkept⟩
  clear Opm
  replace OW := Aside0.mk (OW.out.kept hkept (by intro k h1 h2 h3; have := S1.out; have := S2.out; have := S3.out; have := S4.out; have := S5.out; have := S6.out; have := S7.out; have := S8.out; omega))
  replace OG := Aside0.mk (OG.out.kept hkept (by intro k h1 h2 h3; have := S1.out; have := S2.out; have := S3.out; have := S4.out; have := S5.out; have := S6.out; have := S7.out; have := S8.out; omega))
  replace HB := Aside0.mk hb
  have S9 := Aside0.mk hkept.1
  have b0 : 0 ≤ k0 ∧ k0 ≤ 2097153 := by omega
  clear hk0 ho hkept
  have u : decide (k0 < 0) = false := decide_eq_false (by omega)
  go_wp2_with fail
  refine (ToneS_eq r0 _ _ _ _ _ (by omega) OG.out.C OG.out.cap OW.out.C OW.out.cap).mono ?_
  rintro _ w10 ⟨rfl, hb⟩
  replace OW := Aside0.mk (OW.out.below hb)
  replace OG := Aside0.mk (OG.out.below hb)
  replace HB := Aside0.mk (below_step HB.out hb)
  have S10 := Aside0.mk hb.size
  go_wp2_with fail
  refine (ToneS_mark r0 _ _ _ _ w _ (by omega) (by omega) (by omega) HB.out OG.out).mono ?_
  rintro _ w11 ⟨mk_, rfl, hm_, ho, hb, hkept⟩
  replace OW := Aside0.mk (OW.out.kept hkept (by intro k h1 h2 h3; have := S1.out; have := S2.out; have := S3.out; have := S4.out; have := S5.out; have := S6.out; have := S7.out; have := S8.out; have := S9.out; have := S10.out; omega))
  replace OG := Aside0.mk ho
  replace HB := Aside0.mk hb
  have S11 := Aside0.mk hkept.1
  clear ho hkept
  have um : decide (mk_ < 0) = false := decide_eq_false (by omega)
  have HM_ := Aside0.mk hm_
  clear hm_
  go_wp2_with fail
  refine (ToneS_held r0.length 1 _ _ _ (by omega) (by omega) (by omega) (by have h := (Kd.R_reads' OG.out).2.2; rw [markTone_len] at h; exact h) OG.out.cap).mono ?_
  rintro _ w12 ⟨q, rfl, hq, hb⟩
  obtain rfl : mk_ = q := by rw [hq, HM_.out]
  clear hq
  replace OW := Aside0.mk (OW.out.below hb)
  replace OG := Aside0.mk (OG.out.below hb)
  replace HB := Aside0.mk (below_step HB.out hb)
  have S12 := Aside0.mk hb.size
  go_wp2_with fail
  refine (ToneS_to m _ _ _ (by omega) (Kd.C_below HRm.out HB.out) HCm.out).mono ?_
  rintro _ w13 ⟨vhm, rfl, ho, hb⟩
  rw [← Xm.out] at ho
  obtain ⟨Ahm, chm, rfl, _, _⟩ := Kd.R_reads ho
  replace OW := Aside0.mk (OW.out.below hb)
  replace OG := Aside0.mk (OG.out.below hb)
  have Ohm := Aside0.mk (Own.make ho HB.out.size)
  clear ho
  replace HB := Aside0.mk (below_step HB.out hb)
  have S13 := Aside0.mk hb.size
  go_wp2_with fail
  refine (impl_MelodyMove_calls xm k _ _ _ (HT.out.below HB.out) Ohm.out.C Ohm.out.cap (by omega)).mono ?_
  rintro _ w14 ⟨v, rfl, ho, hb⟩
  simp only [RES.out] at ho ⊢
  obtain ⟨AH, cH, rfl, _, _⟩ := Kd.R_reads ho
  replace OW := Aside0.mk (OW.out.below hb)
  replace OG := Aside0.mk (OG.out.below hb)
  replace Ohm := Aside0.mk (Ohm.out.below hb)
  have OH := Aside0.mk (Own.make ho HB.out.size)
  clear ho
  replace HB := Aside0.mk (below_step HB.out hb)
  have S14 := Aside0.mk hb.size
  clear Ohm
  go_wp2_with fail
  refine (ToneS_eq r0 _ _ _ _ _ (by omega) OH.out.C OH.out.cap OW.out.C OW.out.cap).mono ?_
  rintro _ w15 ⟨rfl, hb⟩
  replace OW := Aside0.mk (OW.out.below hb)
  replace OG := Aside0.mk (OG.out.below hb)
  replace OH := Aside0.mk (OH.out.below hb)
  replace HB := Aside0.mk (below_step HB.out hb)
  have S15 := Aside0.mk hb.size
  go_wp2_with fail
  refine (ToneS_held r0.length 1 _ _ _ (by omega) (by omega) (by omega) (by have h := (Kd.R_reads' OG.out).2.2; rw [markTone_len] at h; exact h) OG.out.cap).mono ?_
  rintro _ w16 ⟨q, rfl, hq, hb⟩
  obtain rfl : mk_ = q := by rw [hq, HM_.out]
  clear hq
  replace OW := Aside0.mk (OW.out.below hb)
  replace OG := Aside0.mk (OG.out.below hb)
  replace OH := Aside0.mk (OH.out.below hb)
  replace HB := Aside0.mk (below_step HB.out hb)
  have S16 := Aside0.mk hb.size
  go_wp2
  go_ret
  exact ⟨rfl, HB.out⟩

end Go.Proofs.YtclpnaaagajhiaaDoor.Pure
