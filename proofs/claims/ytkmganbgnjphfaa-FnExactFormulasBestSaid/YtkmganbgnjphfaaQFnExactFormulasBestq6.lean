/- Lemmas on the printed functions for the law FnExactFormulasBest. -/
import Derived.Test.YtkmganbgnjphfaaQFnExactFormulasBestq0
import Derived.Test.YtkmganbgnjphfaaQFnExactFormulasBestq1
import Derived.Test.YtkmganbgnjphfaaQFnExactFormulasBestq2
import Derived.Test.YtkmganbgnjphfaaQFnExactFormulasBestq3
import Derived.Test.YtkmganbgnjphfaaQFnExactFormulasBestq4
import Derived.Test.YtkmganbgnjphfaaQFnExactFormulasBestq5
import Derived.Deep.RegionHeld3
import Derived.BigRegion
import Derived.Deep.Slices
import Derived.Laws.CopyOwn
namespace Go.Proofs.Ytkmganbgnjphfaa.Pure
set_option linter.unusedVariables false
set_option linter.unusedSimpArgs false
open Go Go.RowKit Go.Proofs.Ytkmganbgnjphfaa.PFnExactFormulasBest Go.Proofs.YtkmganbgnjphfaaW.PrintWords Go.Proofs.YtkmganbgnjphfaaW.PrintLast Go.Proofs.YtkmganbgnjphfaaW.PrintMore

set_option maxHeartbeats 4000000 in
set_option maxRecDepth 100000 in
theorem impl_FormulasBest_calls (L : List S37) (S : List Int) (A0 : Option Addr) (c0 : Nat) (A1 : Option Addr) (c1 : Nat) (w : World) (hr0 : Kd.C k37 w A0 L.length L) (hc0 : L.length ≤ c0) (hr1 : Kd.C (Kd.int .i64) w A1 S.length S) (hc1 : S.length ≤ c1) (hL : ∀ x ∈ L, x.f0.length ≤ 1000000000000) (hS : S.length ≤ 1000000000000) :
    Calls Try.prog 23 #[.slice A0 L.length c0, .slice A1 S.length c1] w fun e w' => ∃ v, e = .returned (.tuple #[v, .bool (fBest L S).2]) ∧ Kd.R (Kd.int .i64) 3 w' w.heap.size (fun _ => True) v (fBest L S).1 ∧ Below w.heap.size w w' := by
  have hu1 := Try.underlying71
  have hu2 := Try.underlying37
  have hmf : ∀ (fn : Fn) (first cap : Array Value) (w : World), (Instr.makeFunc fn first cap).run Try.prog w = .ok (.func fn first cap) w := fun _ _ _ _ => rfl
  have HI := Aside0.mk info3
  have HR0 := Aside0.mk hr0
  have HR1 := Aside0.mk hr1
  have HCC := Aside0.mk (And.intro hc0 (And.intro hc1 (And.intro hL hS)))
  clear hr0 hr1 hc0 hc1 hL hS
  cases hok : okR L S
  · have e : fBest L S = ([], false) := by unfold fBest; rw [hok]; rfl
    rw [e]
    have HOK := Aside0.mk hok
    clear hok e
    go_enter Try.func23, Try.ntmps23
    go_wp2_with (first
      | ((with_reducible refine gate_dst (N := 2) rfl ?_); refine box_event ?hg (N := 2) ?hd (cs := #[.slice A0 L.length c0]) (t := 23) ?hr ?_; (case hd => rfl); (case hg => rfl); (case hr => first | (go_simp; done) | (go_simp; rfl)); intro F1 hg w2 hbox hb; have HB2 := Aside0.mk hb; have k0 : w2.cell? ⟨F1, 0, none⟩ = some (.slice A0 L.length c0) := (blk_cell hbox 0).trans rfl; clear hg hbox hb)
      | (go_at_call 53; refine (impl_newReader_no (Kd.C_below HR0.out HB2.out) HCC.out.1 (Kd.C_below HR1.out HB2.out) HCC.out.2.1 HCC.out.2.2.1 HCC.out.2.2.2 HOK.out).mono ?_; rintro e w4 ⟨rfl, hb4⟩; have HB4 := Aside0.mk (below_step HB2.out hb4); clear hb4))
    go_ret2
    exact ⟨_, rfl, Kd.R_nil _ _ _ _ _, HB4.out⟩
  obtain ⟨l1, l2, l3⟩ := okR_lens hok
  have HOK := Aside0.mk hok
  have HLS := Aside0.mk (And.intro l1 (And.intro l2 l3))
  by_cases hm : (rdO L S).f0 = 0
  · have e : fBest L S = ([], false) := by unfold fBest; rw [hok, if_pos rfl, if_pos hm]
    rw [e]
    obtain ⟨O, hO⟩ : ∃ O, O = rdO L S := ⟨_, rfl⟩
    rw [← hO] at hm
    have HO := Aside0.mk hO
    have hz : (O.f0 == 0) = true := by rw [beq_iff_eq]; exact hm
    have hfd : ∀ w, (Instr.field 71 (.agg #[.int .i64 O.f0, .int .i64 O.f1, .int .i64 O.f2]) 0).run Try.prog w = .ok (.int .i64 O.f0) w := fun _ => by kernel_rfl
    clear hok e l1 l2 l3 hm hO
    go_enter Try.func23, Try.ntmps23
    go_wp2_with (first
      | ((with_reducible refine gate_dst (N := 2) rfl ?_); refine box_event ?hg (N := 2) ?hd (cs := #[.slice A0 L.length c0]) (t := 23) ?hr ?_; (case hd => rfl); (case hg => rfl); (case hr => first | (go_simp; done) | (go_simp; rfl)); intro F1 hg w2 hbox hb; have HB2 := Aside0.mk hb; have k0 : w2.cell? ⟨F1, 0, none⟩ = some (.slice A0 L.length c0) := (blk_cell hbox 0).trans rfl; clear hg hbox hb)
      | (go_at_call 53; refine (impl_newReader_yes (Kd.C_below HR0.out HB2.out) HCC.out.1 (Kd.C_below HR1.out HB2.out) HCC.out.2.1 HCC.out.2.2.1 HCC.out.2.2.2 HOK.out).mono ?_; rintro e w4 ⟨R, M, rfl, hst, hM, hR, hRM⟩; have HX := Aside0.mk (impl_read_nil HR0.out HCC.out.1 HR1.out HCC.out.2.1 HLS.out.1 HLS.out.2.1 HLS.out.2.2 (Nat.le_trans HB2.out.size hM) (Nat.le_trans HB2.out.size hR) hRM S.length 0 w4 (Nat.zero_le _) (by omega) (hst.lower HB2.out)); simp only [List.drop_zero, Int.natCast_zero] at HX; rw [← HO.out] at HX; unfold outV at HX; clear hst hM hR hRM)
      | (go_at_call 54; refine HX.out.mono ?_; rintro e w5 ⟨rfl, hst, hk⟩; have HB := Aside0.mk hst.below; clear hst hk))
    go_ret2
    exact ⟨_, rfl, Kd.R_nil _ _ _ _ _, HB.out⟩
  · have e : fBest L S = (bestGo L S.length S, true) := by unfold fBest; rw [hok, if_pos rfl, if_neg hm]
    rw [e]
    obtain ⟨G, hG⟩ : ∃ G, G = bestGo L S.length S := ⟨_, rfl⟩
    rw [← hG]
    have HG := Aside0.mk hG
    have HM0 := Aside0.mk hm
    obtain ⟨O, hO⟩ : ∃ O, O = rdO L S := ⟨_, rfl⟩
    rw [← hO] at hm
    have HO := Aside0.mk hO
    have hz : (O.f0 == 0) = false := by rw [beq_eq_false_iff_ne]; exact hm
    have hfd : ∀ w, (Instr.field 71 (.agg #[.int .i64 O.f0, .int .i64 O.f1, .int .i64 O.f2]) 0).run Try.prog w = .ok (.int .i64 O.f0) w := fun _ => by kernel_rfl
    clear hok e l1 l2 l3 hm hO hG
    go_enter Try.func23, Try.ntmps23
    go_wp2_with (first
      | ((with_reducible refine gate_dst (N := 2) rfl ?_); refine box_event ?hg (N := 2) ?hd (cs := #[.slice A0 L.length c0]) (t := 23) ?hr ?_; (case hd => rfl); (case hg => rfl); (case hr => first | (go_simp; done) | (go_simp; rfl)); intro F1 hg w2 hbox hb; have HB2 := Aside0.mk hb; have HK2 := Aside0.mk hbox; have NF1 := Aside0.mk (show w.heap.size ≤ F1 from (by rw [hg]; exact Nat.le_refl _)); have k0 : w2.cell? ⟨F1, 0, none⟩ = some (.slice A0 L.length c0) := (blk_cell hbox 0).trans rfl; clear hg hbox hb)
      | (go_at_call 53; refine (impl_newReader_yes (Kd.C_below HR0.out HB2.out) HCC.out.1 (Kd.C_below HR1.out HB2.out) HCC.out.2.1 HCC.out.2.2.1 HCC.out.2.2.2 HOK.out).mono ?_; rintro e w4 ⟨R, M, rfl, hst, hM, hR, hRM⟩; have HMR := Aside0.mk (And.intro (Nat.le_trans HB2.out.size hM) (And.intro (Nat.le_trans HB2.out.size hR) hRM)); have HK4 := Aside0.mk (blk_below HK2.out hst.below); have HX := Aside0.mk (impl_read_nil HR0.out HCC.out.1 HR1.out HCC.out.2.1 HLS.out.1 HLS.out.2.1 HLS.out.2.2 (Nat.le_trans HB2.out.size hM) (Nat.le_trans HB2.out.size hR) hRM S.length 0 w4 (Nat.zero_le _) (by omega) (hst.lower HB2.out)); simp only [List.drop_zero, Int.natCast_zero] at HX; rw [← HO.out] at HX; unfold outV at HX; have NM := Aside0.mk (show F1 ≠ M from (hst.lower HB2.out).ne HK4.out); clear hst hM hR hRM)
      | (go_at_call 54; refine HX.out.mono ?_; rintro e w5 ⟨rfl, hst, hk⟩; have HST5 := Aside0.mk hst; have HK5 := Aside0.mk (blk_kept HK4.out hk NM.out); clear hst hk)
      | ((with_reducible refine gate_dst (N := 26) rfl ?_); refine Kd.R_lit (Kd.int .i64) _ 3 ?hg (N := 26) ?hd (xs := ([] : List Int)) (inner := []) (ok := fun _ => True) (okp := fun _ => True) ?hr (Reps.none _ _) (fun _ hk => hk) trivial (Below.refl _ _) (Nat.le_refl _) (by simp) ?_; (case hd => rfl); (case hg => rfl); (case hr => first | (go_simp; done) | (go_simp; rfl)); intro v6 w6 ho6 hb6 _ _; have HO6 := Aside0.mk (Kd.R_lower ho6 HST5.out.below.size); have HST6 := Aside0.mk (HST5.out.kept hb6); have HK6 := Aside0.mk (blk_below HK5.out hb6); clear ho6 hb6))
    go_loopg [8, 9] S.length (fun kq v8 v9 w' => ∃ (p : Nat) (X : List Int) (vv : Value), vv = v8 ∧ v9 = .int .i64 (p : Int) ∧ Aside0 (kq = S.length - p ∧ p ≤ S.length ∧ (rdO L (S.drop p)).f0 ≠ 0 ∧ X ++ bestGo L (S.length - p) (S.drop p) = G ∧ X.length ≤ p) ∧ Aside0 (Kd.R (Kd.int .i64) 3 w' w.heap.size (fun _ => True) vv X) ∧ Aside0 (w'.heap[F1]? = some (.cells #[.slice A0 L.length c0] 23 (0, 0))) ∧ Aside0 (RdSt w w' L S A0 c0 A1 c1 R M))
    case atStart => exact ⟨0, [], _, rfl, rfl, ⟨by omega, Nat.zero_le _, by rw [List.drop_zero]; exact HM0.out, by rw [List.drop_zero]; exact HG.out.symm, Nat.le_refl _⟩, HO6, HK6, HST6⟩
    case round =>
      clear HO6 HK6 HST6 HX HM0 HG k0
      obtain ⟨p, X, v8, rfl, rfl, HXX, HRX, HK, HST⟩ := hrel
      have hLS1 := fun f hf => (HLS.out.1 f hf).1
      by_cases hp : (p : Int) < (S.length : Int)
      · have d1 : decide ((p : Int) < (S.length : Int)) = true := decide_eq_true hp
        have d2 : decide (p < S.length) = true := decide_eq_true (by omega)
        have hne : S.drop p ≠ [] := by
          intro h
          have := congrArg List.length h
          rw [List.length_drop, List.length_nil] at this
          omega
        obtain ⟨b, o, hb1, hb2, hb3, hb4, hb5, hb6, hb7⟩ := best_ok (fun f hf => (HLS.out.1 f hf).1) hne HXX.out.2.2.1
        have hpl := isPre_len hb5
        rw [List.length_drop] at hpl
        have hgo : X ++ [b] ++ bestGo L (S.length - (p + (rd_T37 L b).f0.length)) (S.drop (p + (rd_T37 L b).f0.length)) = G := by
          have h1 := HXX.out.2.2.2.1
          obtain ⟨m, hm⟩ : ∃ m, S.length - p = m + 1 := ⟨S.length - p - 1, by omega⟩
          rw [hm] at h1
          simp only [bestGo] at h1
          rw [if_neg hne, hb1, List.drop_drop] at h1
          rw [← h1, bestGo_more hLS1 (S.length - (p + (rd_T37 L b).f0.length)) m (S.drop (p + (rd_T37 L b).f0.length)) (by rw [List.length_drop]; omega) (by rw [List.length_drop]; omega) (by rw [← List.drop_drop]; exact hb6)]
          simp
        obtain ⟨ad, Af, cf, e0, ux0, ux1, hcf, hrf⟩ := at_T37 HR0.out b hb3 hb4
        subst e0
        obtain ⟨f, hf⟩ : ∃ f, f = rd_T37 L b := ⟨_, rfl⟩
        rw [← hf] at ux0 hgo hb5 hb6 hb7 hpl
        rw [List.drop_drop] at hb6
        have U0 := Aside0.mk ux0
        have hf5 := (HLS.out.1 f (by rw [hf]; exact rd_mem hb3 hb4)).2
        have NX : Aside0 (S.length - (p + f.f0.length) < gk ∧ p + f.f0.length ≤ S.length ∧ (rdO L (S.drop (p + f.f0.length))).f0 ≠ 0 ∧ X ++ [b] ++ bestGo L (S.length - (p + f.f0.length)) (S.drop (p + f.f0.length)) = G ∧ (X ++ [b]).length ≤ p + f.f0.length) := ⟨by have := HXX.out.1; omega, by omega, hb6, hgo, by rw [List.length_append, List.length_singleton]; have := HXX.out.2.2.2.2; omega⟩
        have HB1 := Aside0.mk hb1
        have bx : X.length ≤ 1000 := by have := HXX.out.2.2.2.2; have := HLS.out.2.2; omega
        have bp : p ≤ 23 := by have := HLS.out.2.2; omega
        have q0 := eq_true hb3
        have q1 := eq_true hb4
        have PS := Aside0.mk (show p ≤ S.length by omega)
        clear hne hb1 hb2 hb3 hb4 hb5 hb6 hb7 hpl hgo hf ux0 ux1 hcf hrf hp
        go_upto_region 8 with (first
          | ((with_reducible refine gate_dst (N := 10) rfl ?_); refine box_event ?hg (N := 10) ?hd (cs := #[.int .i64 0]) (t := 3) ?hr ?_; (case hd => rfl); (case hg => rfl); (case hr => first | (go_simp; done) | (go_simp; rfl)); intro F2 hg w7 hbox hb; have HB7 := Aside0.mk hb; have KF2 := Aside0.mk hbox; have NF2 := Aside0.mk (show wr.heap.size ≤ F2 from (by rw [hg]; exact Nat.le_refl _)); clear hg hbox hb)
          | ((with_reducible refine gate_dst (N := 11) rfl ?_); refine box_event ?hg (N := 11) ?hd (cs := #[.int .i64 0]) (t := 3) ?hr ?_; (case hd => rfl); (case hg => rfl); (case hr => first | (go_simp; done) | (go_simp; rfl)); intro F3 hg w8 hbox hb; have HB8 := Aside0.mk (below_step HB7.out hb); have KF2' := Aside0.mk (blk_below KF2.out hb); have KF3 := Aside0.mk hbox; have NF3 := Aside0.mk (show wr.heap.size ≤ F3 from (by rw [hg]; exact HB7.out.size)); have N23 := Aside0.mk (show F2 ≠ F3 from (by rw [hg]; exact Nat.ne_of_lt (blk_lt KF2.out))); have y2 : w8.cell? ⟨F2, 0, none⟩ = some (.int .i64 0) := (blk_cell KF2'.out 0).trans rfl; have y3 : w8.cell? ⟨F3, 0, none⟩ = some (.int .i64 0) := (blk_cell KF3.out 0).trans rfl; have g2 := blk_frozen KF2'.out 0; have g3 := blk_frozen KF3.out 0; have n23 := N23.out; have n32 := Ne.symm N23.out; clear hg hbox hb))
        have E2 : Aside0 (((w8.setCell ⟨F2, 0, none⟩ (.int .i64 (-1))).setCell ⟨F3, 0, none⟩ (.int .i64 0)).heap[F2]? = some (.cells #[.int .i64 (-1)] 3 (0, 0))) := ⟨blk_far (blk_put (cs := #[.int .i64 0]) KF2'.out 0 _ rfl) n23 _⟩
        have E3 : Aside0 (((w8.setCell ⟨F2, 0, none⟩ (.int .i64 (-1))).setCell ⟨F3, 0, none⟩ (.int .i64 0)).heap[F3]? = some (.cells #[.int .i64 0] 3 (0, 0))) := ⟨blk_put (cs := #[.int .i64 0]) (blk_far KF3.out n32 _) 0 _ rfl⟩
        have HBA : Aside0 (Below wr.heap.size wr ((w8.setCell ⟨F2, 0, none⟩ (.int .i64 (-1))).setCell ⟨F3, 0, none⟩ (.int .i64 0))) := ⟨below_set (below_set HB8.out NF2.out) NF3.out⟩
        clear KF2 KF2' KF3 HB7 HB8 y2 y3 g2 g3
        generalize ((w8.setCell ⟨F2, 0, none⟩ (.int .i64 (-1))).setCell ⟨F3, 0, none⟩ (.int .i64 0)) = wA at E2 E3 HBA ⊢
        have HSA := Aside0.mk (HST.out.kept HBA.out)
        have HBI := Aside0.mk (show BI L (some ad) c0 w.heap.size F1 F2 F3 v8 X wA [] from ⟨NF1.out, Nat.le_trans HST.out.below.size NF2.out, Nat.le_trans HST.out.below.size NF3.out, n23, HSA.out.below.size, blk_below HK.out HBA.out, E2.out, E3.out, Kd.R_below (Kd.R_mono (Kd.R_bound HRX.out) (fun k hk => ⟨by have := hk.2.2.1; have := NF2.out; omega, by have := hk.2.2.1; have := NF3.out; omega⟩)) HBA.out⟩)
        have HRE := Aside0.mk (impl_read_eachB HR0.out HCC.out.1 HR1.out HCC.out.2.1 HLS.out.1 HLS.out.2.1 HLS.out.2.2 HMR.out.1 HMR.out.2.1 HMR.out.2.2 (F1 := F1) (F2 := F2) (F3 := F3) [] (BI L (some ad) c0 w.heap.size F1 F2 F3 v8 X) (fun _ _ _ hi hk => hi.move hk) (fun w' h i o hs hi h0 h1 _ => impl_FormulasBest1_calls HR0.out hs h i o hi h0 h1) p wA PS.out HSA.out HBI.out)
        simp only [List.nil_append] at HRE
        clear HBI HSA E2 E3 HK HRX n23 n32
        go_upto_region 9 with (go_at_call 54; refine HRE.out.mono ?_; rintro e wB ⟨rfl, hst, hi⟩; have HSB := Aside0.mk hst; have HIB := Aside0.mk hi; clear hst hi)
        (try simp only [Act.put, List.setIfInBounds_toArray, List.set_cons_zero, List.set_cons_succ])
        have hk2 := HIB.out.k2
        rw [HB1.out] at hk2
        have KB2 := Aside0.mk hk2
        have c2 : wB.cell? ⟨F2, 0, none⟩ = some (.int .i64 b) := (blk_cell KB2.out 0).trans rfl
        have l2 : F2 < wB.heap.size := blk_lt KB2.out
        have l3 : F3 < wB.heap.size := blk_lt HIB.out.k3
        clear hk2
        go_upto_region 10 with ((with_reducible refine gate_builtin (b := .append) (xs := #[.tmp 35, .tmp 37]) rfl ?_); at_builtin; go_loud (refine Kd.R_append (Kd.int .i64) (w0 := w) w.heap.size rfl (.tmp 35) (.tmp 37) 29 3 (.int .i64 0) 8 rfl Try.underlying29 HI.out rfl (by decide) (by omega) v8 X b [.int .i64 b] (fun k => k ≠ F2 ∧ k ≠ F3) (fun _ => False) rfl rfl ?aP (fun _ hk => hk.elim) (fun k hk => ⟨by omega, by omega⟩) HIB.out.row HSB.out.below HSB.out.below.size (by omega) ?_); (case aP => exact rfl); intro v9 wC ho9 hb9 hg9 hat9; have HO9 := Aside0.mk (Kd.R_mono ho9 (fun _ _ => trivial) : Kd.R (Kd.int .i64) 3 wC w.heap.size (fun _ => True) v9 (X ++ [b])); have HB9 := Aside0.mk hb9; have HG9 := Aside0.mk hg9; clear ho9 hb9 hg9 hat9)
        (try simp only [Act.put, List.setIfInBounds_toArray, List.set_cons_zero, List.set_cons_succ])
        have KC1 := Aside0.mk (blk_grown HIB.out.k1 HG9.out (Kd.R_ne HIB.out.row HIB.out.k1 (by decide)))
        have KC2 := Aside0.mk (blk_grown KB2.out HG9.out (fun he => (HIB.out.row.1 F2 he.symm).1 rfl))
        have HSC : Aside0 (RdSt w wC L S (some ad) c0 A1 c1 R M) := ⟨by
          obtain ⟨Fm, hFm, hFm'⟩ := HSB.out.memo
          have hbw : w.heap.size ≤ wB.heap.size := HSB.out.below.size
          refine HSB.out.far HB9.out (HG9.out.block R (blk_lt HSB.out.blk) (Kd.R_ne HIB.out.row HSB.out.blk (by decide))) (HG9.out.block M hFm.lt (fun he => ?_))
          obtain ⟨_, _, _, q, _, cells, hc⟩ := (Kd.R_bound HIB.out.row).1 M he.symm
          obtain ⟨es, ck, hm, _⟩ := hFm
          rw [hm] at hc; cases hc⟩
        have c1_ : wC.cell? ⟨F1, 0, none⟩ = some (.slice (some ad) L.length c0) := (blk_cell KC1.out 0).trans rfl
        have c2_ : wC.cell? ⟨F2, 0, none⟩ = some (.int .i64 b) := (blk_cell KC2.out 0).trans rfl
        have u0_ := pw_cell_below HB9.out U0.out
        clear c2 l2 l3
        go_wp2
        go_roundg (S.length - (p + f.f0.length))
        case measure => exact NX.out.1
        case rel => exact ⟨p + f.f0.length, X ++ [b], _, rfl, by simp, ⟨rfl, NX.out.2⟩, HO9, KC1, HSC⟩
      · have d1 : decide ((p : Int) < (S.length : Int)) = false := decide_eq_false hp
        have d2 : decide (p < S.length) = false := decide_eq_false (by omega)
        have hX : X = G := by
          have h1 := HXX.out.2.2.2.1
          have e : S.length - p = 0 := by omega
          rw [e] at h1
          simpa [bestGo] using h1
        subst hX
        clear hp
        go_wp2
        go_ret2
        exact ⟨_, rfl, HRX.out, HST.out.below⟩

end Go.Proofs.Ytkmganbgnjphfaa.Pure
