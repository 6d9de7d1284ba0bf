/- Lemmas for the law FnExactFormulasRead. -/
import Derived.Test.YtnemcppllfmioaaSFnExactFormulasReads3
namespace Go.Proofs.Ytnemcppllfmioaa.Pure
set_option linter.unusedVariables false
set_option linter.unusedSimpArgs false
open Go Go.RowKit Go.Proofs.Ytnemcppllfmioaa.PFnExactFormulasRead Go.Proofs.YtnemcppllfmioaaW.PrintWords Go.Proofs.YtnemcppllfmioaaW.PrintLast Go.Proofs.YtnemcppllfmioaaW.PrintMore

set_option maxHeartbeats 4000000 in
set_option maxRecDepth 100000 in
theorem impl_FormulasBest_calls (L : List S55) (S : List Int) (A0 : Option Addr) (c0 : Nat) (A1 : Option Addr) (c1 : Nat) (w : World) (hr0 : Kd.C k55 w A0 L.length L) (hc0 : L.length ≤ c0) (hr1 : Kd.C (Kd.int .i64) w A1 S.length S) (hc1 : S.length ≤ c1) (hL : ∀ x ∈ L, x.f0.length ≤ 1000000000000) (hS : S.length ≤ 1000000000000) :
  Calls Try.prog 29 #[.slice A0 L.length c0, .slice A1 S.length c1] w fun e w' => ∃ v, e = .returned (.tuple #[v, .bool (fBest L S).2]) ∧ Kd.R (Kd.int .i64) 3 w' w.heap.size (fun _ => True) v (fBest L S).1 ∧ Below w.heap.size w w' := by
 have hu1 := Try.underlying109
 have hu2 := Try.underlying55
 have hmf : ∀ (fn : Fn) (first cap : Array Value) (w : World), (Instr.makeFunc fn first cap).run Try.prog w = .ok (.func fn first cap) w := fun _ _ _ _ => rfl
 have HI := Aside0.mk info3
 have HR0 := Aside0.mk hr0
 have HR1 := Aside0.mk hr1
 have HCC := Aside0.mk (And.intro hc0 (And.intro hc1 (And.intro hL hS)))
 clear hr0 hr1 hc0 hc1 hL hS
 cases hok : okR L S
 ·
  have e : fBest L S = ([], false) := by unfold fBest; rw [hok]; rfl
  rw [e]
  have HOK := Aside0.mk hok
  clear hok e
  go_enter Try.func29, Try.ntmps29
  go_wp2_with (first
   | ((with_reducible refine gate_dst (N := 2) rfl ?_); refine box_event ?hg (N := 2) ?hd (cs := #[.slice A0 L.length c0]) (t := 38) ?hr ?_; (case hd => rfl); (case hg => rfl); (case hr => first | (go_simp; done) | (go_simp; rfl)); intro F1 hg w2 hbox hb; have HB2 := Aside0.mk hb; have k0 : w2.cell? ⟨F1, 0, none⟩ = some (.slice A0 L.length c0) := (blk_cell hbox 0).trans rfl; clear hg hbox hb)
   | (go_at_call 77; refine (impl_newReader_no (Kd.C_below HR0.out HB2.out) HCC.out.1 (Kd.C_below HR1.out HB2.out) HCC.out.2.1 HCC.out.2.2.1 HCC.out.2.2.2 HOK.out).mono ?_; rintro e w4 ⟨rfl, hb4⟩; have HB4 := Aside0.mk (below_step HB2.out hb4); clear hb4))
  go_ret2
  exact ⟨_, rfl, Kd.R_nil _ _ _ _ _, HB4.out⟩
 obtain ⟨l1, l2, l3⟩ := okR_lens hok
 have HOK := Aside0.mk hok
 have HLS := Aside0.mk (And.intro l1 (And.intro l2 l3))
 by_cases hm : (rdO L S).f0 = 0
 ·
  have e : fBest L S = ([], false) := by unfold fBest; rw [hok, if_pos rfl, if_pos hm]
  rw [e]
  obtain ⟨O, hO⟩ : ∃ O, O = rdO L S := ⟨_, rfl⟩
  rw [← hO] at hm
  have HO := Aside0.mk hO
  have hz : (O.f0 == 0) = true := by rw [beq_iff_eq]; exact hm
  have hfd : ∀ w, (Instr.field 109 (.agg #[.int .i64 O.f0, .int .i64 O.f1, .int .i64 O.f2]) 0).run Try.prog w = .ok (.int .i64 O.f0) w := fun _ => by kernel_rfl
  clear hok e l1 l2 l3 hm hO
  go_enter Try.func29, Try.ntmps29
  go_wp2_with (first
   | ((with_reducible refine gate_dst (N := 2) rfl ?_); refine box_event ?hg (N := 2) ?hd (cs := #[.slice A0 L.length c0]) (t := 38) ?hr ?_; (case hd => rfl); (case hg => rfl); (case hr => first | (go_simp; done) | (go_simp; rfl)); intro F1 hg w2 hbox hb; have HB2 := Aside0.mk hb; have k0 : w2.cell? ⟨F1, 0, none⟩ = some (.slice A0 L.length c0) := (blk_cell hbox 0).trans rfl; clear hg hbox hb)
   | (go_at_call 77; refine (impl_newReader_yes (Kd.C_below HR0.out HB2.out) HCC.out.1 (Kd.C_below HR1.out HB2.out) HCC.out.2.1 HCC.out.2.2.1 HCC.out.2.2.2 HOK.out).mono ?_; rintro e w4 ⟨R, M, rfl, hst, hM, hR, hRM⟩; have HX := Aside0.mk (impl_read_nil HR0.out HCC.out.1 HR1.out HCC.out.2.1 HLS.out.1 HLS.out.2.1 HLS.out.2.2 (Nat.le_trans HB2.out.size hM) (Nat.le_trans HB2.out.size hR) hRM S.length 0 w4 (Nat.zero_le _) (by omega) (hst.lower HB2.out)); simp only [List.drop_zero, Int.natCast_zero] at HX; rw [← HO.out] at HX; unfold outV at HX; clear hst hM hR hRM)
   | (go_at_call 78; refine HX.out.mono ?_; rintro e w5 ⟨rfl, hst, hk⟩; have HB := Aside0.mk hst.below; clear hst hk))
  go_ret2
  exact ⟨_, rfl, Kd.R_nil _ _ _ _ _, HB.out⟩
 ·
  have e : fBest L S = (bestGo L S.length S, true) := by unfold fBest; rw [hok, if_pos rfl, if_neg hm]
  rw [e]
  obtain ⟨G, hG⟩ : ∃ G, G = bestGo L S.length S := ⟨_, rfl⟩
  rw [← hG]
  have HG := Aside0.mk hG
  have HM0 := Aside0.mk hm
  obtain ⟨O, hO⟩ : ∃ O, O = rdO L S := ⟨_, rfl⟩
  rw [← hO] at hm
  have HO := Aside0.mk hO
  have hz : (O.f0 == 0) = false := by rw [beq_eq_false_iff_ne]; exact hm
  have hfd : ∀ w, (Instr.field 109 (.agg #[.int .i64 O.f0, .int .i64 O.f1, .int .i64 O.f2]) 0).run Try.prog w = .ok (.int .i64 O.f0) w := fun _ => by kernel_rfl
  clear hok e l1 l2 l3 hm hO hG
  go_enter Try.func29, Try.ntmps29
  go_wp2_with (first
   | ((with_reducible refine gate_dst (N := 2) rfl ?_); refine box_event ?hg (N := 2) ?hd (cs := #[.slice A0 L.length c0]) (t := 38) ?hr ?_; (case hd => rfl); (case hg => rfl); (case hr => first | (go_simp; done) | (go_simp; rfl)); intro F1 hg w2 hbox hb; have HB2 := Aside0.mk hb; have HK2 := Aside0.mk hbox; have NF1 := Aside0.mk (show w.heap.size ≤ F1 from (by rw [hg]; exact Nat.le_refl _)); have k0 : w2.cell? ⟨F1, 0, none⟩ = some (.slice A0 L.length c0) := (blk_cell hbox 0).trans rfl; clear hg hbox hb)
   | (go_at_call 77; refine (impl_newReader_yes (Kd.C_below HR0.out HB2.out) HCC.out.1 (Kd.C_below HR1.out HB2.out) HCC.out.2.1 HCC.out.2.2.1 HCC.out.2.2.2 HOK.out).mono ?_; rintro e w4 ⟨R, M, rfl, hst, hM, hR, hRM⟩; have HMR := Aside0.mk (And.intro (Nat.le_trans HB2.out.size hM) (And.intro (Nat.le_trans HB2.out.size hR) hRM)); have HK4 := Aside0.mk (blk_below HK2.out hst.below); have HX := Aside0.mk (impl_read_nil HR0.out HCC.out.1 HR1.out HCC.out.2.1 HLS.out.1 HLS.out.2.1 HLS.out.2.2 (Nat.le_trans HB2.out.size hM) (Nat.le_trans HB2.out.size hR) hRM S.length 0 w4 (Nat.zero_le _) (by omega) (hst.lower HB2.out)); simp only [List.drop_zero, Int.natCast_zero] at HX; rw [← HO.out] at HX; unfold outV at HX; have NM := Aside0.mk (show F1 ≠ M from (hst.lower HB2.out).ne HK4.out); clear hst hM hR hRM)
   | (go_at_call 78; refine HX.out.mono ?_; rintro e w5 ⟨rfl, hst, hk⟩; have HST5 := Aside0.mk hst; have HK5 := Aside0.mk (blk_kept HK4.out hk NM.out); clear hst hk)
   | ((with_reducible refine gate_dst (N := 26) rfl ?_); refine Kd.R_lit (Kd.int .i64) _ 3 ?hg (N := 26) ?hd (xs := ([] : List Int)) (inner := []) (ok := fun _ => True) (okp := fun _ => True) ?hr (Reps.none _ _) (fun _ hk => hk) trivial (Below.refl _ _) (Nat.le_refl _) (by simp) ?_; (case hd => rfl); (case hg => rfl); (case hr => first | (go_simp; done) | (go_simp; rfl)); intro v6 w6 ho6 hb6 _ _; have HO6 := Aside0.mk (Kd.R_lower ho6 HST5.out.below.size); have HST6 := Aside0.mk (HST5.out.kept hb6); have HK6 := Aside0.mk (blk_below HK5.out hb6); clear ho6 hb6))
  go_loopg [8, 9] S.length (fun kq v8 v9 w' => ∃ (p : Nat) (X : List Int) (vv : Value), vv = v8 ∧ v9 = .int .i64 (p : Int) ∧ Aside0 (kq = S.length - p ∧ p ≤ S.length ∧ (rdO L (S.drop p)).f0 ≠ 0 ∧ X ++ bestGo L (S.length - p) (S.drop p) = G ∧ X.length ≤ p) ∧ Aside0 (Kd.R (Kd.int .i64) 3 w' w.heap.size (fun _ => True) vv X) ∧ Aside0 (w'.heap[F1]? = some (.cells #[.slice A0 L.length c0] 38 (0, 0))) ∧ Aside0 (RdSt w w' L S A0 c0 A1 c1 R M))
  case atStart => exact ⟨0, [], _, rfl, rfl, ⟨by omega, Nat.zero_le _, by rw [List.drop_zero]; exact HM0.out, by rw [List.drop_zero]; exact HG.out.symm, Nat.le_refl _⟩, HO6, HK6, HST6⟩
  case round =>
   clear HO6 HK6 HST6 HX HM0 HG k0
   obtain ⟨p, X, v8, rfl, rfl, HXX, HRX, HK, HST⟩ := hrel
   have hLS1 := fun f hf => (HLS.out.1 f hf).1
   by_cases hp : (p : Int) < (S.length : Int)
   ·
    have d1 : decide ((p : Int) < (S.length : Int)) = true := decide_eq_true hp
    have d2 : decide (p < S.length) = true := decide_eq_true (by omega)
    have hne : S.drop p ≠ [] := by
     intro h
     have := congrArg List.length h
     rw [List.length_drop, List.length_nil] at this
     omega
    obtain ⟨b, o, hb1, hb2, hb3, hb4, hb5, hb6, hb7⟩ := best_ok (fun f hf => (HLS.out.1 f hf).1) hne HXX.out.2.2.1
    have hpl := isPre_len hb5
    rw [List.length_drop] at hpl
    have hgo : X ++ [b] ++ bestGo L (S.length - (p + (rd_T55 L b).f0.length)) (S.drop (p + (rd_T55 L b).f0.length)) = G := by
     have h1 := HXX.out.2.2.2.1
     obtain ⟨m, hm⟩ : ∃ m, S.length - p = m + 1 := ⟨S.length - p - 1, by omega⟩
     rw [hm] at h1
     simp only [bestGo] at h1
     rw [if_neg hne, hb1, List.drop_drop] at h1
     rw [← h1, bestGo_more hLS1 (S.length - (p + (rd_T55 L b).f0.length)) m (S.drop (p + (rd_T55 L b).f0.length)) (by rw [List.length_drop]; omega) (by rw [List.length_drop]; omega) (by rw [← List.drop_drop]; exact hb6)]
     simp
    obtain ⟨ad, Af, cf, e0, ux0, ux1, hcf, hrf⟩ := at_T55 HR0.out b hb3 hb4
    subst e0
    obtain ⟨f, hf⟩ : ∃ f, f = rd_T55 L b := ⟨_, rfl⟩
    rw [← hf] at ux0 hgo hb5 hb6 hb7 hpl
    rw [List.drop_drop] at hb6
    have U0 := Aside0.mk ux0
    have hf5 := (HLS.out.1 f (by rw [hf]; exact rd_mem hb3 hb4)).2
    have NX : Aside0 (S.length - (p + f.f0.length) < gk ∧ p + f.f0.length ≤ S.length ∧ (rdO L (S.drop (p + f.f0.length))).f0 ≠ 0 ∧ X ++ [b] ++ bestGo L (S.length - (p + f.f0.length)) (S.drop (p + f.f0.length)) = G ∧ (X ++ [b]).length ≤ p + f.f0.length) := ⟨by have := HXX.out.1; omega, by omega, hb6, hgo, by rw [List.length_append, List.length_singleton]; have := HXX.out.2.2.2.2; omega⟩
    have HB1 := Aside0.mk hb1
    have bx : X.length ≤ 1000 := by have := HXX.out.2.2.2.2; have := HLS.out.2.2; omega
    have bp : p ≤ 23 := by have := HLS.out.2.2; omega
    have q0 := eq_true hb3
    have q1 := eq_true hb4
    have PS := Aside0.mk (show p ≤ S.length by omega)
    clear hne hb1 hb2 hb3 hb4 hb5 hb6 hb7 hpl hgo hf ux0 ux1 hcf hrf hp
    go_upto_region 8 with (first
     | ((with_reducible refine gate_dst (N := 10) rfl ?_); refine box_event ?hg (N := 10) ?hd (cs := #[.int .i64 0]) (t := 3) ?hr ?_; (case hd => rfl); (case hg => rfl); (case hr => first | (go_simp; done) | (go_simp; rfl)); intro F2 hg w7 hbox hb; have HB7 := Aside0.mk hb; have KF2 := Aside0.mk hbox; have NF2 := Aside0.mk (show wr.heap.size ≤ F2 from (by rw [hg]; exact Nat.le_refl _)); clear hg hbox hb)
     | ((with_reducible refine gate_dst (N := 11) rfl ?_); refine box_event ?hg (N := 11) ?hd (cs := #[.int .i64 0]) (t := 3) ?hr ?_; (case hd => rfl); (case hg => rfl); (case hr => first | (go_simp; done) | (go_simp; rfl)); intro F3 hg w8 hbox hb; have HB8 := Aside0.mk (below_step HB7.out hb); have KF2' := Aside0.mk (blk_below KF2.out hb); have KF3 := Aside0.mk hbox; have NF3 := Aside0.mk (show wr.heap.size ≤ F3 from (by rw [hg]; exact HB7.out.size)); have N23 := Aside0.mk (show F2 ≠ F3 from (by rw [hg]; exact Nat.ne_of_lt (blk_lt KF2.out))); have y2 : w8.cell? ⟨F2, 0, none⟩ = some (.int .i64 0) := (blk_cell KF2'.out 0).trans rfl; have y3 : w8.cell? ⟨F3, 0, none⟩ = some (.int .i64 0) := (blk_cell KF3.out 0).trans rfl; have g2 := blk_frozen KF2'.out 0; have g3 := blk_frozen KF3.out 0; have n23 := N23.out; have n32 := Ne.symm N23.out; clear hg hbox hb))
    have E2 : Aside0 (((w8.setCell ⟨F2, 0, none⟩ (.int .i64 (-1))).setCell ⟨F3, 0, none⟩ (.int .i64 0)).heap[F2]? = some (.cells #[.int .i64 (-1)] 3 (0, 0))) := ⟨blk_far (blk_put (cs := #[.int .i64 0]) KF2'.out 0 _ rfl) n23 _⟩
    have E3 : Aside0 (((w8.setCell ⟨F2, 0, none⟩ (.int .i64 (-1))).setCell ⟨F3, 0, none⟩ (.int .i64 0)).heap[F3]? = some (.cells #[.int .i64 0] 3 (0, 0))) := ⟨blk_put (cs := #[.int .i64 0]) (blk_far KF3.out n32 _) 0 _ rfl⟩
    have HBA : Aside0 (Below wr.heap.size wr ((w8.setCell ⟨F2, 0, none⟩ (.int .i64 (-1))).setCell ⟨F3, 0, none⟩ (.int .i64 0))) := ⟨below_set (below_set HB8.out NF2.out) NF3.out⟩
    clear KF2 KF2' KF3 HB7 HB8 y2 y3 g2 g3
    generalize ((w8.setCell ⟨F2, 0, none⟩ (.int .i64 (-1))).setCell ⟨F3, 0, none⟩ (.int .i64 0)) = wA at E2 E3 HBA ⊢
    have HSA := Aside0.mk (HST.out.kept HBA.out)
    have HBI := Aside0.mk (show BI L (some ad) c0 w.heap.size F1 F2 F3 v8 X wA [] from ⟨NF1.out, Nat.le_trans HST.out.below.size NF2.out, Nat.le_trans HST.out.below.size NF3.out, n23, HSA.out.below.size, blk_below HK.out HBA.out, E2.out, E3.out, Kd.R_below (Kd.R_mono (Kd.R_bound HRX.out) (fun k hk => ⟨by have := hk.2.2.1; have := NF2.out; omega, by have := hk.2.2.1; have := NF3.out; omega⟩)) HBA.out⟩)
    have HRE := Aside0.mk (impl_read_eachB HR0.out HCC.out.1 HR1.out HCC.out.2.1 HLS.out.1 HLS.out.2.1 HLS.out.2.2 HMR.out.1 HMR.out.2.1 HMR.out.2.2 (F1 := F1) (F2 := F2) (F3 := F3) [] (BI L (some ad) c0 w.heap.size F1 F2 F3 v8 X) (fun _ _ _ hi hk => hi.move hk) (fun w' h i o hs hi h0 h1 _ => impl_FormulasBest1_calls HR0.out hs h i o hi h0 h1) p wA PS.out HSA.out HBI.out)
    simp only [List.nil_append] at HRE
    clear HBI HSA E2 E3 HK HRX n23 n32
    go_upto_region 9 with (go_at_call 78; refine HRE.out.mono ?_; rintro e wB ⟨rfl, hst, hi⟩; have HSB := Aside0.mk hst; have HIB := Aside0.mk hi; clear hst hi)
    (try simp only [Act.put, List.setIfInBounds_toArray, List.set_cons_zero, List.set_cons_succ])
    have hk2 := HIB.out.k2
    rw [HB1.out] at hk2
    have KB2 := Aside0.mk hk2
    have c2 : wB.cell? ⟨F2, 0, none⟩ = some (.int .i64 b) := (blk_cell KB2.out 0).trans rfl
    have l2 : F2 < wB.heap.size := blk_lt KB2.out
    have l3 : F3 < wB.heap.size := blk_lt HIB.out.k3
    clear hk2
    go_upto_region 10 with ((with_reducible refine gate_builtin (b := .append) (xs := #[.tmp 35, .tmp 37]) rfl ?_); at_builtin; go_loud (refine Kd.R_append (Kd.int .i64) (w0 := w) w.heap.size rfl (.tmp 35) (.tmp 37) 46 3 (.int .i64 0) 8 rfl Try.underlying46 HI.out rfl (by decide) (by omega) v8 X b [.int .i64 b] (fun k => k ≠ F2 ∧ k ≠ F3) (fun _ => False) rfl rfl ?aP (fun _ hk => hk.elim) (fun k hk => ⟨by omega, by omega⟩) HIB.out.row HSB.out.below HSB.out.below.size (by omega) ?_); (case aP => exact rfl); intro v9 wC ho9 hb9 hg9 hat9; have HO9 := Aside0.mk (Kd.R_mono ho9 (fun _ _ => trivial) : Kd.R (Kd.int .i64) 3 wC w.heap.size (fun _ => True) v9 (X ++ [b])); have HB9 := Aside0.mk hb9; have HG9 := Aside0.mk hg9; clear ho9 hb9 hg9 hat9)
    (try simp only [Act.put, List.setIfInBounds_toArray, List.set_cons_zero, List.set_cons_succ])
    have KC1 := Aside0.mk (blk_grown HIB.out.k1 HG9.out (Kd.R_ne HIB.out.row HIB.out.k1 (by decide)))
    have KC2 := Aside0.mk (blk_grown KB2.out HG9.out (fun he => (HIB.out.row.1 F2 he.symm).1 rfl))
    have HSC : Aside0 (RdSt w wC L S (some ad) c0 A1 c1 R M) := ⟨by
     obtain ⟨Fm, hFm, hFm'⟩ := HSB.out.memo
     have hbw : w.heap.size ≤ wB.heap.size := HSB.out.below.size
     refine HSB.out.far HB9.out (HG9.out.block R (blk_lt HSB.out.blk) (Kd.R_ne HIB.out.row HSB.out.blk (by decide))) (HG9.out.block M hFm.lt (fun he => ?_))
     obtain ⟨_, _, _, q, _, cells, hc⟩ := (Kd.R_bound HIB.out.row).1 M he.symm
     obtain ⟨es, ck, hm, _⟩ := hFm
     rw [hm] at hc; cases hc⟩
    have c1_ : wC.cell? ⟨F1, 0, none⟩ = some (.slice (some ad) L.length c0) := (blk_cell KC1.out 0).trans rfl
    have c2_ : wC.cell? ⟨F2, 0, none⟩ = some (.int .i64 b) := (blk_cell KC2.out 0).trans rfl
    have u0_ := pw_cell_below HB9.out U0.out
    clear c2 l2 l3
    go_wp2
    go_roundg (S.length - (p + f.f0.length))
    case measure => exact NX.out.1
    case rel => exact ⟨p + f.f0.length, X ++ [b], _, rfl, by simp, ⟨rfl, NX.out.2⟩, HO9, KC1, HSC⟩
   ·
    have d1 : decide ((p : Int) < (S.length : Int)) = false := decide_eq_false hp
    have d2 : decide (p < S.length) = false := decide_eq_false (by omega)
    have hX : X = G := by
     have h1 := HXX.out.2.2.2.1
     have e : S.length - p = 0 := by omega
     rw [e] at h1
     simpa [bestGo] using h1
    subst hX
    clear hp
    go_wp2
    go_ret2
    exact ⟨_, rfl, HRX.out, HST.out.below⟩

mutual
def spec_l6fLeast.l0 : Nat → List (S55) → List Int → Bool → List Int → Int → Option (List Int)
 | 0, _, _, _, _, _ => none
 | k + 1, x0, x1, x2, x8, x9 => if x9 ≥ 0 then (if 0 ≤ x9 then (if x9 < (x8.length : Int) then (spec_l6fLeast.l1 k x0 x1 x2 (x8.set (x9 : Int).toNat (-1)) x9 0) else (none)) else (none)) else (some x8)
def spec_l6fLeast.l1 : Nat → List (S55) → List Int → Bool → List Int → Int → Int → Option (List Int)
 | 0, _, _, _, _, _, _ => none
 | k + 1, x0, x1, x2, x8, x9, x10 => if x10 < (x0.length : Int) then (if 0 ≤ x10 then ((spec_l6fAt.f k ((rd_T55 x0 x10).f0) ((rd_T55 x0 x10).f1) x1 x9).bind fun t197 => (if t197 = true then (if 0 ≤ (wrap64 (x9 + (((rd_T55 x0 x10).f0).length : Int))) then (if (wrap64 (x9 + (((rd_T55 x0 x10).f0).length : Int))) < (x8.length : Int) then (spec_l6fLeast.j2 k x0 x1 x2 x8 x9 x10 (decide ((rd x8 (wrap64 (x9 + (((rd_T55 x0 x10).f0).length : Int)))) < 0))) else (none)) else (none)) else (spec_l6fLeast.j2 k x0 x1 x2 x8 x9 x10 true))) else (none)) else (spec_l6fLeast.l0 k x0 x1 x2 x8 (wrap64 (x9 - 1)))
def spec_l6fLeast.j2 : Nat → List (S55) → List Int → Bool → List Int → Int → Int → Bool → Option (List Int)
 | 0, _, _, _, _, _, _, _ => none
 | k + 1, x0, x1, x2, x8, x9, x10, x53 => if x53 = true then (spec_l6fLeast.l1 k x0 x1 x2 x8 x9 (wrap64 (x10 + 1))) else (if 0 ≤ x10 then (if x10 < (x0.length : Int) then (if 0 ≤ (wrap64 (x9 + (((rd_T55 x0 x10).f0).length : Int))) then (if (wrap64 (x9 + (((rd_T55 x0 x10).f0).length : Int))) < (x8.length : Int) then (if x2 = true then (if 0 ≤ x9 then (if x9 < (x8.length : Int) then (if (rd x8 x9) < 0 then (spec_l6fLeast.l1 k x0 x1 x2 (x8.set (x9 : Int).toNat (wrap64 ((rd x8 (wrap64 (x9 + (((rd_T55 x0 x10).f0).length : Int)))) + 1))) x9 (wrap64 (x10 + 1))) else (if (wrap64 ((rd x8 (wrap64 (x9 + (((rd_T55 x0 x10).f0).length : Int)))) + 1)) < (rd x8 x9) then (spec_l6fLeast.l1 k x0 x1 x2 (x8.set (x9 : Int).toNat (wrap64 ((rd x8 (wrap64 (x9 + (((rd_T55 x0 x10).f0).length : Int)))) + 1))) x9 (wrap64 (x10 + 1))) else (spec_l6fLeast.l1 k x0 x1 x2 x8 x9 (wrap64 (x10 + 1))))) else (none)) else (none)) else (if 0 ≤ x9 then (if x9 < (x8.length : Int) then (if (rd x8 x9) < 0 then (spec_l6fLeast.l1 k x0 x1 x2 (x8.set (x9 : Int).toNat (wrap64 ((rd x8 (wrap64 (x9 + (((rd_T55 x0 x10).f0).length : Int)))) + ((rd_T55 x0 x10).f1)))) x9 (wrap64 (x10 + 1))) else (if (wrap64 ((rd x8 (wrap64 (x9 + (((rd_T55 x0 x10).f0).length : Int)))) + ((rd_T55 x0 x10).f1))) < (rd x8 x9) then (spec_l6fLeast.l1 k x0 x1 x2 (x8.set (x9 : Int).toNat (wrap64 ((rd x8 (wrap64 (x9 + (((rd_T55 x0 x10).f0).length : Int)))) + ((rd_T55 x0 x10).f1)))) x9 (wrap64 (x10 + 1))) else (spec_l6fLeast.l1 k x0 x1 x2 x8 x9 (wrap64 (x10 + 1))))) else (none)) else (none))) else (none)) else (none)) else (none)) else (none))
end
def spec_l6fLeast.f (k : Nat) (l0 : List (S55)) (l1 : List Int) (a2 : Bool) : Option (List Int) := if 0 ≤ (wrap64 ((l1.length : Int) + 1)) then (if (wrap64 ((l1.length : Int) + 1) : Int).toNat ≤ 35184372088832 then (spec_l6fLeast.l0 k l0 l1 a2 (List.replicate (wrap64 ((l1.length : Int) + 1) : Int).toNat 0) (wrap64 ((l1.length : Int) - 1))) else (none)) else (none)
set_option maxHeartbeats 8000000 in
set_option maxRecDepth 100000 in
theorem spec_l6fLeast.calls (k : Nat) (A0 : Option Addr) (c0 : Nat) (l0 : List (S55)) (A1 : Option Addr) (c1 : Nat) (l1 : List Int) (a2 : Bool) (r : List Int) (w : World) (hr0 : Kd.C k55 w A0 l0.length l0) (hc0 : l0.length ≤ c0) (hr1 : Kd.C (Kd.int .i64) w A1 l1.length l1) (hc1 : l1.length ≤ c1) (h : spec_l6fLeast.f k l0 l1 a2 = some r) :
  Calls Try.prog 82 #[.slice A0 l0.length c0, .slice A1 l1.length c1, .bool a2] w fun e w' => ∃ v0_ : Value, e = .returned (v0_) ∧ Kd.R (Kd.int .i64) 3 w' w.heap.size (fun _ => True) v0_ r ∧ Below w.heap.size w w' := by
 have hu55 := Try.underlying55
 have HR0 := Aside0.mk hr0
 have HC0 := Aside0.mk hc0
 clear hr0 hc0
 have HR1 := Aside0.mk hr1
 have HC1 := Aside0.mk hc1
 clear hr1 hc1
 have HB := Aside0.mk (Below.refl w.heap.size w)
 have H : (if 0 ≤ (wrap64 ((l1.length : Int) + 1)) then (if (wrap64 ((l1.length : Int) + 1) : Int).toNat ≤ 35184372088832 then (spec_l6fLeast.l0 k l0 l1 a2 (List.replicate (wrap64 ((l1.length : Int) + 1) : Int).toNat 0) (wrap64 ((l1.length : Int) - 1))) else (none)) else (none)) = some r := h
 clear h
 obtain ⟨ji4, hji4⟩ : ∃ j_ : Int, (wrap64 ((l1.length : Int) + 1)) = j_ := ⟨_, rfl⟩
 replace H : (if 0 ≤ (ji4) then (if (ji4 : Int).toNat ≤ 35184372088832 then (spec_l6fLeast.l0 k l0 l1 a2 (List.replicate (ji4 : Int).toNat 0) (wrap64 ((l1.length : Int) - 1))) else (none)) else (none)) = some r := by first | (rw [hji4] at H; exact H) | (simp only [hji4] at H ⊢; exact H)
 have hji4w : (IntKind.i64.wrap ((l1.length : Int) + 1)) = ji4 := (i64_w _).trans hji4
 by_cases c5 : 0 ≤ (ji4)
 ·
  rw [if_pos c5] at H
  have c5b0 := eq_true c5
  have c5b1 : decide (0 ≤ (ji4)) = true := decide_eq_true c5
  clear c5
  by_cases c6 : (ji4 : Int).toNat ≤ 35184372088832
  ·
   rw [if_pos c6] at H
   have c6b0 := eq_true c6
   have c6b1 : decide ((ji4 : Int).toNat ≤ 35184372088832) = true := decide_eq_true c6
   clear c6
   obtain ⟨y192, hy192⟩ : ∃ y_ : List Int, y_ = (List.replicate (ji4 : Int).toNat 0) := ⟨_, rfl⟩
   replace H : (spec_l6fLeast.l0 k l0 l1 a2 y192 (wrap64 ((l1.length : Int) - 1))) = some r := by first | (rw [hy192]; with_reducible exact H) | (have H2_ := (Option.bind_some _ _).symm.trans H; rw [hy192]; with_reducible exact H2_) | (have H2_ := (Option.bind_some _ _).symm.trans H; with_reducible exact H2_) | with_reducible exact H | (rw [hy192]; exact H) | exact H
   have Ny192 := Aside0.mk hy192
   clear hy192
   have H' := Aside0.mk H
   clear H
   go_enter Try.func82, Try.ntmps82
   go_wp2_with (first | ((with_reducible refine gate_dst (N := 16) rfl ?_); (try (refine gate_guard (by rfl) ?_; dsimp only)); refine Kd.R_make (Kd.int .i64) _ 3 rfl (N := 16) rfl 46 _ _ rfl ji4 rfl rfl Try.underlying46 (.int .i64 0) 8 info3 rfl (by decide) (by omega) 0 (ok := fun _ => True) (okp := fun _ => True) rfl (fun _ hk => hk) trivial (of_decide_eq_true (by first | (with_reducible assumption) | assumption)) (Nat.le_trans (Nat.mul_le_mul_right _ (of_decide_eq_true (by first | (with_reducible assumption) | assumption) : ji4.toNat ≤ 35184372088832)) (by omega)) (Below.refl _ _) (Nat.le_refl _) ?_; intro v193 w7 ho8 hb hg_ hnew_; clear hg_ hnew_; (first | rw [← Ny192.out] at ho8 | (simp only [Int.reduceToNat] at ho8; rw [← Ny192.out] at ho8)); have n0_ := Aside0.mk (Kd.R_lower ho8 (below_size (by repeat (first | (with_reducible first | exact HB.out | apply below_alloc | apply pw_below_drewN | apply below_drew1) | exact HB.out)))); have n1_ := Aside0.mk (below_step (by repeat (first | (with_reducible first | exact HB.out | apply below_alloc | apply pw_below_drewN | apply below_drew1) | exact HB.out)) hb); clear HB; have HO194 := n0_; have HB := n1_; clear n0_ n1_; clear hb ho8))
   repeat (go_quiet (first | ((with_reducible refine gate_dst (N := 16) rfl ?_); (try (refine gate_guard (by rfl) ?_; dsimp only)); refine Kd.R_make (Kd.int .i64) _ 3 rfl (N := 16) rfl 46 _ _ rfl ji4 rfl rfl Try.underlying46 (.int .i64 0) 8 info3 rfl (by decide) (by omega) 0 (ok := fun _ => True) (okp := fun _ => True) rfl (fun _ hk => hk) trivial (of_decide_eq_true (by first | (with_reducible assumption) | assumption)) (Nat.le_trans (Nat.mul_le_mul_right _ (of_decide_eq_true (by first | (with_reducible assumption) | assumption) : ji4.toNat ≤ 35184372088832)) (by omega)) (Below.refl _ _) (Nat.le_refl _) ?_; intro v193 w7 ho8 hb hg_ hnew_; clear hg_ hnew_; (first | rw [← Ny192.out] at ho8 | (simp only [Int.reduceToNat] at ho8; rw [← Ny192.out] at ho8)); have n0_ := Aside0.mk (Kd.R_lower ho8 (below_size (by repeat (first | (with_reducible first | exact HB.out | apply below_alloc | apply pw_below_drewN | apply below_drew1) | exact HB.out)))); have n1_ := Aside0.mk (below_step (by repeat (first | (with_reducible first | exact HB.out | apply below_alloc | apply pw_below_drewN | apply below_drew1) | exact HB.out)) hb); clear HB; have HO194 := n0_; have HB := n1_; clear n0_ n1_; clear hb ho8)); try go_wp2_with (first | ((with_reducible refine gate_dst (N := 16) rfl ?_); (try (refine gate_guard (by rfl) ?_; dsimp only)); refine Kd.R_make (Kd.int .i64) _ 3 rfl (N := 16) rfl 46 _ _ rfl ji4 rfl rfl Try.underlying46 (.int .i64 0) 8 info3 rfl (by decide) (by omega) 0 (ok := fun _ => True) (okp := fun _ => True) rfl (fun _ hk => hk) trivial (of_decide_eq_true (by first | (with_reducible assumption) | assumption)) (Nat.le_trans (Nat.mul_le_mul_right _ (of_decide_eq_true (by first | (with_reducible assumption) | assumption) : ji4.toNat ≤ 35184372088832)) (by omega)) (Below.refl _ _) (Nat.le_refl _) ?_; intro v193 w7 ho8 hb hg_ hnew_; clear hg_ hnew_; (first | rw [← Ny192.out] at ho8 | (simp only [Int.reduceToNat] at ho8; rw [← Ny192.out] at ho8)); have n0_ := Aside0.mk (Kd.R_lower ho8 (below_size (by repeat (first | (with_reducible first | exact HB.out | apply below_alloc | apply pw_below_drewN | apply below_drew1) | exact HB.out)))); have n1_ := Aside0.mk (below_step (by repeat (first | (with_reducible first | exact HB.out | apply below_alloc | apply pw_below_drewN | apply below_drew1) | exact HB.out)) hb); clear HB; have HO194 := n0_; have HB := n1_; clear n0_ n1_; clear hb ho8)))
   go_loopg [9] k (fun kq v9 w' => ∃ (x8_1 : List Int) (x9_1 : Int), v9 = .int .i64 x9_1 ∧ Aside0 (spec_l6fLeast.l0 kq l0 l1 a2 x8_1 x9_1 = some r) ∧ Aside0 (kq ≤ k) ∧ Aside0 (Kd.R (Kd.int .i64) 3 w' w.heap.size (fun _ => True) v193 x8_1) ∧ Aside0 (Below w.heap.size w w'))
   case atStart => exact ⟨(y192), (wrap64 ((l1.length : Int) - 1)), (by first | rfl | (simp; done) | (simp [*]; done)), H', ⟨Nat.le_refl _⟩, ⟨by (with_reducible repeat (first | apply Kd.R_alloc | apply Kd.R_drewN | apply Kd.R_drew)); exact HO194.out⟩, ⟨by repeat (first | (with_reducible first | exact HB.out | apply below_alloc | apply pw_below_drewN | apply below_drew1) | exact HB.out)⟩⟩
   case round =>
    clear H'
    try clear c1
    try clear p2
    try clear c5
    try clear c5b0
    try clear c5b1
    try clear c6
    try clear c6b0
    try clear c6b1
    try clear p6
    try clear c8
    obtain ⟨x8_1, x9_1, rfl, HA, HK1, HO_8, HB⟩ := hrel
    cases gk with
    | zero => exact absurd HA.out (by simp [spec_l6fLeast.l0])
    | succ k1 =>
     have H := HA.out
     clear HA
     simp only [spec_l6fLeast.l0] at H
     by_cases c9 : x9_1 ≥ 0
     ·
      rw [if_pos c9] at H
      have c9b0 : decide (0 ≤ x9_1) = true := decide_eq_true c9
      clear c9
      by_cases c10 : 0 ≤ x9_1
      ·
       rw [if_pos c10] at H
       have c10b0 : decide (0 ≤ x9_1) = true := decide_eq_true c10
       clear c10
       by_cases c11 : x9_1 < (x8_1.length : Int)
       ·
        rw [if_pos c11] at H
        have c11b0 : decide (x9_1 < (x8_1.length : Int)) = true := decide_eq_true c11
        clear c11
        obtain ⟨y195, hy195⟩ : ∃ y_ : List Int, y_ = (x8_1.set (x9_1 : Int).toNat (-1)) := ⟨_, rfl⟩
        replace H : (spec_l6fLeast.l1 k1 l0 l1 a2 y195 x9_1 0) = some r := by first | (rw [hy195]; with_reducible exact H) | (have H2_ := (Option.bind_some _ _).symm.trans H; rw [hy195]; with_reducible exact H2_) | (have H2_ := (Option.bind_some _ _).symm.trans H; with_reducible exact H2_) | with_reducible exact H | (rw [hy195]; exact H) | exact H
        have Ny195 := Aside0.mk hy195
        clear hy195
        have H' := Aside0.mk H
        clear H
        have p12 : 0 ≤ (x9_1 : Int) := of_decide_eq_true (by first | (with_reducible assumption) | assumption)
        have q12 : (x9_1 : Int) < ((x8_1.length : Int) : Int) := of_decide_eq_true (by first | (with_reducible assumption) | assumption)
        obtain ⟨go12, co12, eo12, gb12, gl12, cl12, HG12⟩ := Kd.R_form HO_8.out (by omega)
        (first | cases eo12 | (injection eo12 with ea_ en_ ec_; (first | subst ea_ | (injection ea_ with ea_; subst ea_)); subst ec_; clear en_))
        have GB12 := Aside0.mk gb12
        have GG12 := Aside0.mk HG12
        clear gb12 gl12 HG12
        obtain ⟨hx12_0, hf12_0⟩ := Kd.R_celln 0 HO_8.out (x9_1 : Int) p12 q12
        replace p12 := eq_true p12
        replace q12 := eq_true q12
        have HP13 := Kd.R_putg HO_8.out (x9_1 : Int) (-1)
        go_wp2_with (first | ((with_reducible refine gate_store (t := 3) (p := 25) rfl ?_); (try (rw [drewN_self wr]; generalize hq_ : World.drewN wr _ = wr; have n0_ := Aside0.mk (Kd.R_at hq_ HO_8.out); have n1_ := Aside0.mk (below_at hq_ HB.out); clear hq_ HO_8 HB; have HO_8 := n0_; have HB := n1_; clear n0_ n1_; (try (have HP13 := Kd.R_putg HO_8.out (x9_1 : Int) (-1))))); refine store_event (t := 3) (p := 25) (v := ?vo_w14) (w1 := (wr.setCell ⟨go12, (x9_1 : Int).toNat, none⟩ (.int .i64 (-1)))) ?hg ?ho ?hn ?hr ?_; (case ho => rfl); (case hg => rfl); (case hn => rfl); (case hr => first | (go_simp; done) | (go_simp; rfl)); intro w14 hw; have hg : wr.grownBy w14 (some go12) := (by rw [hw]; exact HP13.2); have hp_ : Kd.R (Kd.int .i64) 3 w14 w.heap.size (fun _ => True) (.slice (some ⟨go12, 0, none⟩) x8_1.length co12) y195 := (by rw [hw, Ny195.out]; exact HP13.1); clear HP13; have n0_ := Aside0.mk (hp_); have n1_ := Aside0.mk ((by rw [hw]; exact below_set (HB.out) GB12.out : Below w.heap.size w w14)); clear HO_8; clear HB; have HO_8 := n0_; have HB := n1_; clear n0_ n1_; clear hg hw hp_))
        repeat (go_quiet (first | ((with_reducible refine gate_store (t := 3) (p := 25) rfl ?_); (try (rw [drewN_self wr]; generalize hq_ : World.drewN wr _ = wr; have n0_ := Aside0.mk (Kd.R_at hq_ HO_8.out); have n1_ := Aside0.mk (below_at hq_ HB.out); clear hq_ HO_8 HB; have HO_8 := n0_; have HB := n1_; clear n0_ n1_; (try (have HP13 := Kd.R_putg HO_8.out (x9_1 : Int) (-1))))); refine store_event (t := 3) (p := 25) (v := ?vo_w14) (w1 := (wr.setCell ⟨go12, (x9_1 : Int).toNat, none⟩ (.int .i64 (-1)))) ?hg ?ho ?hn ?hr ?_; (case ho => rfl); (case hg => rfl); (case hn => rfl); (case hr => first | (go_simp; done) | (go_simp; rfl)); intro w14 hw; have hg : wr.grownBy w14 (some go12) := (by rw [hw]; exact HP13.2); have hp_ : Kd.R (Kd.int .i64) 3 w14 w.heap.size (fun _ => True) (.slice (some ⟨go12, 0, none⟩) x8_1.length co12) y195 := (by rw [hw, Ny195.out]; exact HP13.1); clear HP13; have n0_ := Aside0.mk (hp_); have n1_ := Aside0.mk ((by rw [hw]; exact below_set (HB.out) GB12.out : Below w.heap.size w w14)); clear HO_8; clear HB; have HO_8 := n0_; have HB := n1_; clear n0_ n1_; clear hg hw hp_)); try go_wp2_with (first | ((with_reducible refine gate_store (t := 3) (p := 25) rfl ?_); (try (rw [drewN_self wr]; generalize hq_ : World.drewN wr _ = wr; have n0_ := Aside0.mk (Kd.R_at hq_ HO_8.out); have n1_ := Aside0.mk (below_at hq_ HB.out); clear hq_ HO_8 HB; have HO_8 := n0_; have HB := n1_; clear n0_ n1_; (try (have HP13 := Kd.R_putg HO_8.out (x9_1 : Int) (-1))))); refine store_event (t := 3) (p := 25) (v := ?vo_w14) (w1 := (wr.setCell ⟨go12, (x9_1 : Int).toNat, none⟩ (.int .i64 (-1)))) ?hg ?ho ?hn ?hr ?_; (case ho => rfl); (case hg => rfl); (case hn => rfl); (case hr => first | (go_simp; done) | (go_simp; rfl)); intro w14 hw; have hg : wr.grownBy w14 (some go12) := (by rw [hw]; exact HP13.2); have hp_ : Kd.R (Kd.int .i64) 3 w14 w.heap.size (fun _ => True) (.slice (some ⟨go12, 0, none⟩) x8_1.length co12) y195 := (by rw [hw, Ny195.out]; exact HP13.1); clear HP13; have n0_ := Aside0.mk (hp_); have n1_ := Aside0.mk ((by rw [hw]; exact below_set (HB.out) GB12.out : Below w.heap.size w w14)); clear HO_8; clear HB; have HO_8 := n0_; have HB := n1_; clear n0_ n1_; clear hg hw hp_)))
        go_loopg [10] k1 (fun kq v10 w' => ∃ (x8_2 : List Int) (x10_2 : Int), v10 = .int .i64 x10_2 ∧ Aside0 (spec_l6fLeast.l1 kq l0 l1 a2 x8_2 x9_1 x10_2 = some r) ∧ Aside0 (kq ≤ k1) ∧ Aside0 (Kd.R (Kd.int .i64) 3 w' w.heap.size (fun _ => True) (.slice (some ⟨go12, 0, none⟩) x8_1.length co12) x8_2) ∧ Aside0 (Below w.heap.size w w'))
        case atStart => exact ⟨(y195), (0), (by first | rfl | (simp; done) | (simp [*]; done)), H', ⟨Nat.le_refl _⟩, ⟨by (with_reducible repeat (first | apply Kd.R_alloc | apply Kd.R_drewN | apply Kd.R_drew)); exact HO_8.out⟩, ⟨by repeat (first | (with_reducible first | exact HB.out | apply below_alloc | apply pw_below_drewN | apply below_drew1) | exact HB.out)⟩⟩
        case round =>
         clear H'
         try clear c1
         try clear p1
         try clear q1
         try clear hx1
         try clear p2
         try clear c5
         try clear c5b0
         try clear c5b1
         try clear c6
         try clear c6b0
         try clear c6b1
         try clear p6
         try clear c8
         try clear c9
         try clear c9b0
         try clear c10
         try clear c10b0
         try clear c11
         try clear c11b0
         try clear p12
         try clear q12
         try clear hx12
         try clear hf12
         try clear hx12_0
         try clear p12
         try clear p2
         try clear p6
         try clear q12
         obtain ⟨x8_2, x10_2, rfl, HA, HK2, HO_8, HB⟩ := hrel
         have hl8_2 := (Kd.R_reads' HO_8.out).1
         rw [hl8_2] at HO_8
         (try simp only [hl8_2])
         cases gk with
         | zero => exact absurd HA.out (by simp [spec_l6fLeast.l1])
         | succ k2 =>
          have H := HA.out
          clear HA
          simp only [spec_l6fLeast.l1] at H
          by_cases c15 : x10_2 < (l0.length : Int)
          ·
           rw [if_pos c15] at H
           have c15b0 : decide (x10_2 < (l0.length : Int)) = true := decide_eq_true c15
           clear c15
           have HC16 := Aside0.mk H
           clear H
           go_upto_region 10 with (fail)
           repeat (go_quiet (fail); go_upto_region 10 with (fail))
           go_cut [53] (fun v53 wc => ∃ (kq : Nat) (x53_15 : Bool), v53 = .bool x53_15 ∧ Aside0 (spec_l6fLeast.j2 kq l0 l1 a2 x8_2 x9_1 x10_2 x53_15 = some r) ∧ Aside0 (kq ≤ k2) ∧ Aside0 (Kd.R (Kd.int .i64) 3 wc w.heap.size (fun _ => True) (.slice (some ⟨go12, 0, none⟩) x8_2.length co12) x8_2) ∧ Aside0 (Below w.heap.size w wc))
           case first =>
            have H := HC16.out
            clear HC16
            by_cases c17 : 0 ≤ x10_2
            ·
             rw [if_pos c17] at H
             have c17b0 : decide (0 ≤ x10_2) = true := decide_eq_true c17
             clear c17
             (first | rw [c17b0] | (simp only [i64_w, i32_w]; rw [c17b0]) | skip)
             replace H := Option.bind_eq_some_iff.mp H
             obtain ⟨t197, A180, H⟩ := H
             replace H : (if t197 = true then (if 0 ≤ (wrap64 (x9_1 + (((rd_T55 l0 x10_2).f0).length : Int))) then (if (wrap64 (x9_1 + (((rd_T55 l0 x10_2).f0).length : Int))) < (x8_2.length : Int) then (spec_l6fLeast.j2 k2 l0 l1 a2 x8_2 x9_1 x10_2 (decide ((rd x8_2 (wrap64 (x9_1 + (((rd_T55 l0 x10_2).f0).length : Int)))) < 0))) else (none)) else (none)) else (spec_l6fLeast.j2 k2 l0 l1 a2 x8_2 x9_1 x10_2 true)) = some r := H
             have A18 := Aside0.mk A180
             clear A180
             by_cases c19 : t197 = true
             ·
              subst c19
              have H1 : (if 0 ≤ (wrap64 (x9_1 + (((rd_T55 l0 x10_2).f0).length : Int))) then (if (wrap64 (x9_1 + (((rd_T55 l0 x10_2).f0).length : Int))) < (x8_2.length : Int) then (spec_l6fLeast.j2 k2 l0 l1 a2 x8_2 x9_1 x10_2 (decide ((rd x8_2 (wrap64 (x9_1 + (((rd_T55 l0 x10_2).f0).length : Int)))) < 0))) else (none)) else (none)) = some r := by rw [if_pos rfl] at H; exact H
              clear H
              have H := H1
              clear H1
              obtain ⟨ji20, hji20⟩ : ∃ j_ : Int, (wrap64 (x9_1 + (((rd_T55 l0 x10_2).f0).length : Int))) = j_ := ⟨_, rfl⟩
              replace H : (if 0 ≤ (ji20) then (if (ji20) < (x8_2.length : Int) then (spec_l6fLeast.j2 k2 l0 l1 a2 x8_2 x9_1 x10_2 (decide ((rd x8_2 (ji20)) < 0))) else (none)) else (none)) = some r := by first | (rw [hji20] at H; exact H) | (simp only [hji20] at H ⊢; exact H)
              (try rw [hji20] at A18)
              have hji20w : (IntKind.i64.wrap (x9_1 + (((rd_T55 l0 x10_2).f0).length : Int))) = ji20 := (i64_w _).trans hji20
              by_cases c21 : 0 ≤ (ji20)
              ·
               rw [if_pos c21] at H
               have c21b0 : decide (0 ≤ (ji20)) = true := decide_eq_true c21
               clear c21
               by_cases c22 : (ji20) < (x8_2.length : Int)
               ·
                rw [if_pos c22] at H
                have c22b0 : decide ((ji20) < (x8_2.length : Int)) = true := decide_eq_true c22
                clear c22
                have H' := Aside0.mk H
                clear H
                have p196 : 0 ≤ (x10_2 : Int) := of_decide_eq_true (by first | (with_reducible assumption) | assumption)
                have q196 : x10_2 < (l0.length : Int) := of_decide_eq_true (by first | (with_reducible assumption) | assumption)
                obtain ⟨ad196, A196_0, c196_0, e196, hx196_0, hx196_1, hl196_0, hi196_0⟩ := at_T55 HR0.out x10_2 p196 q196
                cases e196
                replace hx196_0 := (HB.out.cell (World.block_lt_of_cell? w _ hx196_0)).trans hx196_0
                replace hx196_1 := (HB.out.cell (World.block_lt_of_cell? w _ hx196_1)).trans hx196_1
                have HR196_0 := Aside0.mk hi196_0
                have HC196_0 := Aside0.mk hl196_0
                clear hi196_0 hl196_0
                replace p196 := eq_true p196
                replace q196 := eq_true q196
                go_wp2_with (first | (go_at_call 83; (with_reducible refine (spec_l6fAt.calls k2 _ _ ((rd_T55 l0 x10_2).f0) ((rd_T55 l0 x10_2).f1) _ _ l1 x9_1 true _ ?side1 ?side2 ?side3 ?side4 A18.out).mono ?_); (case side1 => repeat (first | exact (Kd.C_below HR196_0.out HB.out) | (with_reducible refine Kd.C_alloc ?_ _) | (with_reducible refine Kd.C_drewN ?_ _) | (with_reducible refine Kd.C_drew ?_))); (case side2 => exact HC196_0.out); (case side3 => repeat (first | exact (Kd.C_below HR1.out HB.out) | (with_reducible refine Kd.C_alloc ?_ _) | (with_reducible refine Kd.C_drewN ?_ _) | (with_reducible refine Kd.C_drew ?_))); (case side4 => exact HC1.out); rintro e w23 ⟨rfl, hb⟩; have n0_ := Aside0.mk (Kd.R_below (by (with_reducible repeat (first | apply Kd.R_alloc | apply Kd.R_drewN | apply Kd.R_drew)); exact HO_8.out) hb); have n1_ := Aside0.mk (below_step (by repeat (first | (with_reducible first | exact HB.out | apply below_alloc | apply pw_below_drewN | apply below_drew1) | exact HB.out)) hb); clear HO_8; clear HB; have HO_8 := n0_; have HB := n1_; clear n0_ n1_; (try clear hb); (try clear hb2); (try clear hk); (try clear hi); have p198 : 0 ≤ (x10_2 : Int) := of_decide_eq_true (by first | (with_reducible assumption) | assumption); have q198 : x10_2 < (l0.length : Int) := of_decide_eq_true (by first | (with_reducible assumption) | assumption); obtain ⟨ad198, A198_0, c198_0, e198, hx198_0, hx198_1, hl198_0, hi198_0⟩ := at_T55 HR0.out x10_2 p198 q198; obtain rfl : ad196 = ad198 := (by injection e198); replace hx198_0 := (HB.out.cell (World.block_lt_of_cell? w _ hx198_0)).trans hx198_0; replace hx198_1 := (HB.out.cell (World.block_lt_of_cell? w _ hx198_1)).trans hx198_1; have HR198_0 := Aside0.mk hi198_0; have HC198_0 := Aside0.mk hl198_0; clear hi198_0 hl198_0; replace p198 := eq_true p198; replace q198 := eq_true q198; have p199 : 0 ≤ ((ji20) : Int) := of_decide_eq_true (by first | (with_reducible assumption) | assumption); have q199 : (ji20) < (x8_2.length : Int) := of_decide_eq_true (by first | (with_reducible assumption) | assumption); obtain ⟨ad199, e199, hx199_0⟩ := Kd.at_int (Kd.R_reads' HO_8.out).2.2 (ji20) p199 q199; obtain rfl : (⟨go12, 0, none⟩ : Addr) = ad199 := (by injection e199); (first | simp only [add_plain] at hx199_0 | simp only [add_at] at hx199_0 | simp only [Addr.add, Nat.zero_add] at hx199_0 | skip); replace p199 := eq_true p199; replace q199 := eq_true q199))
                repeat (go_quiet (first | (go_at_call 83; (with_reducible refine (spec_l6fAt.calls k2 _ _ ((rd_T55 l0 x10_2).f0) ((rd_T55 l0 x10_2).f1) _ _ l1 x9_1 true _ ?side1 ?side2 ?side3 ?side4 A18.out).mono ?_); (case side1 => repeat (first | exact (Kd.C_below HR196_0.out HB.out) | (with_reducible refine Kd.C_alloc ?_ _) | (with_reducible refine Kd.C_drewN ?_ _) | (with_reducible refine Kd.C_drew ?_))); (case side2 => exact HC196_0.out); (case side3 => repeat (first | exact (Kd.C_below HR1.out HB.out) | (with_reducible refine Kd.C_alloc ?_ _) | (with_reducible refine Kd.C_drewN ?_ _) | (with_reducible refine Kd.C_drew ?_))); (case side4 => exact HC1.out); rintro e w23 ⟨rfl, hb⟩; have n0_ := Aside0.mk (Kd.R_below (by (with_reducible repeat (first | apply Kd.R_alloc | apply Kd.R_drewN | apply Kd.R_drew)); exact HO_8.out) hb); have n1_ := Aside0.mk (below_step (by repeat (first | (with_reducible first | exact HB.out | apply below_alloc | apply pw_below_drewN | apply below_drew1) | exact HB.out)) hb); clear HO_8; clear HB; have HO_8 := n0_; have HB := n1_; clear n0_ n1_; (try clear hb); (try clear hb2); (try clear hk); (try clear hi); have p198 : 0 ≤ (x10_2 : Int) := of_decide_eq_true (by first | (with_reducible assumption) | assumption); have q198 : x10_2 < (l0.length : Int) := of_decide_eq_true (by first | (with_reducible assumption) | assumption); obtain ⟨ad198, A198_0, c198_0, e198, hx198_0, hx198_1, hl198_0, hi198_0⟩ := at_T55 HR0.out x10_2 p198 q198; obtain rfl : ad196 = ad198 := (by injection e198); replace hx198_0 := (HB.out.cell (World.block_lt_of_cell? w _ hx198_0)).trans hx198_0; replace hx198_1 := (HB.out.cell (World.block_lt_of_cell? w _ hx198_1)).trans hx198_1; have HR198_0 := Aside0.mk hi198_0; have HC198_0 := Aside0.mk hl198_0; clear hi198_0 hl198_0; replace p198 := eq_true p198; replace q198 := eq_true q198; have p199 : 0 ≤ ((ji20) : Int) := of_decide_eq_true (by first | (with_reducible assumption) | assumption); have q199 : (ji20) < (x8_2.length : Int) := of_decide_eq_true (by first | (with_reducible assumption) | assumption); obtain ⟨ad199, e199, hx199_0⟩ := Kd.at_int (Kd.R_reads' HO_8.out).2.2 (ji20) p199 q199; obtain rfl : (⟨go12, 0, none⟩ : Addr) = ad199 := (by injection e199); (first | simp only [add_plain] at hx199_0 | simp only [add_at] at hx199_0 | simp only [Addr.add, Nat.zero_add] at hx199_0 | skip); replace p199 := eq_true p199; replace q199 := eq_true q199)); try go_wp2_with (first | (go_at_call 83; (with_reducible refine (spec_l6fAt.calls k2 _ _ ((rd_T55 l0 x10_2).f0) ((rd_T55 l0 x10_2).f1) _ _ l1 x9_1 true _ ?side1 ?side2 ?side3 ?side4 A18.out).mono ?_); (case side1 => repeat (first | exact (Kd.C_below HR196_0.out HB.out) | (with_reducible refine Kd.C_alloc ?_ _) | (with_reducible refine Kd.C_drewN ?_ _) | (with_reducible refine Kd.C_drew ?_))); (case side2 => exact HC196_0.out); (case side3 => repeat (first | exact (Kd.C_below HR1.out HB.out) | (with_reducible refine Kd.C_alloc ?_ _) | (with_reducible refine Kd.C_drewN ?_ _) | (with_reducible refine Kd.C_drew ?_))); (case side4 => exact HC1.out); rintro e w23 ⟨rfl, hb⟩; have n0_ := Aside0.mk (Kd.R_below (by (with_reducible repeat (first | apply Kd.R_alloc | apply Kd.R_drewN | apply Kd.R_drew)); exact HO_8.out) hb); have n1_ := Aside0.mk (below_step (by repeat (first | (with_reducible first | exact HB.out | apply below_alloc | apply pw_below_drewN | apply below_drew1) | exact HB.out)) hb); clear HO_8; clear HB; have HO_8 := n0_; have HB := n1_; clear n0_ n1_; (try clear hb); (try clear hb2); (try clear hk); (try clear hi); have p198 : 0 ≤ (x10_2 : Int) := of_decide_eq_true (by first | (with_reducible assumption) | assumption); have q198 : x10_2 < (l0.length : Int) := of_decide_eq_true (by first | (with_reducible assumption) | assumption); obtain ⟨ad198, A198_0, c198_0, e198, hx198_0, hx198_1, hl198_0, hi198_0⟩ := at_T55 HR0.out x10_2 p198 q198; obtain rfl : ad196 = ad198 := (by injection e198); replace hx198_0 := (HB.out.cell (World.block_lt_of_cell? w _ hx198_0)).trans hx198_0; replace hx198_1 := (HB.out.cell (World.block_lt_of_cell? w _ hx198_1)).trans hx198_1; have HR198_0 := Aside0.mk hi198_0; have HC198_0 := Aside0.mk hl198_0; clear hi198_0 hl198_0; replace p198 := eq_true p198; replace q198 := eq_true q198; have p199 : 0 ≤ ((ji20) : Int) := of_decide_eq_true (by first | (with_reducible assumption) | assumption); have q199 : (ji20) < (x8_2.length : Int) := of_decide_eq_true (by first | (with_reducible assumption) | assumption); obtain ⟨ad199, e199, hx199_0⟩ := Kd.at_int (Kd.R_reads' HO_8.out).2.2 (ji20) p199 q199; obtain rfl : (⟨go12, 0, none⟩ : Addr) = ad199 := (by injection e199); (first | simp only [add_plain] at hx199_0 | simp only [add_at] at hx199_0 | simp only [Addr.add, Nat.zero_add] at hx199_0 | skip); replace p199 := eq_true p199; replace q199 := eq_true q199)))
                go_meet
                case rel => exact ⟨_, (decide ((rd x8_2 (ji20)) < 0)), (by first | rfl | (simp; done) | (simp only [← hji20] <;> (first | rfl | simp)) | (simp [*]; done)), H', ⟨by have := HK1.out; have := HK2.out; first | omega | exact Nat.le_refl _⟩, ⟨by (try simp only [hl8_2]); (with_reducible repeat (first | apply Kd.R_alloc | apply Kd.R_drewN | apply Kd.R_drew)); exact HO_8.out⟩, ⟨by repeat (first | (with_reducible first | exact HB.out | apply below_alloc | apply pw_below_drewN | apply below_drew1) | exact HB.out)⟩⟩
               ·
                rw [if_neg c22] at H
                exact absurd H (by simp)
              ·
               rw [if_neg c21] at H
               exact absurd H (by simp)
             ·
              replace c19 := Bool.eq_false_iff.mpr c19
              subst c19
              have H1 : (spec_l6fLeast.j2 k2 l0 l1 a2 x8_2 x9_1 x10_2 true) = some r := by rw [if_neg (show ¬ (false = true) by decide)] at H; exact H
              clear H
              have H := H1
              clear H1
              have H' := Aside0.mk H
              clear H
              have p196 : 0 ≤ (x10_2 : Int) := of_decide_eq_true (by first | (with_reducible assumption) | assumption)
              have q196 : x10_2 < (l0.length : Int) := of_decide_eq_true (by first | (with_reducible assumption) | assumption)
              obtain ⟨ad196, A196_0, c196_0, e196, hx196_0, hx196_1, hl196_0, hi196_0⟩ := at_T55 HR0.out x10_2 p196 q196
              cases e196
              replace hx196_0 := (HB.out.cell (World.block_lt_of_cell? w _ hx196_0)).trans hx196_0
              replace hx196_1 := (HB.out.cell (World.block_lt_of_cell? w _ hx196_1)).trans hx196_1
              have HR196_0 := Aside0.mk hi196_0
              have HC196_0 := Aside0.mk hl196_0
              clear hi196_0 hl196_0
              replace p196 := eq_true p196
              replace q196 := eq_true q196
              go_wp2_with (first | (go_at_call 83; (with_reducible refine (spec_l6fAt.calls k2 _ _ ((rd_T55 l0 x10_2).f0) ((rd_T55 l0 x10_2).f1) _ _ l1 x9_1 false _ ?side1 ?side2 ?side3 ?side4 A18.out).mono ?_); (case side1 => repeat (first | exact (Kd.C_below HR196_0.out HB.out) | (with_reducible refine Kd.C_alloc ?_ _) | (with_reducible refine Kd.C_drewN ?_ _) | (with_reducible refine Kd.C_drew ?_))); (case side2 => exact HC196_0.out); (case side3 => repeat (first | exact (Kd.C_below HR1.out HB.out) | (with_reducible refine Kd.C_alloc ?_ _) | (with_reducible refine Kd.C_drewN ?_ _) | (with_reducible refine Kd.C_drew ?_))); (case side4 => exact HC1.out); rintro e w24 ⟨rfl, hb⟩; have n0_ := Aside0.mk (Kd.R_below (by (with_reducible repeat (first | apply Kd.R_alloc | apply Kd.R_drewN | apply Kd.R_drew)); exact HO_8.out) hb); have n1_ := Aside0.mk (below_step (by repeat (first | (with_reducible first | exact HB.out | apply below_alloc | apply pw_below_drewN | apply below_drew1) | exact HB.out)) hb); clear HO_8; clear HB; have HO_8 := n0_; have HB := n1_; clear n0_ n1_; (try clear hb); (try clear hb2); (try clear hk); (try clear hi)))
              repeat (go_quiet (first | (go_at_call 83; (with_reducible refine (spec_l6fAt.calls k2 _ _ ((rd_T55 l0 x10_2).f0) ((rd_T55 l0 x10_2).f1) _ _ l1 x9_1 false _ ?side1 ?side2 ?side3 ?side4 A18.out).mono ?_); (case side1 => repeat (first | exact (Kd.C_below HR196_0.out HB.out) | (with_reducible refine Kd.C_alloc ?_ _) | (with_reducible refine Kd.C_drewN ?_ _) | (with_reducible refine Kd.C_drew ?_))); (case side2 => exact HC196_0.out); (case side3 => repeat (first | exact (Kd.C_below HR1.out HB.out) | (with_reducible refine Kd.C_alloc ?_ _) | (with_reducible refine Kd.C_drewN ?_ _) | (with_reducible refine Kd.C_drew ?_))); (case side4 => exact HC1.out); rintro e w24 ⟨rfl, hb⟩; have n0_ := Aside0.mk (Kd.R_below (by (with_reducible repeat (first | apply Kd.R_alloc | apply Kd.R_drewN | apply Kd.R_drew)); exact HO_8.out) hb); have n1_ := Aside0.mk (below_step (by repeat (first | (with_reducible first | exact HB.out | apply below_alloc | apply pw_below_drewN | apply below_drew1) | exact HB.out)) hb); clear HO_8; clear HB; have HO_8 := n0_; have HB := n1_; clear n0_ n1_; (try clear hb); (try clear hb2); (try clear hk); (try clear hi))); try go_wp2_with (first | (go_at_call 83; (with_reducible refine (spec_l6fAt.calls k2 _ _ ((rd_T55 l0 x10_2).f0) ((rd_T55 l0 x10_2).f1) _ _ l1 x9_1 false _ ?side1 ?side2 ?side3 ?side4 A18.out).mono ?_); (case side1 => repeat (first | exact (Kd.C_below HR196_0.out HB.out) | (with_reducible refine Kd.C_alloc ?_ _) | (with_reducible refine Kd.C_drewN ?_ _) | (with_reducible refine Kd.C_drew ?_))); (case side2 => exact HC196_0.out); (case side3 => repeat (first | exact (Kd.C_below HR1.out HB.out) | (with_reducible refine Kd.C_alloc ?_ _) | (with_reducible refine Kd.C_drewN ?_ _) | (with_reducible refine Kd.C_drew ?_))); (case side4 => exact HC1.out); rintro e w24 ⟨rfl, hb⟩; have n0_ := Aside0.mk (Kd.R_below (by (with_reducible repeat (first | apply Kd.R_alloc | apply Kd.R_drewN | apply Kd.R_drew)); exact HO_8.out) hb); have n1_ := Aside0.mk (below_step (by repeat (first | (with_reducible first | exact HB.out | apply below_alloc | apply pw_below_drewN | apply below_drew1) | exact HB.out)) hb); clear HO_8; clear HB; have HO_8 := n0_; have HB := n1_; clear n0_ n1_; (try clear hb); (try clear hb2); (try clear hk); (try clear hi))))
              go_meet
              case rel => exact ⟨_, (true), (by first | rfl | (simp; done) | (simp [*]; done)), H', ⟨by have := HK1.out; have := HK2.out; first | omega | exact Nat.le_refl _⟩, ⟨by (try simp only [hl8_2]); (with_reducible repeat (first | apply Kd.R_alloc | apply Kd.R_drewN | apply Kd.R_drew)); exact HO_8.out⟩, ⟨by repeat (first | (with_reducible first | exact HB.out | apply below_alloc | apply pw_below_drewN | apply below_drew1) | exact HB.out)⟩⟩
            ·
             rw [if_neg c17] at H
             exact absurd H (by simp)
           case rest =>
            clear HC16
            try clear c1
            try clear p1
            try clear q1
            try clear hx1
            try clear c2
            try clear p2
            try clear c5
            try clear c5b0
            try clear c5b1
            try clear c6
            try clear c6b0
            try clear c6b1
            try clear p6
            try clear c8
            try clear c9
            try clear c9b0
            try clear c10
            try clear c10b0
            try clear c11
            try clear c11b0
            try clear p12
            try clear q12
            try clear hx12
            try clear hf12
            try clear c15
            try clear c15b0
            try clear c17
            try clear c17b0
            try clear c19
            try clear p19
            try clear q19
            try clear hx19
            try clear c21
            try clear c21b0
            try clear c22
            try clear c22b0
            try clear hx12_0
            try clear hx196_0
            try clear hx196_1
            try clear hx198_0
            try clear hx198_1
            try clear hx199_0
            try clear p1
            try clear p12
            try clear p196
            try clear p198
            try clear p199
            try clear p2
            try clear p6
            try clear q1
            try clear q12
            try clear q196
            try clear q198
            try clear q199
            obtain ⟨kq, x53_15, rfl, HA, HJ15, HO_8, HB⟩ := hcut
            cases kq with
            | zero => exact absurd HA.out (by simp [spec_l6fLeast.j2])
            | succ kj15 =>
             have H := HA.out
             clear HA
             simp only [spec_l6fLeast.j2] at H
             by_cases c25 : x53_15 = true
             ·
              subst c25
              have H1 : (spec_l6fLeast.l1 kj15 l0 l1 a2 x8_2 x9_1 (wrap64 (x10_2 + 1))) = some r := by rw [if_pos rfl] at H; exact H
              clear H
              have H := H1
              clear H1
              have H' := Aside0.mk H
              clear H
              go_wp2
              repeat (go_quiet (fail); try go_wp2)
              (try simp only [← hl8_2])
              go_roundg kj15
              case measure => have := HK1.out; have := HK2.out; have := HJ15.out; omega
              case rel => exact ⟨(x8_2), (wrap64 (x10_2 + 1)), (by first | rfl | (simp; done) | (simp [*]; done)), H', ⟨by have := HK1.out; have := HK2.out; have := HJ15.out; omega⟩, ⟨by (try simp only [hl8_2]); (with_reducible repeat (first | apply Kd.R_alloc | apply Kd.R_drewN | apply Kd.R_drew)); exact HO_8.out⟩, ⟨by repeat (first | (with_reducible first | exact HB.out | apply below_alloc | apply pw_below_drewN | apply below_drew1) | exact HB.out)⟩⟩
             ·
              replace c25 := Bool.eq_false_iff.mpr c25
              subst c25
              have H1 : (if 0 ≤ x10_2 then (if x10_2 < (l0.length : Int) then (if 0 ≤ (wrap64 (x9_1 + (((rd_T55 l0 x10_2).f0).length : Int))) then (if (wrap64 (x9_1 + (((rd_T55 l0 x10_2).f0).length : Int))) < (x8_2.length : Int) then (if a2 = true then (if 0 ≤ x9_1 then (if x9_1 < (x8_2.length : Int) then (if (rd x8_2 x9_1) < 0 then (spec_l6fLeast.l1 kj15 l0 l1 a2 (x8_2.set (x9_1 : Int).toNat (wrap64 ((rd x8_2 (wrap64 (x9_1 + (((rd_T55 l0 x10_2).f0).length : Int)))) + 1))) x9_1 (wrap64 (x10_2 + 1))) else (if (wrap64 ((rd x8_2 (wrap64 (x9_1 + (((rd_T55 l0 x10_2).f0).length : Int)))) + 1)) < (rd x8_2 x9_1) then (spec_l6fLeast.l1 kj15 l0 l1 a2 (x8_2.set (x9_1 : Int).toNat (wrap64 ((rd x8_2 (wrap64 (x9_1 + (((rd_T55 l0 x10_2).f0).length : Int)))) + 1))) x9_1 (wrap64 (x10_2 + 1))) else (spec_l6fLeast.l1 kj15 l0 l1 a2 x8_2 x9_1 (wrap64 (x10_2 + 1))))) else (none)) else (none)) else (if 0 ≤ x9_1 then (if x9_1 < (x8_2.length : Int) then (if (rd x8_2 x9_1) < 0 then (spec_l6fLeast.l1 kj15 l0 l1 a2 (x8_2.set (x9_1 : Int).toNat (wrap64 ((rd x8_2 (wrap64 (x9_1 + (((rd_T55 l0 x10_2).f0).length : Int)))) + ((rd_T55 l0 x10_2).f1)))) x9_1 (wrap64 (x10_2 + 1))) else (if (wrap64 ((rd x8_2 (wrap64 (x9_1 + (((rd_T55 l0 x10_2).f0).length : Int)))) + ((rd_T55 l0 x10_2).f1))) < (rd x8_2 x9_1) then (spec_l6fLeast.l1 kj15 l0 l1 a2 (x8_2.set (x9_1 : Int).toNat (wrap64 ((rd x8_2 (wrap64 (x9_1 + (((rd_T55 l0 x10_2).f0).length : Int)))) + ((rd_T55 l0 x10_2).f1)))) x9_1 (wrap64 (x10_2 + 1))) else (spec_l6fLeast.l1 kj15 l0 l1 a2 x8_2 x9_1 (wrap64 (x10_2 + 1))))) else (none)) else (none))) else (none)) else (none)) else (none)) else (none)) = some r := by rw [if_neg (show ¬ (false = true) by decide)] at H; exact H
              clear H
              have H := H1
              clear H1
              by_cases c26 : 0 ≤ x10_2
              ·
               rw [if_pos c26] at H
               have c26b0 : decide (0 ≤ x10_2) = true := decide_eq_true c26
               clear c26
               by_cases c27 : x10_2 < (l0.length : Int)
               ·
                rw [if_pos c27] at H
                have c27b0 : decide (x10_2 < (l0.length : Int)) = true := decide_eq_true c27
                clear c27
                obtain ⟨ji28, hji28⟩ : ∃ j_ : Int, (wrap64 (x9_1 + (((rd_T55 l0 x10_2).f0).length : Int))) = j_ := ⟨_, rfl⟩
                replace H : (if 0 ≤ (ji28) then (if (ji28) < (x8_2.length : Int) then (if a2 = true then (if 0 ≤ x9_1 then (if x9_1 < (x8_2.length : Int) then (if (rd x8_2 x9_1) < 0 then (spec_l6fLeast.l1 kj15 l0 l1 a2 (x8_2.set (x9_1 : Int).toNat (wrap64 ((rd x8_2 (ji28)) + 1))) x9_1 (wrap64 (x10_2 + 1))) else (if (wrap64 ((rd x8_2 (ji28)) + 1)) < (rd x8_2 x9_1) then (spec_l6fLeast.l1 kj15 l0 l1 a2 (x8_2.set (x9_1 : Int).toNat (wrap64 ((rd x8_2 (ji28)) + 1))) x9_1 (wrap64 (x10_2 + 1))) else (spec_l6fLeast.l1 kj15 l0 l1 a2 x8_2 x9_1 (wrap64 (x10_2 + 1))))) else (none)) else (none)) else (if 0 ≤ x9_1 then (if x9_1 < (x8_2.length : Int) then (if (rd x8_2 x9_1) < 0 then (spec_l6fLeast.l1 kj15 l0 l1 a2 (x8_2.set (x9_1 : Int).toNat (wrap64 ((rd x8_2 (ji28)) + ((rd_T55 l0 x10_2).f1)))) x9_1 (wrap64 (x10_2 + 1))) else (if (wrap64 ((rd x8_2 (ji28)) + ((rd_T55 l0 x10_2).f1))) < (rd x8_2 x9_1) then (spec_l6fLeast.l1 kj15 l0 l1 a2 (x8_2.set (x9_1 : Int).toNat (wrap64 ((rd x8_2 (ji28)) + ((rd_T55 l0 x10_2).f1)))) x9_1 (wrap64 (x10_2 + 1))) else (spec_l6fLeast.l1 kj15 l0 l1 a2 x8_2 x9_1 (wrap64 (x10_2 + 1))))) else (none)) else (none))) else (none)) else (none)) = some r := by first | (rw [hji28] at H; exact H) | (simp only [hji28] at H ⊢; exact H)
                have hji28w : (IntKind.i64.wrap (x9_1 + (((rd_T55 l0 x10_2).f0).length : Int))) = ji28 := (i64_w _).trans hji28
                by_cases c29 : 0 ≤ (ji28)
                ·
                 rw [if_pos c29] at H
                 have c29b0 : decide (0 ≤ (ji28)) = true := decide_eq_true c29
                 clear c29
                 by_cases c30 : (ji28) < (x8_2.length : Int)
                 ·
                  rw [if_pos c30] at H
                  have c30b0 : decide ((ji28) < (x8_2.length : Int)) = true := decide_eq_true c30
                  clear c30
                  by_cases c31 : a2 = true
                  ·
                   subst c31
                   have H1 : (if 0 ≤ x9_1 then (if x9_1 < (x8_2.length : Int) then (if (rd x8_2 x9_1) < 0 then (spec_l6fLeast.l1 kj15 l0 l1 true (x8_2.set (x9_1 : Int).toNat (wrap64 ((rd x8_2 (ji28)) + 1))) x9_1 (wrap64 (x10_2 + 1))) else (if (wrap64 ((rd x8_2 (ji28)) + 1)) < (rd x8_2 x9_1) then (spec_l6fLeast.l1 kj15 l0 l1 true (x8_2.set (x9_1 : Int).toNat (wrap64 ((rd x8_2 (ji28)) + 1))) x9_1 (wrap64 (x10_2 + 1))) else (spec_l6fLeast.l1 kj15 l0 l1 true x8_2 x9_1 (wrap64 (x10_2 + 1))))) else (none)) else (none)) = some r := by rw [if_pos rfl] at H; exact H
                   clear H
                   have H := H1
                   clear H1
                   by_cases c32 : 0 ≤ x9_1
                   ·
                    rw [if_pos c32] at H
                    have c32b0 : decide (0 ≤ x9_1) = true := decide_eq_true c32
                    clear c32
                    by_cases c33 : x9_1 < (x8_2.length : Int)
                    ·
                     rw [if_pos c33] at H
                     have c33b0 : decide (x9_1 < (x8_2.length : Int)) = true := decide_eq_true c33
                     clear c33
                     by_cases c34 : (rd x8_2 x9_1) < 0
                     ·
                      rw [if_pos c34] at H
                      have c34b0 : decide ((rd x8_2 x9_1) < 0) = true := decide_eq_true c34
                      clear c34
                      obtain ⟨y206, hy206⟩ : ∃ y_ : List Int, y_ = (x8_2.set (x9_1 : Int).toNat (wrap64 ((rd x8_2 (ji28)) + 1))) := ⟨_, rfl⟩
                      replace H : (spec_l6fLeast.l1 kj15 l0 l1 true y206 x9_1 (wrap64 (x10_2 + 1))) = some r := by first | (rw [hy206]; with_reducible exact H) | (have H2_ := (Option.bind_some _ _).symm.trans H; rw [hy206]; with_reducible exact H2_) | (have H2_ := (Option.bind_some _ _).symm.trans H; with_reducible exact H2_) | with_reducible exact H | (rw [hy206]; exact H) | exact H
                      have Ny206 := Aside0.mk hy206
                      clear hy206
                      have H' := Aside0.mk H
                      clear H
                      have p200 : 0 ≤ (x10_2 : Int) := of_decide_eq_true (by first | (with_reducible assumption) | assumption)
                      have q200 : x10_2 < (l0.length : Int) := of_decide_eq_true (by first | (with_reducible assumption) | assumption)
                      obtain ⟨ad200, A200_0, c200_0, e200, hx200_0, hx200_1, hl200_0, hi200_0⟩ := at_T55 HR0.out x10_2 p200 q200
                      cases e200
                      replace hx200_0 := (HB.out.cell (World.block_lt_of_cell? w _ hx200_0)).trans hx200_0
                      replace hx200_1 := (HB.out.cell (World.block_lt_of_cell? w _ hx200_1)).trans hx200_1
                      have HR200_0 := Aside0.mk hi200_0
                      have HC200_0 := Aside0.mk hl200_0
                      clear hi200_0 hl200_0
                      replace p200 := eq_true p200
                      replace q200 := eq_true q200
                      have p201 : 0 ≤ ((ji28) : Int) := of_decide_eq_true (by first | (with_reducible assumption) | assumption)
                      have q201 : (ji28) < (x8_2.length : Int) := of_decide_eq_true (by first | (with_reducible assumption) | assumption)
                      obtain ⟨ad201, e201, hx201_0⟩ := Kd.at_int (Kd.R_reads' HO_8.out).2.2 (ji28) p201 q201
                      obtain rfl : (⟨go12, 0, none⟩ : Addr) = ad201 := (by injection e201)
                      (first | simp only [add_plain] at hx201_0 | simp only [add_at] at hx201_0 | simp only [Addr.add, Nat.zero_add] at hx201_0 | skip)
                      replace p201 := eq_true p201
                      replace q201 := eq_true q201
                      have p202 : 0 ≤ (x10_2 : Int) := of_decide_eq_true (by first | (with_reducible assumption) | assumption)
                      have q202 : x10_2 < (l0.length : Int) := of_decide_eq_true (by first | (with_reducible assumption) | assumption)
                      obtain ⟨ad202, A202_0, c202_0, e202, hx202_0, hx202_1, hl202_0, hi202_0⟩ := at_T55 HR0.out x10_2 p202 q202
                      obtain rfl : ad200 = ad202 := (by injection e202)
                      replace hx202_0 := (HB.out.cell (World.block_lt_of_cell? w _ hx202_0)).trans hx202_0
                      replace hx202_1 := (HB.out.cell (World.block_lt_of_cell? w _ hx202_1)).trans hx202_1
                      have HR202_0 := Aside0.mk hi202_0
                      have HC202_0 := Aside0.mk hl202_0
                      clear hi202_0 hl202_0
                      replace p202 := eq_true p202
                      replace q202 := eq_true q202
                      have ea_ := Option.some.inj (hx200_0.symm.trans hx202_0)
                      injection ea_ with ea_ en_ ec_
                      subst ea_
                      subst ec_
                      clear en_
                      have p203 : 0 ≤ (x10_2 : Int) := of_decide_eq_true (by first | (with_reducible assumption) | assumption)
                      have q203 : x10_2 < (l0.length : Int) := of_decide_eq_true (by first | (with_reducible assumption) | assumption)
                      obtain ⟨ad203, A203_0, c203_0, e203, hx203_0, hx203_1, hl203_0, hi203_0⟩ := at_T55 HR0.out x10_2 p203 q203
                      obtain rfl : ad200 = ad203 := (by injection e203)
                      replace hx203_0 := (HB.out.cell (World.block_lt_of_cell? w _ hx203_0)).trans hx203_0
                      replace hx203_1 := (HB.out.cell (World.block_lt_of_cell? w _ hx203_1)).trans hx203_1
                      have HR203_0 := Aside0.mk hi203_0
                      have HC203_0 := Aside0.mk hl203_0
                      clear hi203_0 hl203_0
                      replace p203 := eq_true p203
                      replace q203 := eq_true q203
                      have ea_ := Option.some.inj (hx200_0.symm.trans hx203_0)
                      injection ea_ with ea_ en_ ec_
                      subst ea_
                      subst ec_
                      clear en_
                      have p204 : 0 ≤ ((ji28) : Int) := of_decide_eq_true (by first | (with_reducible assumption) | assumption)
                      have q204 : (ji28) < (x8_2.length : Int) := of_decide_eq_true (by first | (with_reducible assumption) | assumption)
                      obtain ⟨ad204, e204, hx204_0⟩ := Kd.at_int (Kd.R_reads' HO_8.out).2.2 (ji28) p204 q204
                      obtain rfl : (⟨go12, 0, none⟩ : Addr) = ad204 := (by injection e204)
                      (first | simp only [add_plain] at hx204_0 | simp only [add_at] at hx204_0 | simp only [Addr.add, Nat.zero_add] at hx204_0 | skip)
                      replace p204 := eq_true p204
                      replace q204 := eq_true q204
                      have p205 : 0 ≤ (x9_1 : Int) := of_decide_eq_true (by first | (with_reducible assumption) | assumption)
                      have q205 : x9_1 < (x8_2.length : Int) := of_decide_eq_true (by first | (with_reducible assumption) | assumption)
                      obtain ⟨ad205, e205, hx205_0⟩ := Kd.at_int (Kd.R_reads' HO_8.out).2.2 x9_1 p205 q205
                      obtain rfl : (⟨go12, 0, none⟩ : Addr) = ad205 := (by injection e205)
                      (first | simp only [add_plain] at hx205_0 | simp only [add_at] at hx205_0 | simp only [Addr.add, Nat.zero_add] at hx205_0 | skip)
                      replace p205 := eq_true p205
                      replace q205 := eq_true q205
                      have p35 : 0 ≤ (x9_1 : Int) := of_decide_eq_true (by first | (with_reducible assumption) | assumption)
                      have q35 : (x9_1 : Int) < ((x8_2.length : Int) : Int) := of_decide_eq_true (by first | (with_reducible assumption) | assumption)
                      obtain ⟨hx35_0, hf35_0⟩ := Kd.R_celln 0 HO_8.out (x9_1 : Int) p35 q35
                      replace p35 := eq_true p35
                      replace q35 := eq_true q35
                      have HP36 := Kd.R_putg HO_8.out (x9_1 : Int) (wrap64 ((rd x8_2 (ji28)) + 1))
                      go_wp2_with (first | ((with_reducible refine gate_store (t := 3) (p := 100) rfl ?_); (try (rw [drewN_self wc]; generalize hq_ : World.drewN wc _ = wc; have n0_ := Aside0.mk (Kd.R_at hq_ HO_8.out); have n1_ := Aside0.mk (below_at hq_ HB.out); clear hq_ HO_8 HB; have HO_8 := n0_; have HB := n1_; clear n0_ n1_; (try (have HP36 := Kd.R_putg HO_8.out (x9_1 : Int) (wrap64 ((rd x8_2 (ji28)) + 1)))))); refine store_event (t := 3) (p := 100) (v := ?vo_w37) (w1 := (wc.setCell ⟨go12, (x9_1 : Int).toNat, none⟩ (.int .i64 (wrap64 ((rd x8_2 (ji28)) + 1))))) ?hg ?ho ?hn ?hr ?_; (case ho => rfl); (case hg => rfl); (case hn => rfl); (case hr => first | (go_simp; done) | (go_simp; rfl)); intro w37 hw; have hg : wc.grownBy w37 (some go12) := (by rw [hw]; exact HP36.2); have hp_ : Kd.R (Kd.int .i64) 3 w37 w.heap.size (fun _ => True) (.slice (some ⟨go12, 0, none⟩) x8_2.length co12) y206 := (by rw [hw, Ny206.out]; exact HP36.1); clear HP36; have n0_ := Aside0.mk (hp_); have n1_ := Aside0.mk ((by rw [hw]; exact below_set (HB.out) GB12.out : Below w.heap.size w w37)); clear HO_8; clear HB; have HO_8 := n0_; have HB := n1_; clear n0_ n1_; clear hg hw hp_))
                      repeat (go_quiet (first | ((with_reducible refine gate_store (t := 3) (p := 100) rfl ?_); (try (rw [drewN_self wc]; generalize hq_ : World.drewN wc _ = wc; have n0_ := Aside0.mk (Kd.R_at hq_ HO_8.out); have n1_ := Aside0.mk (below_at hq_ HB.out); clear hq_ HO_8 HB; have HO_8 := n0_; have HB := n1_; clear n0_ n1_; (try (have HP36 := Kd.R_putg HO_8.out (x9_1 : Int) (wrap64 ((rd x8_2 (ji28)) + 1)))))); refine store_event (t := 3) (p := 100) (v := ?vo_w37) (w1 := (wc.setCell ⟨go12, (x9_1 : Int).toNat, none⟩ (.int .i64 (wrap64 ((rd x8_2 (ji28)) + 1))))) ?hg ?ho ?hn ?hr ?_; (case ho => rfl); (case hg => rfl); (case hn => rfl); (case hr => first | (go_simp; done) | (go_simp; rfl)); intro w37 hw; have hg : wc.grownBy w37 (some go12) := (by rw [hw]; exact HP36.2); have hp_ : Kd.R (Kd.int .i64) 3 w37 w.heap.size (fun _ => True) (.slice (some ⟨go12, 0, none⟩) x8_2.length co12) y206 := (by rw [hw, Ny206.out]; exact HP36.1); clear HP36; have n0_ := Aside0.mk (hp_); have n1_ := Aside0.mk ((by rw [hw]; exact below_set (HB.out) GB12.out : Below w.heap.size w w37)); clear HO_8; clear HB; have HO_8 := n0_; have HB := n1_; clear n0_ n1_; clear hg hw hp_)); try go_wp2_with (first | ((with_reducible refine gate_store (t := 3) (p := 100) rfl ?_); (try (rw [drewN_self wc]; generalize hq_ : World.drewN wc _ = wc; have n0_ := Aside0.mk (Kd.R_at hq_ HO_8.out); have n1_ := Aside0.mk (below_at hq_ HB.out); clear hq_ HO_8 HB; have HO_8 := n0_; have HB := n1_; clear n0_ n1_; (try (have HP36 := Kd.R_putg HO_8.out (x9_1 : Int) (wrap64 ((rd x8_2 (ji28)) + 1)))))); refine store_event (t := 3) (p := 100) (v := ?vo_w37) (w1 := (wc.setCell ⟨go12, (x9_1 : Int).toNat, none⟩ (.int .i64 (wrap64 ((rd x8_2 (ji28)) + 1))))) ?hg ?ho ?hn ?hr ?_; (case ho => rfl); (case hg => rfl); (case hn => rfl); (case hr => first | (go_simp; done) | (go_simp; rfl)); intro w37 hw; have hg : wc.grownBy w37 (some go12) := (by rw [hw]; exact HP36.2); have hp_ : Kd.R (Kd.int .i64) 3 w37 w.heap.size (fun _ => True) (.slice (some ⟨go12, 0, none⟩) x8_2.length co12) y206 := (by rw [hw, Ny206.out]; exact HP36.1); clear HP36; have n0_ := Aside0.mk (hp_); have n1_ := Aside0.mk ((by rw [hw]; exact below_set (HB.out) GB12.out : Below w.heap.size w w37)); clear HO_8; clear HB; have HO_8 := n0_; have HB := n1_; clear n0_ n1_; clear hg hw hp_)))
                      (try simp only [← hl8_2])
                      go_roundg kj15
                      case measure => have := HK1.out; have := HK2.out; have := HJ15.out; omega
                      case rel => exact ⟨(y206), (wrap64 (x10_2 + 1)), (by first | rfl | (simp; done) | (simp [*]; done)), H', ⟨by have := HK1.out; have := HK2.out; have := HJ15.out; omega⟩, ⟨by (try simp only [hl8_2]); (with_reducible repeat (first | apply Kd.R_alloc | apply Kd.R_drewN | apply Kd.R_drew)); first | exact HO_8.out | (rw [Ny206.out]; exact (Kd.R_putg (Kd.R_drewN HO_8.out _) (x9_1 : Int) _).1)⟩, ⟨by first | ((repeat (first | (with_reducible first | exact HB.out | apply below_alloc | apply pw_below_drewN | apply below_drew1) | exact HB.out)); done) | exact below_set (pw_below_drewN HB.out _) GB12.out⟩⟩
                     ·
                      rw [if_neg c34] at H
                      have c34b0 : decide ((rd x8_2 x9_1) < 0) = false := decide_eq_false c34
                      clear c34
                      by_cases c38 : (wrap64 ((rd x8_2 (ji28)) + 1)) < (rd x8_2 x9_1)
                      ·
                       rw [if_pos c38] at H
                       have c38b0 : decide ((wrap64 ((rd x8_2 (ji28)) + 1)) < (rd x8_2 x9_1)) = true := decide_eq_true c38
                       clear c38
                       obtain ⟨y208, hy208⟩ : ∃ y_ : List Int, y_ = (x8_2.set (x9_1 : Int).toNat (wrap64 ((rd x8_2 (ji28)) + 1))) := ⟨_, rfl⟩
                       replace H : (spec_l6fLeast.l1 kj15 l0 l1 true y208 x9_1 (wrap64 (x10_2 + 1))) = some r := by first | (rw [hy208]; with_reducible exact H) | (have H2_ := (Option.bind_some _ _).symm.trans H; rw [hy208]; with_reducible exact H2_) | (have H2_ := (Option.bind_some _ _).symm.trans H; with_reducible exact H2_) | with_reducible exact H | (rw [hy208]; exact H) | exact H
                       have Ny208 := Aside0.mk hy208
                       clear hy208
                       have H' := Aside0.mk H
                       clear H
                       have p200 : 0 ≤ (x10_2 : Int) := of_decide_eq_true (by first | (with_reducible assumption) | assumption)
                       have q200 : x10_2 < (l0.length : Int) := of_decide_eq_true (by first | (with_reducible assumption) | assumption)
                       obtain ⟨ad200, A200_0, c200_0, e200, hx200_0, hx200_1, hl200_0, hi200_0⟩ := at_T55 HR0.out x10_2 p200 q200
                       cases e200
                       replace hx200_0 := (HB.out.cell (World.block_lt_of_cell? w _ hx200_0)).trans hx200_0
                       replace hx200_1 := (HB.out.cell (World.block_lt_of_cell? w _ hx200_1)).trans hx200_1
                       have HR200_0 := Aside0.mk hi200_0
                       have HC200_0 := Aside0.mk hl200_0
                       clear hi200_0 hl200_0
                       replace p200 := eq_true p200
                       replace q200 := eq_true q200
                       have p201 : 0 ≤ ((ji28) : Int) := of_decide_eq_true (by first | (with_reducible assumption) | assumption)
                       have q201 : (ji28) < (x8_2.length : Int) := of_decide_eq_true (by first | (with_reducible assumption) | assumption)
                       obtain ⟨ad201, e201, hx201_0⟩ := Kd.at_int (Kd.R_reads' HO_8.out).2.2 (ji28) p201 q201
                       obtain rfl : (⟨go12, 0, none⟩ : Addr) = ad201 := (by injection e201)
                       (first | simp only [add_plain] at hx201_0 | simp only [add_at] at hx201_0 | simp only [Addr.add, Nat.zero_add] at hx201_0 | skip)
                       replace p201 := eq_true p201
                       replace q201 := eq_true q201
                       have p202 : 0 ≤ (x10_2 : Int) := of_decide_eq_true (by first | (with_reducible assumption) | assumption)
                       have q202 : x10_2 < (l0.length : Int) := of_decide_eq_true (by first | (with_reducible assumption) | assumption)
                       obtain ⟨ad202, A202_0, c202_0, e202, hx202_0, hx202_1, hl202_0, hi202_0⟩ := at_T55 HR0.out x10_2 p202 q202
                       obtain rfl : ad200 = ad202 := (by injection e202)
                       replace hx202_0 := (HB.out.cell (World.block_lt_of_cell? w _ hx202_0)).trans hx202_0
                       replace hx202_1 := (HB.out.cell (World.block_lt_of_cell? w _ hx202_1)).trans hx202_1
                       have HR202_0 := Aside0.mk hi202_0
                       have HC202_0 := Aside0.mk hl202_0
                       clear hi202_0 hl202_0
                       replace p202 := eq_true p202
                       replace q202 := eq_true q202
                       have ea_ := Option.some.inj (hx200_0.symm.trans hx202_0)
                       injection ea_ with ea_ en_ ec_
                       subst ea_
                       subst ec_
                       clear en_
                       have p203 : 0 ≤ (x10_2 : Int) := of_decide_eq_true (by first | (with_reducible assumption) | assumption)
                       have q203 : x10_2 < (l0.length : Int) := of_decide_eq_true (by first | (with_reducible assumption) | assumption)
                       obtain ⟨ad203, A203_0, c203_0, e203, hx203_0, hx203_1, hl203_0, hi203_0⟩ := at_T55 HR0.out x10_2 p203 q203
                       obtain rfl : ad200 = ad203 := (by injection e203)
                       replace hx203_0 := (HB.out.cell (World.block_lt_of_cell? w _ hx203_0)).trans hx203_0
                       replace hx203_1 := (HB.out.cell (World.block_lt_of_cell? w _ hx203_1)).trans hx203_1
                       have HR203_0 := Aside0.mk hi203_0
                       have HC203_0 := Aside0.mk hl203_0
                       clear hi203_0 hl203_0
                       replace p203 := eq_true p203
                       replace q203 := eq_true q203
                       have ea_ := Option.some.inj (hx200_0.symm.trans hx203_0)
                       injection ea_ with ea_ en_ ec_
                       subst ea_
                       subst ec_
                       clear en_
                       have p204 : 0 ≤ ((ji28) : Int) := of_decide_eq_true (by first | (with_reducible assumption) | assumption)
                       have q204 : (ji28) < (x8_2.length : Int) := of_decide_eq_true (by first | (with_reducible assumption) | assumption)
                       obtain ⟨ad204, e204, hx204_0⟩ := Kd.at_int (Kd.R_reads' HO_8.out).2.2 (ji28) p204 q204
                       obtain rfl : (⟨go12, 0, none⟩ : Addr) = ad204 := (by injection e204)
                       (first | simp only [add_plain] at hx204_0 | simp only [add_at] at hx204_0 | simp only [Addr.add, Nat.zero_add] at hx204_0 | skip)
                       replace p204 := eq_true p204
                       replace q204 := eq_true q204
                       have p205 : 0 ≤ (x9_1 : Int) := of_decide_eq_true (by first | (with_reducible assumption) | assumption)
                       have q205 : x9_1 < (x8_2.length : Int) := of_decide_eq_true (by first | (with_reducible assumption) | assumption)
                       obtain ⟨ad205, e205, hx205_0⟩ := Kd.at_int (Kd.R_reads' HO_8.out).2.2 x9_1 p205 q205
                       obtain rfl : (⟨go12, 0, none⟩ : Addr) = ad205 := (by injection e205)
                       (first | simp only [add_plain] at hx205_0 | simp only [add_at] at hx205_0 | simp only [Addr.add, Nat.zero_add] at hx205_0 | skip)
                       replace p205 := eq_true p205
                       replace q205 := eq_true q205
                       have p207 : 0 ≤ (x9_1 : Int) := of_decide_eq_true (by first | (with_reducible assumption) | assumption)
                       have q207 : x9_1 < (x8_2.length : Int) := of_decide_eq_true (by first | (with_reducible assumption) | assumption)
                       obtain ⟨ad207, e207, hx207_0⟩ := Kd.at_int (Kd.R_reads' HO_8.out).2.2 x9_1 p207 q207
                       obtain rfl : (⟨go12, 0, none⟩ : Addr) = ad207 := (by injection e207)
                       (first | simp only [add_plain] at hx207_0 | simp only [add_at] at hx207_0 | simp only [Addr.add, Nat.zero_add] at hx207_0 | skip)
                       replace p207 := eq_true p207
                       replace q207 := eq_true q207
                       have p39 : 0 ≤ (x9_1 : Int) := of_decide_eq_true (by first | (with_reducible assumption) | assumption)
                       have q39 : (x9_1 : Int) < ((x8_2.length : Int) : Int) := of_decide_eq_true (by first | (with_reducible assumption) | assumption)
                       obtain ⟨hx39_0, hf39_0⟩ := Kd.R_celln 0 HO_8.out (x9_1 : Int) p39 q39
                       replace p39 := eq_true p39
                       replace q39 := eq_true q39
                       have HP40 := Kd.R_putg HO_8.out (x9_1 : Int) (wrap64 ((rd x8_2 (ji28)) + 1))
                       go_wp2_with (first | ((with_reducible refine gate_store (t := 3) (p := 100) rfl ?_); (try (rw [drewN_self wc]; generalize hq_ : World.drewN wc _ = wc; have n0_ := Aside0.mk (Kd.R_at hq_ HO_8.out); have n1_ := Aside0.mk (below_at hq_ HB.out); clear hq_ HO_8 HB; have HO_8 := n0_; have HB := n1_; clear n0_ n1_; (try (have HP40 := Kd.R_putg HO_8.out (x9_1 : Int) (wrap64 ((rd x8_2 (ji28)) + 1)))))); refine store_event (t := 3) (p := 100) (v := ?vo_w41) (w1 := (wc.setCell ⟨go12, (x9_1 : Int).toNat, none⟩ (.int .i64 (wrap64 ((rd x8_2 (ji28)) + 1))))) ?hg ?ho ?hn ?hr ?_; (case ho => rfl); (case hg => rfl); (case hn => rfl); (case hr => first | (go_simp; done) | (go_simp; rfl)); intro w41 hw; have hg : wc.grownBy w41 (some go12) := (by rw [hw]; exact HP40.2); have hp_ : Kd.R (Kd.int .i64) 3 w41 w.heap.size (fun _ => True) (.slice (some ⟨go12, 0, none⟩) x8_2.length co12) y208 := (by rw [hw, Ny208.out]; exact HP40.1); clear HP40; have n0_ := Aside0.mk (hp_); have n1_ := Aside0.mk ((by rw [hw]; exact below_set (HB.out) GB12.out : Below w.heap.size w w41)); clear HO_8; clear HB; have HO_8 := n0_; have HB := n1_; clear n0_ n1_; clear hg hw hp_))
                       repeat (go_quiet (first | ((with_reducible refine gate_store (t := 3) (p := 100) rfl ?_); (try (rw [drewN_self wc]; generalize hq_ : World.drewN wc _ = wc; have n0_ := Aside0.mk (Kd.R_at hq_ HO_8.out); have n1_ := Aside0.mk (below_at hq_ HB.out); clear hq_ HO_8 HB; have HO_8 := n0_; have HB := n1_; clear n0_ n1_; (try (have HP40 := Kd.R_putg HO_8.out (x9_1 : Int) (wrap64 ((rd x8_2 (ji28)) + 1)))))); refine store_event (t := 3) (p := 100) (v := ?vo_w41) (w1 := (wc.setCell ⟨go12, (x9_1 : Int).toNat, none⟩ (.int .i64 (wrap64 ((rd x8_2 (ji28)) + 1))))) ?hg ?ho ?hn ?hr ?_; (case ho => rfl); (case hg => rfl); (case hn => rfl); (case hr => first | (go_simp; done) | (go_simp; rfl)); intro w41 hw; have hg : wc.grownBy w41 (some go12) := (by rw [hw]; exact HP40.2); have hp_ : Kd.R (Kd.int .i64) 3 w41 w.heap.size (fun _ => True) (.slice (some ⟨go12, 0, none⟩) x8_2.length co12) y208 := (by rw [hw, Ny208.out]; exact HP40.1); clear HP40; have n0_ := Aside0.mk (hp_); have n1_ := Aside0.mk ((by rw [hw]; exact below_set (HB.out) GB12.out : Below w.heap.size w w41)); clear HO_8; clear HB; have HO_8 := n0_; have HB := n1_; clear n0_ n1_; clear hg hw hp_)); try go_wp2_with (first | ((with_reducible refine gate_store (t := 3) (p := 100) rfl ?_); (try (rw [drewN_self wc]; generalize hq_ : World.drewN wc _ = wc; have n0_ := Aside0.mk (Kd.R_at hq_ HO_8.out); have n1_ := Aside0.mk (below_at hq_ HB.out); clear hq_ HO_8 HB; have HO_8 := n0_; have HB := n1_; clear n0_ n1_; (try (have HP40 := Kd.R_putg HO_8.out (x9_1 : Int) (wrap64 ((rd x8_2 (ji28)) + 1)))))); refine store_event (t := 3) (p := 100) (v := ?vo_w41) (w1 := (wc.setCell ⟨go12, (x9_1 : Int).toNat, none⟩ (.int .i64 (wrap64 ((rd x8_2 (ji28)) + 1))))) ?hg ?ho ?hn ?hr ?_; (case ho => rfl); (case hg => rfl); (case hn => rfl); (case hr => first | (go_simp; done) | (go_simp; rfl)); intro w41 hw; have hg : wc.grownBy w41 (some go12) := (by rw [hw]; exact HP40.2); have hp_ : Kd.R (Kd.int .i64) 3 w41 w.heap.size (fun _ => True) (.slice (some ⟨go12, 0, none⟩) x8_2.length co12) y208 := (by rw [hw, Ny208.out]; exact HP40.1); clear HP40; have n0_ := Aside0.mk (hp_); have n1_ := Aside0.mk ((by rw [hw]; exact below_set (HB.out) GB12.out : Below w.heap.size w w41)); clear HO_8; clear HB; have HO_8 := n0_; have HB := n1_; clear n0_ n1_; clear hg hw hp_)))
                       (try simp only [← hl8_2])
                       go_roundg kj15
                       case measure => have := HK1.out; have := HK2.out; have := HJ15.out; omega
                       case rel => exact ⟨(y208), (wrap64 (x10_2 + 1)), (by first | rfl | (simp; done) | (simp [*]; done)), H', ⟨by have := HK1.out; have := HK2.out; have := HJ15.out; omega⟩, ⟨by (try simp only [hl8_2]); (with_reducible repeat (first | apply Kd.R_alloc | apply Kd.R_drewN | apply Kd.R_drew)); first | exact HO_8.out | (rw [Ny208.out]; exact (Kd.R_putg (Kd.R_drewN HO_8.out _) (x9_1 : Int) _).1)⟩, ⟨by first | ((repeat (first | (with_reducible first | exact HB.out | apply below_alloc | apply pw_below_drewN | apply below_drew1) | exact HB.out)); done) | exact below_set (pw_below_drewN HB.out _) GB12.out⟩⟩
                      ·
                       rw [if_neg c38] at H
                       have c38b0 : decide ((wrap64 ((rd x8_2 (ji28)) + 1)) < (rd x8_2 x9_1)) = false := decide_eq_false c38
                       clear c38
                       have H' := Aside0.mk H
                       clear H
                       have p200 : 0 ≤ (x10_2 : Int) := of_decide_eq_true (by first | (with_reducible assumption) | assumption)
                       have q200 : x10_2 < (l0.length : Int) := of_decide_eq_true (by first | (with_reducible assumption) | assumption)
                       obtain ⟨ad200, A200_0, c200_0, e200, hx200_0, hx200_1, hl200_0, hi200_0⟩ := at_T55 HR0.out x10_2 p200 q200
                       cases e200
                       replace hx200_0 := (HB.out.cell (World.block_lt_of_cell? w _ hx200_0)).trans hx200_0
                       replace hx200_1 := (HB.out.cell (World.block_lt_of_cell? w _ hx200_1)).trans hx200_1
                       have HR200_0 := Aside0.mk hi200_0
                       have HC200_0 := Aside0.mk hl200_0
                       clear hi200_0 hl200_0
                       replace p200 := eq_true p200
                       replace q200 := eq_true q200
                       have p201 : 0 ≤ ((ji28) : Int) := of_decide_eq_true (by first | (with_reducible assumption) | assumption)
                       have q201 : (ji28) < (x8_2.length : Int) := of_decide_eq_true (by first | (with_reducible assumption) | assumption)
                       obtain ⟨ad201, e201, hx201_0⟩ := Kd.at_int (Kd.R_reads' HO_8.out).2.2 (ji28) p201 q201
                       obtain rfl : (⟨go12, 0, none⟩ : Addr) = ad201 := (by injection e201)
                       (first | simp only [add_plain] at hx201_0 | simp only [add_at] at hx201_0 | simp only [Addr.add, Nat.zero_add] at hx201_0 | skip)
                       replace p201 := eq_true p201
                       replace q201 := eq_true q201
                       have p202 : 0 ≤ (x10_2 : Int) := of_decide_eq_true (by first | (with_reducible assumption) | assumption)
                       have q202 : x10_2 < (l0.length : Int) := of_decide_eq_true (by first | (with_reducible assumption) | assumption)
                       obtain ⟨ad202, A202_0, c202_0, e202, hx202_0, hx202_1, hl202_0, hi202_0⟩ := at_T55 HR0.out x10_2 p202 q202
                       obtain rfl : ad200 = ad202 := (by injection e202)
                       replace hx202_0 := (HB.out.cell (World.block_lt_of_cell? w _ hx202_0)).trans hx202_0
                       replace hx202_1 := (HB.out.cell (World.block_lt_of_cell? w _ hx202_1)).trans hx202_1
                       have HR202_0 := Aside0.mk hi202_0
                       have HC202_0 := Aside0.mk hl202_0
                       clear hi202_0 hl202_0
                       replace p202 := eq_true p202
                       replace q202 := eq_true q202
                       have ea_ := Option.some.inj (hx200_0.symm.trans hx202_0)
                       injection ea_ with ea_ en_ ec_
                       subst ea_
                       subst ec_
                       clear en_
                       have p203 : 0 ≤ (x10_2 : Int) := of_decide_eq_true (by first | (with_reducible assumption) | assumption)
                       have q203 : x10_2 < (l0.length : Int) := of_decide_eq_true (by first | (with_reducible assumption) | assumption)
                       obtain ⟨ad203, A203_0, c203_0, e203, hx203_0, hx203_1, hl203_0, hi203_0⟩ := at_T55 HR0.out x10_2 p203 q203
                       obtain rfl : ad200 = ad203 := (by injection e203)
                       replace hx203_0 := (HB.out.cell (World.block_lt_of_cell? w _ hx203_0)).trans hx203_0
                       replace hx203_1 := (HB.out.cell (World.block_lt_of_cell? w _ hx203_1)).trans hx203_1
                       have HR203_0 := Aside0.mk hi203_0
                       have HC203_0 := Aside0.mk hl203_0
                       clear hi203_0 hl203_0
                       replace p203 := eq_true p203
                       replace q203 := eq_true q203
                       have ea_ := Option.some.inj (hx200_0.symm.trans hx203_0)
                       injection ea_ with ea_ en_ ec_
                       subst ea_
                       subst ec_
                       clear en_
                       have p204 : 0 ≤ ((ji28) : Int) := of_decide_eq_true (by first | (with_reducible assumption) | assumption)
                       have q204 : (ji28) < (x8_2.length : Int) := of_decide_eq_true (by first | (with_reducible assumption) | assumption)
                       obtain ⟨ad204, e204, hx204_0⟩ := Kd.at_int (Kd.R_reads' HO_8.out).2.2 (ji28) p204 q204
                       obtain rfl : (⟨go12, 0, none⟩ : Addr) = ad204 := (by injection e204)
                       (first | simp only [add_plain] at hx204_0 | simp only [add_at] at hx204_0 | simp only [Addr.add, Nat.zero_add] at hx204_0 | skip)
                       replace p204 := eq_true p204
                       replace q204 := eq_true q204
                       have p205 : 0 ≤ (x9_1 : Int) := of_decide_eq_true (by first | (with_reducible assumption) | assumption)
                       have q205 : x9_1 < (x8_2.length : Int) := of_decide_eq_true (by first | (with_reducible assumption) | assumption)
                       obtain ⟨ad205, e205, hx205_0⟩ := Kd.at_int (Kd.R_reads' HO_8.out).2.2 x9_1 p205 q205
                       obtain rfl : (⟨go12, 0, none⟩ : Addr) = ad205 := (by injection e205)
                       (first | simp only [add_plain] at hx205_0 | simp only [add_at] at hx205_0 | simp only [Addr.add, Nat.zero_add] at hx205_0 | skip)
                       replace p205 := eq_true p205
                       replace q205 := eq_true q205
                       have p207 : 0 ≤ (x9_1 : Int) := of_decide_eq_true (by first | (with_reducible assumption) | assumption)
                       have q207 : x9_1 < (x8_2.length : Int) := of_decide_eq_true (by first | (with_reducible assumption) | assumption)
                       obtain ⟨ad207, e207, hx207_0⟩ := Kd.at_int (Kd.R_reads' HO_8.out).2.2 x9_1 p207 q207
                       obtain rfl : (⟨go12, 0, none⟩ : Addr) = ad207 := (by injection e207)
                       (first | simp only [add_plain] at hx207_0 | simp only [add_at] at hx207_0 | simp only [Addr.add, Nat.zero_add] at hx207_0 | skip)
                       replace p207 := eq_true p207
                       replace q207 := eq_true q207
                       go_wp2
                       repeat (go_quiet (fail); try go_wp2)
                       (try simp only [← hl8_2])
                       go_roundg kj15
                       case measure => have := HK1.out; have := HK2.out; have := HJ15.out; omega
                       case rel => exact ⟨(x8_2), (wrap64 (x10_2 + 1)), (by first | rfl | (simp; done) | (simp [*]; done)), H', ⟨by have := HK1.out; have := HK2.out; have := HJ15.out; omega⟩, ⟨by (try simp only [hl8_2]); (with_reducible repeat (first | apply Kd.R_alloc | apply Kd.R_drewN | apply Kd.R_drew)); exact HO_8.out⟩, ⟨by repeat (first | (with_reducible first | exact HB.out | apply below_alloc | apply pw_below_drewN | apply below_drew1) | exact HB.out)⟩⟩
                    ·
                     rw [if_neg c33] at H
                     exact absurd H (by simp)
                   ·
                    rw [if_neg c32] at H
                    exact absurd H (by simp)
                  ·
                   replace c31 := Bool.eq_false_iff.mpr c31
                   subst c31
                   have H1 : (if 0 ≤ x9_1 then (if x9_1 < (x8_2.length : Int) then (if (rd x8_2 x9_1) < 0 then (spec_l6fLeast.l1 kj15 l0 l1 false (x8_2.set (x9_1 : Int).toNat (wrap64 ((rd x8_2 (ji28)) + ((rd_T55 l0 x10_2).f1)))) x9_1 (wrap64 (x10_2 + 1))) else (if (wrap64 ((rd x8_2 (ji28)) + ((rd_T55 l0 x10_2).f1))) < (rd x8_2 x9_1) then (spec_l6fLeast.l1 kj15 l0 l1 false (x8_2.set (x9_1 : Int).toNat (wrap64 ((rd x8_2 (ji28)) + ((rd_T55 l0 x10_2).f1)))) x9_1 (wrap64 (x10_2 + 1))) else (spec_l6fLeast.l1 kj15 l0 l1 false x8_2 x9_1 (wrap64 (x10_2 + 1))))) else (none)) else (none)) = some r := by rw [if_neg (show ¬ (false = true) by decide)] at H; exact H
                   clear H
                   have H := H1
                   clear H1
                   by_cases c42 : 0 ≤ x9_1
                   ·
                    rw [if_pos c42] at H
                    have c42b0 : decide (0 ≤ x9_1) = true := decide_eq_true c42
                    clear c42
                    by_cases c43 : x9_1 < (x8_2.length : Int)
                    ·
                     rw [if_pos c43] at H
                     have c43b0 : decide (x9_1 < (x8_2.length : Int)) = true := decide_eq_true c43
                     clear c43
                     by_cases c44 : (rd x8_2 x9_1) < 0
                     ·
                      rw [if_pos c44] at H
                      have c44b0 : decide ((rd x8_2 x9_1) < 0) = true := decide_eq_true c44
                      clear c44
                      obtain ⟨y210, hy210⟩ : ∃ y_ : List Int, y_ = (x8_2.set (x9_1 : Int).toNat (wrap64 ((rd x8_2 (ji28)) + ((rd_T55 l0 x10_2).f1)))) := ⟨_, rfl⟩
                      replace H : (spec_l6fLeast.l1 kj15 l0 l1 false y210 x9_1 (wrap64 (x10_2 + 1))) = some r := by first | (rw [hy210]; with_reducible exact H) | (have H2_ := (Option.bind_some _ _).symm.trans H; rw [hy210]; with_reducible exact H2_) | (have H2_ := (Option.bind_some _ _).symm.trans H; with_reducible exact H2_) | with_reducible exact H | (rw [hy210]; exact H) | exact H
                      have Ny210 := Aside0.mk hy210
                      clear hy210
                      have H' := Aside0.mk H
                      clear H
                      have p200 : 0 ≤ (x10_2 : Int) := of_decide_eq_true (by first | (with_reducible assumption) | assumption)
                      have q200 : x10_2 < (l0.length : Int) := of_decide_eq_true (by first | (with_reducible assumption) | assumption)
                      obtain ⟨ad200, A200_0, c200_0, e200, hx200_0, hx200_1, hl200_0, hi200_0⟩ := at_T55 HR0.out x10_2 p200 q200
                      cases e200
                      replace hx200_0 := (HB.out.cell (World.block_lt_of_cell? w _ hx200_0)).trans hx200_0
                      replace hx200_1 := (HB.out.cell (World.block_lt_of_cell? w _ hx200_1)).trans hx200_1
                      have HR200_0 := Aside0.mk hi200_0
                      have HC200_0 := Aside0.mk hl200_0
                      clear hi200_0 hl200_0
                      replace p200 := eq_true p200
                      replace q200 := eq_true q200
                      have p201 : 0 ≤ ((ji28) : Int) := of_decide_eq_true (by first | (with_reducible assumption) | assumption)
                      have q201 : (ji28) < (x8_2.length : Int) := of_decide_eq_true (by first | (with_reducible assumption) | assumption)
                      obtain ⟨ad201, e201, hx201_0⟩ := Kd.at_int (Kd.R_reads' HO_8.out).2.2 (ji28) p201 q201
                      obtain rfl : (⟨go12, 0, none⟩ : Addr) = ad201 := (by injection e201)
                      (first | simp only [add_plain] at hx201_0 | simp only [add_at] at hx201_0 | simp only [Addr.add, Nat.zero_add] at hx201_0 | skip)
                      replace p201 := eq_true p201
                      replace q201 := eq_true q201
                      have p202 : 0 ≤ (x10_2 : Int) := of_decide_eq_true (by first | (with_reducible assumption) | assumption)
                      have q202 : x10_2 < (l0.length : Int) := of_decide_eq_true (by first | (with_reducible assumption) | assumption)
                      obtain ⟨ad202, A202_0, c202_0, e202, hx202_0, hx202_1, hl202_0, hi202_0⟩ := at_T55 HR0.out x10_2 p202 q202
                      obtain rfl : ad200 = ad202 := (by injection e202)
                      replace hx202_0 := (HB.out.cell (World.block_lt_of_cell? w _ hx202_0)).trans hx202_0
                      replace hx202_1 := (HB.out.cell (World.block_lt_of_cell? w _ hx202_1)).trans hx202_1
                      have HR202_0 := Aside0.mk hi202_0
                      have HC202_0 := Aside0.mk hl202_0
                      clear hi202_0 hl202_0
                      replace p202 := eq_true p202
                      replace q202 := eq_true q202
                      have ea_ := Option.some.inj (hx200_0.symm.trans hx202_0)
                      injection ea_ with ea_ en_ ec_
                      subst ea_
                      subst ec_
                      clear en_
                      have p209 : 0 ≤ (x9_1 : Int) := of_decide_eq_true (by first | (with_reducible assumption) | assumption)
                      have q209 : x9_1 < (x8_2.length : Int) := of_decide_eq_true (by first | (with_reducible assumption) | assumption)
                      obtain ⟨ad209, e209, hx209_0⟩ := Kd.at_int (Kd.R_reads' HO_8.out).2.2 x9_1 p209 q209
                      obtain rfl : (⟨go12, 0, none⟩ : Addr) = ad209 := (by injection e209)
                      (first | simp only [add_plain] at hx209_0 | simp only [add_at] at hx209_0 | simp only [Addr.add, Nat.zero_add] at hx209_0 | skip)
                      replace p209 := eq_true p209
                      replace q209 := eq_true q209
                      have p45 : 0 ≤ (x9_1 : Int) := of_decide_eq_true (by first | (with_reducible assumption) | assumption)
                      have q45 : (x9_1 : Int) < ((x8_2.length : Int) : Int) := of_decide_eq_true (by first | (with_reducible assumption) | assumption)
                      obtain ⟨hx45_0, hf45_0⟩ := Kd.R_celln 0 HO_8.out (x9_1 : Int) p45 q45
                      replace p45 := eq_true p45
                      replace q45 := eq_true q45
                      have HP46 := Kd.R_putg HO_8.out (x9_1 : Int) (wrap64 ((rd x8_2 (ji28)) + ((rd_T55 l0 x10_2).f1)))
                      go_wp2_with (first | ((with_reducible refine gate_store (t := 3) (p := 100) rfl ?_); (try (rw [drewN_self wc]; generalize hq_ : World.drewN wc _ = wc; have n0_ := Aside0.mk (Kd.R_at hq_ HO_8.out); have n1_ := Aside0.mk (below_at hq_ HB.out); clear hq_ HO_8 HB; have HO_8 := n0_; have HB := n1_; clear n0_ n1_; (try (have HP46 := Kd.R_putg HO_8.out (x9_1 : Int) (wrap64 ((rd x8_2 (ji28)) + ((rd_T55 l0 x10_2).f1))))))); refine store_event (t := 3) (p := 100) (v := ?vo_w47) (w1 := (wc.setCell ⟨go12, (x9_1 : Int).toNat, none⟩ (.int .i64 (wrap64 ((rd x8_2 (ji28)) + ((rd_T55 l0 x10_2).f1)))))) ?hg ?ho ?hn ?hr ?_; (case ho => rfl); (case hg => rfl); (case hn => rfl); (case hr => first | (go_simp; done) | (go_simp; rfl)); intro w47 hw; have hg : wc.grownBy w47 (some go12) := (by rw [hw]; exact HP46.2); have hp_ : Kd.R (Kd.int .i64) 3 w47 w.heap.size (fun _ => True) (.slice (some ⟨go12, 0, none⟩) x8_2.length co12) y210 := (by rw [hw, Ny210.out]; exact HP46.1); clear HP46; have n0_ := Aside0.mk (hp_); have n1_ := Aside0.mk ((by rw [hw]; exact below_set (HB.out) GB12.out : Below w.heap.size w w47)); clear HO_8; clear HB; have HO_8 := n0_; have HB := n1_; clear n0_ n1_; clear hg hw hp_))
                      repeat (go_quiet (first | ((with_reducible refine gate_store (t := 3) (p := 100) rfl ?_); (try (rw [drewN_self wc]; generalize hq_ : World.drewN wc _ = wc; have n0_ := Aside0.mk (Kd.R_at hq_ HO_8.out); have n1_ := Aside0.mk (below_at hq_ HB.out); clear hq_ HO_8 HB; have HO_8 := n0_; have HB := n1_; clear n0_ n1_; (try (have HP46 := Kd.R_putg HO_8.out (x9_1 : Int) (wrap64 ((rd x8_2 (ji28)) + ((rd_T55 l0 x10_2).f1))))))); refine store_event (t := 3) (p := 100) (v := ?vo_w47) (w1 := (wc.setCell ⟨go12, (x9_1 : Int).toNat, none⟩ (.int .i64 (wrap64 ((rd x8_2 (ji28)) + ((rd_T55 l0 x10_2).f1)))))) ?hg ?ho ?hn ?hr ?_; (case ho => rfl); (case hg => rfl); (case hn => rfl); (case hr => first | (go_simp; done) | (go_simp; rfl)); intro w47 hw; have hg : wc.grownBy w47 (some go12) := (by rw [hw]; exact HP46.2); have hp_ : Kd.R (Kd.int .i64) 3 w47 w.heap.size (fun _ => True) (.slice (some ⟨go12, 0, none⟩) x8_2.length co12) y210 := (by rw [hw, Ny210.out]; exact HP46.1); clear HP46; have n0_ := Aside0.mk (hp_); have n1_ := Aside0.mk ((by rw [hw]; exact below_set (HB.out) GB12.out : Below w.heap.size w w47)); clear HO_8; clear HB; have HO_8 := n0_; have HB := n1_; clear n0_ n1_; clear hg hw hp_)); try go_wp2_with (first | ((with_reducible refine gate_store (t := 3) (p := 100) rfl ?_); (try (rw [drewN_self wc]; generalize hq_ : World.drewN wc _ = wc; have n0_ := Aside0.mk (Kd.R_at hq_ HO_8.out); have n1_ := Aside0.mk (below_at hq_ HB.out); clear hq_ HO_8 HB; have HO_8 := n0_; have HB := n1_; clear n0_ n1_; (try (have HP46 := Kd.R_putg HO_8.out (x9_1 : Int) (wrap64 ((rd x8_2 (ji28)) + ((rd_T55 l0 x10_2).f1))))))); refine store_event (t := 3) (p := 100) (v := ?vo_w47) (w1 := (wc.setCell ⟨go12, (x9_1 : Int).toNat, none⟩ (.int .i64 (wrap64 ((rd x8_2 (ji28)) + ((rd_T55 l0 x10_2).f1)))))) ?hg ?ho ?hn ?hr ?_; (case ho => rfl); (case hg => rfl); (case hn => rfl); (case hr => first | (go_simp; done) | (go_simp; rfl)); intro w47 hw; have hg : wc.grownBy w47 (some go12) := (by rw [hw]; exact HP46.2); have hp_ : Kd.R (Kd.int .i64) 3 w47 w.heap.size (fun _ => True) (.slice (some ⟨go12, 0, none⟩) x8_2.length co12) y210 := (by rw [hw, Ny210.out]; exact HP46.1); clear HP46; have n0_ := Aside0.mk (hp_); have n1_ := Aside0.mk ((by rw [hw]; exact below_set (HB.out) GB12.out : Below w.heap.size w w47)); clear HO_8; clear HB; have HO_8 := n0_; have HB := n1_; clear n0_ n1_; clear hg hw hp_)))
                      (try simp only [← hl8_2])
                      go_roundg kj15
                      case measure => have := HK1.out; have := HK2.out; have := HJ15.out; omega
                      case rel => exact ⟨(y210), (wrap64 (x10_2 + 1)), (by first | rfl | (simp; done) | (simp [*]; done)), H', ⟨by have := HK1.out; have := HK2.out; have := HJ15.out; omega⟩, ⟨by (try simp only [hl8_2]); (with_reducible repeat (first | apply Kd.R_alloc | apply Kd.R_drewN | apply Kd.R_drew)); first | exact HO_8.out | (rw [Ny210.out]; exact (Kd.R_putg (Kd.R_drewN HO_8.out _) (x9_1 : Int) _).1)⟩, ⟨by first | ((repeat (first | (with_reducible first | exact HB.out | apply below_alloc | apply pw_below_drewN | apply below_drew1) | exact HB.out)); done) | exact below_set (pw_below_drewN HB.out _) GB12.out⟩⟩
                     ·
                      rw [if_neg c44] at H
                      have c44b0 : decide ((rd x8_2 x9_1) < 0) = false := decide_eq_false c44
                      clear c44
                      by_cases c48 : (wrap64 ((rd x8_2 (ji28)) + ((rd_T55 l0 x10_2).f1))) < (rd x8_2 x9_1)
                      ·
                       rw [if_pos c48] at H
                       have c48b0 : decide ((wrap64 ((rd x8_2 (ji28)) + ((rd_T55 l0 x10_2).f1))) < (rd x8_2 x9_1)) = true := decide_eq_true c48
                       clear c48
                       obtain ⟨y212, hy212⟩ : ∃ y_ : List Int, y_ = (x8_2.set (x9_1 : Int).toNat (wrap64 ((rd x8_2 (ji28)) + ((rd_T55 l0 x10_2).f1)))) := ⟨_, rfl⟩
                       replace H : (spec_l6fLeast.l1 kj15 l0 l1 false y212 x9_1 (wrap64 (x10_2 + 1))) = some r := by first | (rw [hy212]; with_reducible exact H) | (have H2_ := (Option.bind_some _ _).symm.trans H; rw [hy212]; with_reducible exact H2_) | (have H2_ := (Option.bind_some _ _).symm.trans H; with_reducible exact H2_) | with_reducible exact H | (rw [hy212]; exact H) | exact H
                       have Ny212 := Aside0.mk hy212
                       clear hy212
                       have H' := Aside0.mk H
                       clear H
                       have p200 : 0 ≤ (x10_2 : Int) := of_decide_eq_true (by first | (with_reducible assumption) | assumption)
                       have q200 : x10_2 < (l0.length : Int) := of_decide_eq_true (by first | (with_reducible assumption) | assumption)
                       obtain ⟨ad200, A200_0, c200_0, e200, hx200_0, hx200_1, hl200_0, hi200_0⟩ := at_T55 HR0.out x10_2 p200 q200
                       cases e200
                       replace hx200_0 := (HB.out.cell (World.block_lt_of_cell? w _ hx200_0)).trans hx200_0
                       replace hx200_1 := (HB.out.cell (World.block_lt_of_cell? w _ hx200_1)).trans hx200_1
                       have HR200_0 := Aside0.mk hi200_0
                       have HC200_0 := Aside0.mk hl200_0
                       clear hi200_0 hl200_0
                       replace p200 := eq_true p200
                       replace q200 := eq_true q200
                       have p201 : 0 ≤ ((ji28) : Int) := of_decide_eq_true (by first | (with_reducible assumption) | assumption)
                       have q201 : (ji28) < (x8_2.length : Int) := of_decide_eq_true (by first | (with_reducible assumption) | assumption)
                       obtain ⟨ad201, e201, hx201_0⟩ := Kd.at_int (Kd.R_reads' HO_8.out).2.2 (ji28) p201 q201
                       obtain rfl : (⟨go12, 0, none⟩ : Addr) = ad201 := (by injection e201)
                       (first | simp only [add_plain] at hx201_0 | simp only [add_at] at hx201_0 | simp only [Addr.add, Nat.zero_add] at hx201_0 | skip)
                       replace p201 := eq_true p201
                       replace q201 := eq_true q201
                       have p202 : 0 ≤ (x10_2 : Int) := of_decide_eq_true (by first | (with_reducible assumption) | assumption)
                       have q202 : x10_2 < (l0.length : Int) := of_decide_eq_true (by first | (with_reducible assumption) | assumption)
                       obtain ⟨ad202, A202_0, c202_0, e202, hx202_0, hx202_1, hl202_0, hi202_0⟩ := at_T55 HR0.out x10_2 p202 q202
                       obtain rfl : ad200 = ad202 := (by injection e202)
                       replace hx202_0 := (HB.out.cell (World.block_lt_of_cell? w _ hx202_0)).trans hx202_0
                       replace hx202_1 := (HB.out.cell (World.block_lt_of_cell? w _ hx202_1)).trans hx202_1
                       have HR202_0 := Aside0.mk hi202_0
                       have HC202_0 := Aside0.mk hl202_0
                       clear hi202_0 hl202_0
                       replace p202 := eq_true p202
                       replace q202 := eq_true q202
                       have ea_ := Option.some.inj (hx200_0.symm.trans hx202_0)
                       injection ea_ with ea_ en_ ec_
                       subst ea_
                       subst ec_
                       clear en_
                       have p209 : 0 ≤ (x9_1 : Int) := of_decide_eq_true (by first | (with_reducible assumption) | assumption)
                       have q209 : x9_1 < (x8_2.length : Int) := of_decide_eq_true (by first | (with_reducible assumption) | assumption)
                       obtain ⟨ad209, e209, hx209_0⟩ := Kd.at_int (Kd.R_reads' HO_8.out).2.2 x9_1 p209 q209
                       obtain rfl : (⟨go12, 0, none⟩ : Addr) = ad209 := (by injection e209)
                       (first | simp only [add_plain] at hx209_0 | simp only [add_at] at hx209_0 | simp only [Addr.add, Nat.zero_add] at hx209_0 | skip)
                       replace p209 := eq_true p209
                       replace q209 := eq_true q209
                       have p211 : 0 ≤ (x9_1 : Int) := of_decide_eq_true (by first | (with_reducible assumption) | assumption)
                       have q211 : x9_1 < (x8_2.length : Int) := of_decide_eq_true (by first | (with_reducible assumption) | assumption)
                       obtain ⟨ad211, e211, hx211_0⟩ := Kd.at_int (Kd.R_reads' HO_8.out).2.2 x9_1 p211 q211
                       obtain rfl : (⟨go12, 0, none⟩ : Addr) = ad211 := (by injection e211)
                       (first | simp only [add_plain] at hx211_0 | simp only [add_at] at hx211_0 | simp only [Addr.add, Nat.zero_add] at hx211_0 | skip)
                       replace p211 := eq_true p211
                       replace q211 := eq_true q211
                       have p49 : 0 ≤ (x9_1 : Int) := of_decide_eq_true (by first | (with_reducible assumption) | assumption)
                       have q49 : (x9_1 : Int) < ((x8_2.length : Int) : Int) := of_decide_eq_true (by first | (with_reducible assumption) | assumption)
                       obtain ⟨hx49_0, hf49_0⟩ := Kd.R_celln 0 HO_8.out (x9_1 : Int) p49 q49
                       replace p49 := eq_true p49
                       replace q49 := eq_true q49
                       have HP50 := Kd.R_putg HO_8.out (x9_1 : Int) (wrap64 ((rd x8_2 (ji28)) + ((rd_T55 l0 x10_2).f1)))
                       go_wp2_with (first | ((with_reducible refine gate_store (t := 3) (p := 100) rfl ?_); (try (rw [drewN_self wc]; generalize hq_ : World.drewN wc _ = wc; have n0_ := Aside0.mk (Kd.R_at hq_ HO_8.out); have n1_ := Aside0.mk (below_at hq_ HB.out); clear hq_ HO_8 HB; have HO_8 := n0_; have HB := n1_; clear n0_ n1_; (try (have HP50 := Kd.R_putg HO_8.out (x9_1 : Int) (wrap64 ((rd x8_2 (ji28)) + ((rd_T55 l0 x10_2).f1))))))); refine store_event (t := 3) (p := 100) (v := ?vo_w51) (w1 := (wc.setCell ⟨go12, (x9_1 : Int).toNat, none⟩ (.int .i64 (wrap64 ((rd x8_2 (ji28)) + ((rd_T55 l0 x10_2).f1)))))) ?hg ?ho ?hn ?hr ?_; (case ho => rfl); (case hg => rfl); (case hn => rfl); (case hr => first | (go_simp; done) | (go_simp; rfl)); intro w51 hw; have hg : wc.grownBy w51 (some go12) := (by rw [hw]; exact HP50.2); have hp_ : Kd.R (Kd.int .i64) 3 w51 w.heap.size (fun _ => True) (.slice (some ⟨go12, 0, none⟩) x8_2.length co12) y212 := (by rw [hw, Ny212.out]; exact HP50.1); clear HP50; have n0_ := Aside0.mk (hp_); have n1_ := Aside0.mk ((by rw [hw]; exact below_set (HB.out) GB12.out : Below w.heap.size w w51)); clear HO_8; clear HB; have HO_8 := n0_; have HB := n1_; clear n0_ n1_; clear hg hw hp_))
                       repeat (go_quiet (first | ((with_reducible refine gate_store (t := 3) (p := 100) rfl ?_); (try (rw [drewN_self wc]; generalize hq_ : World.drewN wc _ = wc; have n0_ := Aside0.mk (Kd.R_at hq_ HO_8.out); have n1_ := Aside0.mk (below_at hq_ HB.out); clear hq_ HO_8 HB; have HO_8 := n0_; have HB := n1_; clear n0_ n1_; (try (have HP50 := Kd.R_putg HO_8.out (x9_1 : Int) (wrap64 ((rd x8_2 (ji28)) + ((rd_T55 l0 x10_2).f1))))))); refine store_event (t := 3) (p := 100) (v := ?vo_w51) (w1 := (wc.setCell ⟨go12, (x9_1 : Int).toNat, none⟩ (.int .i64 (wrap64 ((rd x8_2 (ji28)) + ((rd_T55 l0 x10_2).f1)))))) ?hg ?ho ?hn ?hr ?_; (case ho => rfl); (case hg => rfl); (case hn => rfl); (case hr => first | (go_simp; done) | (go_simp; rfl)); intro w51 hw; have hg : wc.grownBy w51 (some go12) := (by rw [hw]; exact HP50.2); have hp_ : Kd.R (Kd.int .i64) 3 w51 w.heap.size (fun _ => True) (.slice (some ⟨go12, 0, none⟩) x8_2.length co12) y212 := (by rw [hw, Ny212.out]; exact HP50.1); clear HP50; have n0_ := Aside0.mk (hp_); have n1_ := Aside0.mk ((by rw [hw]; exact below_set (HB.out) GB12.out : Below w.heap.size w w51)); clear HO_8; clear HB; have HO_8 := n0_; have HB := n1_; clear n0_ n1_; clear hg hw hp_)); try go_wp2_with (first | ((with_reducible refine gate_store (t := 3) (p := 100) rfl ?_); (try (rw [drewN_self wc]; generalize hq_ : World.drewN wc _ = wc; have n0_ := Aside0.mk (Kd.R_at hq_ HO_8.out); have n1_ := Aside0.mk (below_at hq_ HB.out); clear hq_ HO_8 HB; have HO_8 := n0_; have HB := n1_; clear n0_ n1_; (try (have HP50 := Kd.R_putg HO_8.out (x9_1 : Int) (wrap64 ((rd x8_2 (ji28)) + ((rd_T55 l0 x10_2).f1))))))); refine store_event (t := 3) (p := 100) (v := ?vo_w51) (w1 := (wc.setCell ⟨go12, (x9_1 : Int).toNat, none⟩ (.int .i64 (wrap64 ((rd x8_2 (ji28)) + ((rd_T55 l0 x10_2).f1)))))) ?hg ?ho ?hn ?hr ?_; (case ho => rfl); (case hg => rfl); (case hn => rfl); (case hr => first | (go_simp; done) | (go_simp; rfl)); intro w51 hw; have hg : wc.grownBy w51 (some go12) := (by rw [hw]; exact HP50.2); have hp_ : Kd.R (Kd.int .i64) 3 w51 w.heap.size (fun _ => True) (.slice (some ⟨go12, 0, none⟩) x8_2.length co12) y212 := (by rw [hw, Ny212.out]; exact HP50.1); clear HP50; have n0_ := Aside0.mk (hp_); have n1_ := Aside0.mk ((by rw [hw]; exact below_set (HB.out) GB12.out : Below w.heap.size w w51)); clear HO_8; clear HB; have HO_8 := n0_; have HB := n1_; clear n0_ n1_; clear hg hw hp_)))
                       (try simp only [← hl8_2])
                       go_roundg kj15
                       case measure => have := HK1.out; have := HK2.out; have := HJ15.out; omega
                       case rel => exact ⟨(y212), (wrap64 (x10_2 + 1)), (by first | rfl | (simp; done) | (simp [*]; done)), H', ⟨by have := HK1.out; have := HK2.out; have := HJ15.out; omega⟩, ⟨by (try simp only [hl8_2]); (with_reducible repeat (first | apply Kd.R_alloc | apply Kd.R_drewN | apply Kd.R_drew)); first | exact HO_8.out | (rw [Ny212.out]; exact (Kd.R_putg (Kd.R_drewN HO_8.out _) (x9_1 : Int) _).1)⟩, ⟨by first | ((repeat (first | (with_reducible first | exact HB.out | apply below_alloc | apply pw_below_drewN | apply below_drew1) | exact HB.out)); done) | exact below_set (pw_below_drewN HB.out _) GB12.out⟩⟩
                      ·
                       rw [if_neg c48] at H
                       have c48b0 : decide ((wrap64 ((rd x8_2 (ji28)) + ((rd_T55 l0 x10_2).f1))) < (rd x8_2 x9_1)) = false := decide_eq_false c48
                       clear c48
                       have H' := Aside0.mk H
                       clear H
                       have p200 : 0 ≤ (x10_2 : Int) := of_decide_eq_true (by first | (with_reducible assumption) | assumption)
                       have q200 : x10_2 < (l0.length : Int) := of_decide_eq_true (by first | (with_reducible assumption) | assumption)
                       obtain ⟨ad200, A200_0, c200_0, e200, hx200_0, hx200_1, hl200_0, hi200_0⟩ := at_T55 HR0.out x10_2 p200 q200
                       cases e200
                       replace hx200_0 := (HB.out.cell (World.block_lt_of_cell? w _ hx200_0)).trans hx200_0
                       replace hx200_1 := (HB.out.cell (World.block_lt_of_cell? w _ hx200_1)).trans hx200_1
                       have HR200_0 := Aside0.mk hi200_0
                       have HC200_0 := Aside0.mk hl200_0
                       clear hi200_0 hl200_0
                       replace p200 := eq_true p200
                       replace q200 := eq_true q200
                       have p201 : 0 ≤ ((ji28) : Int) := of_decide_eq_true (by first | (with_reducible assumption) | assumption)
                       have q201 : (ji28) < (x8_2.length : Int) := of_decide_eq_true (by first | (with_reducible assumption) | assumption)
                       obtain ⟨ad201, e201, hx201_0⟩ := Kd.at_int (Kd.R_reads' HO_8.out).2.2 (ji28) p201 q201
                       obtain rfl : (⟨go12, 0, none⟩ : Addr) = ad201 := (by injection e201)
                       (first | simp only [add_plain] at hx201_0 | simp only [add_at] at hx201_0 | simp only [Addr.add, Nat.zero_add] at hx201_0 | skip)
                       replace p201 := eq_true p201
                       replace q201 := eq_true q201
                       have p202 : 0 ≤ (x10_2 : Int) := of_decide_eq_true (by first | (with_reducible assumption) | assumption)
                       have q202 : x10_2 < (l0.length : Int) := of_decide_eq_true (by first | (with_reducible assumption) | assumption)
                       obtain ⟨ad202, A202_0, c202_0, e202, hx202_0, hx202_1, hl202_0, hi202_0⟩ := at_T55 HR0.out x10_2 p202 q202
                       obtain rfl : ad200 = ad202 := (by injection e202)
                       replace hx202_0 := (HB.out.cell (World.block_lt_of_cell? w _ hx202_0)).trans hx202_0
                       replace hx202_1 := (HB.out.cell (World.block_lt_of_cell? w _ hx202_1)).trans hx202_1
                       have HR202_0 := Aside0.mk hi202_0
                       have HC202_0 := Aside0.mk hl202_0
                       clear hi202_0 hl202_0
                       replace p202 := eq_true p202
                       replace q202 := eq_true q202
                       have ea_ := Option.some.inj (hx200_0.symm.trans hx202_0)
                       injection ea_ with ea_ en_ ec_
                       subst ea_
                       subst ec_
                       clear en_
                       have p209 : 0 ≤ (x9_1 : Int) := of_decide_eq_true (by first | (with_reducible assumption) | assumption)
                       have q209 : x9_1 < (x8_2.length : Int) := of_decide_eq_true (by first | (with_reducible assumption) | assumption)
                       obtain ⟨ad209, e209, hx209_0⟩ := Kd.at_int (Kd.R_reads' HO_8.out).2.2 x9_1 p209 q209
                       obtain rfl : (⟨go12, 0, none⟩ : Addr) = ad209 := (by injection e209)
                       (first | simp only [add_plain] at hx209_0 | simp only [add_at] at hx209_0 | simp only [Addr.add, Nat.zero_add] at hx209_0 | skip)
                       replace p209 := eq_true p209
                       replace q209 := eq_true q209
                       have p211 : 0 ≤ (x9_1 : Int) := of_decide_eq_true (by first | (with_reducible assumption) | assumption)
                       have q211 : x9_1 < (x8_2.length : Int) := of_decide_eq_true (by first | (with_reducible assumption) | assumption)
                       obtain ⟨ad211, e211, hx211_0⟩ := Kd.at_int (Kd.R_reads' HO_8.out).2.2 x9_1 p211 q211
                       obtain rfl : (⟨go12, 0, none⟩ : Addr) = ad211 := (by injection e211)
                       (first | simp only [add_plain] at hx211_0 | simp only [add_at] at hx211_0 | simp only [Addr.add, Nat.zero_add] at hx211_0 | skip)
                       replace p211 := eq_true p211
                       replace q211 := eq_true q211
                       go_wp2
                       repeat (go_quiet (fail); try go_wp2)
                       (try simp only [← hl8_2])
                       go_roundg kj15
                       case measure => have := HK1.out; have := HK2.out; have := HJ15.out; omega
                       case rel => exact ⟨(x8_2), (wrap64 (x10_2 + 1)), (by first | rfl | (simp; done) | (simp [*]; done)), H', ⟨by have := HK1.out; have := HK2.out; have := HJ15.out; omega⟩, ⟨by (try simp only [hl8_2]); (with_reducible repeat (first | apply Kd.R_alloc | apply Kd.R_drewN | apply Kd.R_drew)); exact HO_8.out⟩, ⟨by repeat (first | (with_reducible first | exact HB.out | apply below_alloc | apply pw_below_drewN | apply below_drew1) | exact HB.out)⟩⟩
                    ·
                     rw [if_neg c43] at H
                     exact absurd H (by simp)
                   ·
                    rw [if_neg c42] at H
                    exact absurd H (by simp)
                 ·
                  rw [if_neg c30] at H
                  exact absurd H (by simp)
                ·
                 rw [if_neg c29] at H
                 exact absurd H (by simp)
               ·
                rw [if_neg c27] at H
                exact absurd H (by simp)
              ·
               rw [if_neg c26] at H
               exact absurd H (by simp)
          ·
           rw [if_neg c15] at H
           have c15b0 : decide (x10_2 < (l0.length : Int)) = false := decide_eq_false c15
           clear c15
           have H' := Aside0.mk H
           clear H
           go_wp2
           repeat (go_quiet (fail); try go_wp2)
           (try simp only [← hl8_2])
           go_roundg k2
           case measure => have := HK1.out; have := HK2.out; omega
           case rel => exact ⟨(x8_2), (wrap64 (x9_1 - 1)), (by first | rfl | (simp; done) | (simp [*]; done)), H', ⟨by have := HK1.out; have := HK2.out; omega⟩, ⟨by (try simp only [hl8_2]); (with_reducible repeat (first | apply Kd.R_alloc | apply Kd.R_drewN | apply Kd.R_drew)); exact HO_8.out⟩, ⟨by repeat (first | (with_reducible first | exact HB.out | apply below_alloc | apply pw_below_drewN | apply below_drew1) | exact HB.out)⟩⟩
       ·
        rw [if_neg c11] at H
        exact absurd H (by simp)
      ·
       rw [if_neg c10] at H
       exact absurd H (by simp)
     ·
      rw [if_neg c9] at H
      have c9b0 : decide (0 ≤ x9_1) = false := decide_eq_false c9
      clear c9
      obtain rfl := Option.some.inj H
      go_wp2
      repeat (go_quiet (fail); try go_wp2)
      go_ret
      exact ⟨_, by first | rfl | (simp [errW_none, errW_some] <;> rfl) | (simp only [← hji4]; first | rfl | (simp [errW_none, errW_some] <;> rfl)) | (simp [*, errW_none, errW_some] <;> rfl), by (with_reducible repeat (first | apply Kd.R_alloc | apply Kd.R_drewN | apply Kd.R_drew)); exact HO_8.out, by repeat (first | (with_reducible first | exact HB.out | apply below_alloc | apply pw_below_drewN | apply below_drew1) | exact HB.out)⟩
  ·
   rw [if_neg c6] at H
   exact absurd H (by simp)
 ·
  rw [if_neg c5] at H
  exact absurd H (by simp)

theorem spec_l2Same_ev (a b : List Int) (hl : a.length ≤ 1000000000000) : Ev (fun k => spec_l2Same.f k a b) (a == b) := by
 unfold spec_l2Same.f
 by_cases hlen : (a.length : Int) = (b.length : Int)
 ·
  refine Ev.pos hlen ?_
  have := Ev.over (0 : Int) a (fun k (_ : Unit) i => spec_l2Same.l0 k a b i) (fun _ rest => rest == b.drop (a.length - rest.length)) (fun _ _ => True) (by
   intro s _
   refine Ev.succ ?_
   simp only [spec_l2Same.l0]
   refine Ev.eqr (Ev.neg (by omega) (Ev.now _)) ?_
   have : b.drop a.length = [] := List.drop_eq_nil_of_le (by omega)
   simp [this]) (by
   intro s i rest _ hi hdr ih
   have hrl : rest.length + 1 + i = a.length := by
    have := congrArg List.length hdr
    simp at this; omega
   refine Ev.succ ?_
   simp only [spec_l2Same.l0]
   rw [w64 (by omega) (by omega)]
   refine Ev.pos (by omega) (Ev.pos (by omega) (Ev.pos (by omega) ?_))
   have hra : rd a (i : Int) = a.getD i 0 := rfl
   have hrb : rd b (i : Int) = b.getD i 0 := rfl
   rw [hra, hrb]
   have e2 : a.length - (a.getD i 0 :: rest).length = i := by simp; omega
   have e1 : a.length - rest.length = i + 1 := by omega
   have e3 : b.drop i = b.getD i 0 :: b.drop (i + 1) := by
    rw [List.drop_eq_getElem_cons (by omega), List.getD_eq_getElem?_getD, List.getElem?_eq_getElem (by omega)]; rfl
   rw [e2, e3]
   have ih := ih () trivial
   rw [e1] at ih
   by_cases h : a.getD i 0 = b.getD i 0
   ·
    refine Ev.pos h (Ev.eqr ih ?_)
    rw [h, Bool.eq_iff_iff]; simp
   ·
    refine Ev.neg h (Ev.eqr (Ev.now _) ?_)
    symm; rw [beq_eq_false_iff_ne]; intro hc; exact h (List.cons.inj hc).1) 0 () (Nat.zero_le _) trivial
  simpa using this
 ·
  refine Ev.neg hlen (Ev.eqr (Ev.now _) ?_)
  symm; rw [beq_eq_false_iff_ne]; rintro rfl; exact hlen rfl
theorem spec_l6fOne_ev (x : S55) (hl : x.f0.length ≤ 1000000000000) : Ev (fun k => spec_l6fOne.f k x.f0 x.f1) (fOk x) := by
 unfold spec_l6fOne.f
 have := Ev.over (0 : Int) x.f0 (fun k (_ : Unit) i => spec_l6fOne.l0 k i x.f0 x.f1) (fun _ rest => rest.all (inR (-7) 7) && (decide (1 ≤ (x.f0.length : Int) ∧ (x.f0.length : Int) ≤ 5) && decide (1 ≤ x.f1 ∧ x.f1 ≤ 9))) (fun _ _ => True) (by
  intro s _
  refine Ev.succ ?_
  simp only [spec_l6fOne.l0, List.all_nil, Bool.true_and]
  refine Ev.neg (by omega) (Ev.conb (spec_l6In_eq _ _ _) ?_)
  by_cases h : 1 ≤ (x.f0.length : Int) ∧ (x.f0.length : Int) ≤ 5
  ·
   rw [decide_eq_true h]
   exact Ev.pos rfl (Ev.conb (spec_l6In_eq _ _ _) (Ev.now _))
  ·
   rw [decide_eq_false h]
   exact Ev.neg (by simp) (Ev.now _)) (by
  intro s i rest _ hi _ ih
  refine Ev.succ ?_
  simp only [spec_l6fOne.l0, List.all_cons]
  rw [w64 (by omega) (by omega)]
  refine Ev.pos (by omega) (Ev.pos (by omega) (Ev.conb (spec_l6In_eq _ _ _) ?_))
  have hrd : rd x.f0 (i : Int) = x.f0.getD i 0 := rfl
  rw [hrd]
  show Ev _ ((decide (-7 ≤ x.f0.getD i 0 ∧ x.f0.getD i 0 ≤ 7) && _) && _)
  by_cases h : -7 ≤ x.f0.getD i 0 ∧ x.f0.getD i 0 ≤ 7
  ·
   rw [decide_eq_true h]
   exact Ev.pos rfl (ih () trivial)
  ·
   rw [decide_eq_false h]
   exact Ev.neg (by simp) (Ev.now _)) 0 () (Nat.zero_le _) trivial
 refine Ev.eqr (by simpa using this) ?_
 unfold fOk
 cases x.f0.all (inR (-7) 7) <;> simp
theorem spec_FormulasValid_ev (l : List S55) (hll : l.length ≤ 1000000000000) (hl : ∀ x ∈ l, x.f0.length ≤ 1000000000000) : Ev (fun k => spec_FormulasValid.f k l) (fsOk l) := by
 unfold spec_FormulasValid.f
 have := Ev.over z55 l (fun k (_ : Unit) i => spec_FormulasValid.l0 k l i) (fun _ rest => goF (l.take (l.length - rest.length)) rest && decide ((l.length : Int) ≤ 8)) (fun _ _ => True) (by
  intro s _
  refine Ev.succ ?_
  simp only [spec_FormulasValid.l0, goF, Bool.true_and]
  exact Ev.neg (by omega) (Ev.now _)) (by
  intro s i rest _ hi hdr ih
  have hrl : rest.length + 1 + i = l.length := by
   have := congrArg List.length hdr
   simp at this; omega
  have hm : l.getD i z55 ∈ l := by
   rw [List.getD_eq_getElem?_getD, List.getElem?_eq_getElem hi]; exact List.getElem_mem hi
  have hx := hl _ hm
  refine Ev.succ ?_
  simp only [spec_FormulasValid.l0]
  refine Ev.pos (by omega) (Ev.pos (by omega) ?_)
  have hrd : rd_T55 l (i : Int) = l.getD i z55 := rfl
  have e2 : l.length - (l.getD i z55 :: rest).length = i := by simp; omega
  have e1 : l.length - rest.length = i + 1 := by omega
  have ih := ih () trivial
  rw [e1, take_rd l i hi] at ih
  rw [e2]
  rw [← hrd] at hx ih ⊢
  simp only [goF]
  refine Ev.bind (spec_l6fOne_ev _ hx) ?_
  cases hf : fOk (rd_T55 l (i : Int))
  ·
   exact Ev.neg (by simp) (Ev.now _)
  refine Ev.pos rfl ?_
  simp only [Bool.true_and]
  have htl : (l.take i).length = i := by simp; omega
  have inner := Ev.over z55 (l.take i) (fun k (_ : Unit) j => spec_FormulasValid.l1 k l i j) (fun _ rest' => (!(rest'.any (fun y => y.f0 == (rd_T55 l (i : Int)).f0)) && goF (l.take i ++ [rd_T55 l (i : Int)]) rest) && decide ((l.length : Int) ≤ 8)) (fun _ _ => True) (by
   intro s _
   refine Ev.succ ?_
   simp only [spec_FormulasValid.l1]
   refine Ev.neg (by omega) ?_
   rw [w64 (by omega) (by omega)]
   simpa using ih) (by
   intro s j rest' _ hj _ ih'
   have hjm : (l.take i).getD j z55 ∈ l := by
    rw [List.getD_eq_getElem?_getD, List.getElem?_eq_getElem hj]; exact List.mem_of_mem_take (List.getElem_mem hj)
   have hxj := hl _ hjm
   refine Ev.succ ?_
   simp only [spec_FormulasValid.l1]
   refine Ev.pos (by omega) (Ev.pos (by omega) (Ev.pos (by omega) (Ev.pos (by omega) (Ev.pos (by omega) ?_))))
   have hrd' : rd_T55 l (j : Int) = (l.take i).getD j z55 := by
    rw [List.getD_eq_getElem?_getD, List.getElem?_take, if_pos (by omega)]
    simp [rd_T55]
   rw [hrd']
   generalize (l.take i).getD j z55 = y at hxj
   refine Ev.bind (spec_l2Same_ev _ _ hx) ?_
   simp only [List.any_cons]
   have hcm : (y.f0 == (rd_T55 l (i : Int)).f0) = ((rd_T55 l (i : Int)).f0 == y.f0) := by rw [Bool.eq_iff_iff, beq_iff_eq, beq_iff_eq]; exact eq_comm
   rw [hcm]
   cases (rd_T55 l (i : Int)).f0 == y.f0
   ·
    refine Ev.neg (by simp) ?_
    rw [w64 (by omega) (by omega)]
    simpa using ih' () trivial
   ·
    exact Ev.pos rfl (Ev.now _)) 0 () (Nat.zero_le _) trivial
  simpa using inner) 0 () (Nat.zero_le _) trivial
 refine Ev.eqr (by simpa using this) ?_
 unfold fsOk
 rw [Bool.and_comm]

theorem spec_l6fAt_ev (f : S55) (S : List Int) (i : Nat) (hi : i ≤ S.length) (hS : S.length ≤ 1000000) (hf : f.f0.length ≤ 1000000) : Ev (fun k => spec_l6fAt.f k f.f0 f.f1 S (i : Int)) (isPre f.f0 (S.drop i)) := by
 unfold spec_l6fAt.f isPre
 rw [w64 (by omega) (by omega)]
 by_cases h : (i : Int) + (f.f0.length : Int) ≤ (S.length : Int)
 ·
  rw [decide_eq_true (by rw [List.length_drop]; omega : f.f0.length ≤ (S.drop i).length), Bool.true_and]
  refine Ev.pos h (Ev.pos (by omega) (Ev.pos (by omega) ?_))
  have e : ((S.take ((i : Int) + (f.f0.length : Int)).toNat).drop (i : Int).toNat) = (S.drop i).take f.f0.length := by
   have e1 : ((i : Int) + (f.f0.length : Int)).toNat = i + f.f0.length := by omega
   rw [e1, Int.toNat_natCast, List.drop_take]
   congr 1; omega
  rw [e]
  exact Ev.bind (spec_l2Same_ev _ _ (by rw [List.length_take, List.length_drop]; omega)) (Ev.now _)
 ·
  rw [decide_eq_false (by rw [List.length_drop]; omega : ¬ f.f0.length ≤ (S.drop i).length)]
  exact Ev.neg h (Ev.now _)
theorem spec_l6fSteps_ev (S : List Int) (hS : S.length ≤ 1000000000000) : Ev (fun k => spec_l6fSteps.f k S) (decide (S.length ≤ 23) && S.all (inR (-20) 20)) := by
 unfold spec_l6fSteps.f
 have := Ev.over (0 : Int) S (fun k (_ : Unit) i => spec_l6fSteps.l0 k S i) (fun _ rest => rest.all (inR (-20) 20) && decide (S.length ≤ 23)) (fun _ _ => True) (by
  intro s _
  refine Ev.succ ?_
  simp only [spec_l6fSteps.l0]
  refine Ev.neg (by omega) (Ev.eqr (Ev.now _) ?_)
  simp only [List.all_nil, Bool.true_and]
  rw [Bool.eq_iff_iff]; simp; omega) (by
  intro s i rest _ hi _ ih
  refine Ev.succ ?_
  simp only [spec_l6fSteps.l0, List.all_cons]
  rw [w64 (by omega) (by omega)]
  refine Ev.pos (by omega) (Ev.pos (by omega) (Ev.conb (spec_l6In_eq _ _ _) ?_))
  have hrd : rd S (i : Int) = S.getD i 0 := rfl
  rw [hrd]
  show Ev _ ((decide (-20 ≤ S.getD i 0 ∧ S.getD i 0 ≤ 20) && _) && _)
  by_cases h : -20 ≤ S.getD i 0 ∧ S.getD i 0 ≤ 20
  ·
   rw [decide_eq_true h]
   exact Ev.pos rfl (ih () trivial)
  ·
   rw [decide_eq_false h]
   exact Ev.neg (by simp) (Ev.now _)) 0 () (Nat.zero_le _) trivial
 refine Ev.eqr (by simpa using this) ?_
 rw [Bool.and_comm]
theorem spec_l6fOk_ev (L : List S55) (S : List Int) (hll : L.length ≤ 1000000000000) (hl : ∀ x ∈ L, x.f0.length ≤ 1000000000000) (hS : S.length ≤ 1000000000000) : Ev (fun k => spec_l6fOk.f k L S) (okR L S) := by
 unfold spec_l6fOk.f okR
 refine Ev.bind (spec_FormulasValid_ev L hll hl) ?_
 cases fsOk L
 ·
  exact Ev.neg (by simp) (Ev.now _)
 ·
  refine Ev.pos rfl ?_
  rw [Bool.true_and]
  exact Ev.bind (spec_l6fSteps_ev S hS) (Ev.now _)

theorem getD_set_self {y : List Int} {i : Nat} (v : Int) (h : i < y.length) : (y.set i v).getD i 0 = v := by
 rw [List.getD_eq_getElem?_getD, List.getElem?_set_self h]; rfl
theorem getD_set_other {y : List Int} {i j : Nat} (v : Int) (h : i ≠ j) : (y.set i v).getD j 0 = y.getD j 0 := by
 rw [List.getD_eq_getElem?_getD, List.getElem?_set_ne h, ← List.getD_eq_getElem?_getD]
theorem ext_getD {a b : List Int} (h : a.length = b.length) (h' : ∀ j, j < a.length → a.getD j 0 = b.getD j 0) : a = b := by
 apply List.ext_getElem h
 intro j h1 h2
 have := h' j h1
 rw [List.getD_eq_getElem?_getD, List.getD_eq_getElem?_getD, List.getElem?_eq_getElem h1, List.getElem?_eq_getElem h2] at this
 exact this

theorem goF_pw : ∀ {l acc : List S55}, goF acc l = true → (∀ a ∈ acc, ∀ b ∈ l, a.f0 ≠ b.f0) ∧ l.Pairwise (fun a b => a.f0 ≠ b.f0)
 | [], acc, _ => ⟨by simp, List.Pairwise.nil⟩
 | x :: xs, acc, h => by
  simp only [goF, Bool.and_eq_true, Bool.not_eq_true', List.any_eq_false, beq_iff_eq] at h
  obtain ⟨_, h1, h2⟩ := h
  obtain ⟨h3, h4⟩ := goF_pw h2
  refine ⟨fun a ha b hb => ?_, List.pairwise_cons.2 ⟨fun b hb => h3 x (by simp) b hb, h4⟩⟩
  rcases List.mem_cons.1 hb with rfl | hb
  ·
   exact h1 a ha
  ·
   exact h3 a (List.mem_append_left _ ha) b hb
def sumB (s : List Int) : List S55 → Nat
 | [] => 0
 | f :: fs => (if isPre f.f0 s = true then 2 ^ (s.length - f.f0.length) else 0) + sumB s fs
theorem sum_pow : ∀ (n : Nat) (ks : List Nat), ks.Nodup → (∀ k ∈ ks, 1 ≤ k ∧ k ≤ n) → (ks.map (fun k => 2 ^ (n - k))).sum + 1 ≤ 2 ^ n
 | 0, ks, _, h => by
  cases ks with
  | nil => simp
  | cons k ks => have := h k (by simp); omega
 | n + 1, ks, hn, h => by
  have key : ∀ l : List Nat, (∀ k ∈ l, k ≤ n) → (l.map (fun k => 2 ^ (n + 1 - k))).sum = 2 * (l.map (fun k => 2 ^ (n - k))).sum := by
   intro l
   induction l with
   | nil => intro _; rfl
   | cons k l ih =>
    intro hl
    have h1 := hl k (by simp)
    have e : n + 1 - k = (n - k) + 1 := by omega
    simp only [List.map_cons, List.sum_cons]
    rw [ih (fun k hk => hl k (by simp [hk])), e, Nat.pow_succ]; omega
  by_cases hm : n + 1 ∈ ks
  ·
   have hp := List.perm_cons_erase hm
   have h1 := sum_pow n (ks.erase (n + 1)) (hn.erase _) (fun k hk => by
    have h2 := h k (List.mem_of_mem_erase hk)
    have : k ≠ n + 1 := fun e => by subst e; exact (List.Nodup.not_mem_erase hn) hk
    omega)
   have h2 := (hp.map (fun k => 2 ^ (n + 1 - k))).sum_nat
   rw [h2, List.map_cons, List.sum_cons, key _ (fun k hk => by
    have h2 := h k (List.mem_of_mem_erase hk)
    have : k ≠ n + 1 := fun e => by subst e; exact (List.Nodup.not_mem_erase hn) hk
    omega), Nat.sub_self, Nat.pow_succ]
   omega
  ·
   rw [key _ (fun k hk => by have := h k hk; have : k ≠ n + 1 := fun e => hm (e ▸ hk); omega)]
   have h1 := sum_pow n ks hn (fun k hk => by have := h k hk; have : k ≠ n + 1 := fun e => hm (e ▸ hk); omega)
   rw [Nat.pow_succ]; omega
theorem isPre_take {p s : List Int} (h : isPre p s = true) : s.take p.length = p := by
 unfold isPre at h; simp at h; exact h.2
theorem sumB_eq (s : List Int) : ∀ L : List S55, sumB s L = (((L.filter (fun f => isPre f.f0 s)).map (fun f => f.f0.length)).map (fun k => 2 ^ (s.length - k))).sum
 | [] => rfl
 | f :: fs => by
  simp only [sumB]
  rw [sumB_eq s fs, List.filter_cons]
  cases isPre f.f0 s <;> simp
theorem sumB_le {s : List Int} {L : List S55} (hL : ∀ f ∈ L, 1 ≤ f.f0.length) (hp : L.Pairwise (fun a b => a.f0 ≠ b.f0)) : sumB s L ≤ 2 ^ s.length := by
 rw [sumB_eq]
 have h1 : ((L.filter (fun f => isPre f.f0 s)).map (fun f => f.f0.length)).Nodup := by
  rw [List.nodup_iff_pairwise_ne, List.pairwise_map]
  have h2 := hp.filter (fun f => isPre f.f0 s)
  refine List.Pairwise.imp_of_mem (fun {a b} ha hb h => ?_) h2
  intro e
  have h3 := isPre_take (List.mem_filter.1 ha).2
  have h4 := isPre_take (List.mem_filter.1 hb).2
  rw [e] at h3
  exact h (h3.symm.trans h4)
 have := sum_pow s.length _ h1 (fun k hk => by
  obtain ⟨f, hf, rfl⟩ := List.mem_map.1 hk
  obtain ⟨hf1, hf2⟩ := List.mem_filter.1 hf
  exact ⟨hL f hf1, isPre_len hf2⟩)
 omega
/-- A least sum, -1 for none. -/
def lA (c : S55 → Int) (g : List Int → Int) (s : List Int) : List S55 → Int → Int
 | [], a => a
 | f :: fs, a => if isPre f.f0 s = true then (if g (s.drop f.f0.length) < 0 then lA c g s fs a else lA c g s fs (if a < 0 ∨ g (s.drop f.f0.length) + c f < a then g (s.drop f.f0.length) + c f else a)) else lA c g s fs a
def oW (o : OutC) : Int := if o.f0 = 0 then -1 else o.f1
def oF (o : OutC) : Int := if o.f0 = 0 then -1 else o.f2
structure OBd (n : Nat) (o : OutC) : Prop where
 lo : 0 ≤ o.f0
 hi : o.f0 ≤ ((2 ^ n : Nat) : Int)
 w0 : o.f0 ≠ 0 → 0 ≤ o.f1
 w1 : o.f0 ≠ 0 → o.f1 ≤ 9 * (n : Int)
 f0 : o.f0 ≠ 0 → 0 ≤ o.f2
 f1 : o.f0 ≠ 0 → o.f2 ≤ (n : Int)
theorem OBd.oW {n : Nat} {o : OutC} (h : OBd n o) : -1 ≤ Pure.oW o ∧ Pure.oW o ≤ 9 * (n : Int) := by
 unfold Pure.oW
 by_cases hz : o.f0 = 0
 ·
  rw [if_pos hz]; omega
 ·
  rw [if_neg hz]; have := h.w0 hz; have := h.w1 hz; omega
theorem OBd.oF {n : Nat} {o : OutC} (h : OBd n o) : -1 ≤ Pure.oF o ∧ Pure.oF o ≤ (n : Int) := by
 unfold Pure.oF
 by_cases hz : o.f0 = 0
 ·
  rw [if_pos hz]; omega
 ·
  rw [if_neg hz]; have := h.f0 hz; have := h.f1 hz; omega
theorem outW_plain {n m : Nat} {o r : OutC} {f : S55} (hn : n ≤ 23) (hm : m + f.f0.length ≤ n) (hf : 1 ≤ f.f0.length) (hw : 1 ≤ f.f1 ∧ f.f1 ≤ 9) (h1 : OBd n o) (h2 : OBd m r) (hr : r.f0 ≠ 0) (hs : o.f0 + r.f0 ≤ ((2 ^ n : Nat) : Int)) :
  OBd n (outW o f r) ∧ (outW o f r).f0 = o.f0 + r.f0 ∧ oW (outW o f r) = (if oW o < 0 ∨ oW r + f.f1 < oW o then oW r + f.f1 else oW o) ∧ oF (outW o f r) = (if oF o < 0 ∨ oF r + 1 < oF o then oF r + 1 else oF o) := by
 have hp : (2 : Nat) ^ n ≤ 2 ^ 23 := Nat.pow_le_pow_right (by omega) hn
 have hp' : (2 : Nat) ^ 23 = 8388608 := rfl
 obtain ⟨a1, a2, a3, a4, a5, a6⟩ := h1
 obtain ⟨b1, b2, b3, b4, b5, b6⟩ := h2
 have b3 := b3 hr; have b4 := b4 hr; have b5 := b5 hr; have b6 := b6 hr
 have hne : o.f0 + r.f0 ≠ 0 := by omega
 unfold outW
 by_cases h : o.f0 > 0
 ·
  have hz : o.f0 ≠ 0 := by omega
  have a3 := a3 hz; have a4 := a4 hz; have a5 := a5 hz; have a6 := a6 hz
  rw [if_pos h, w64 (x := o.f0 + r.f0) (by omega) (by omega), w64 (x := f.f1 + r.f1) (by omega) (by omega), w64 (x := 1 + r.f2) (by omega) (by omega)]
  have m1 := mn_le (f.f1 + r.f1) o.f1
  have m2 := mn_le (1 + r.f2) o.f2
  refine ⟨⟨by simp only []; omega, hs, fun _ => by simp only []; omega, fun _ => by simp only []; omega, fun _ => by simp only []; omega, fun _ => by simp only []; omega⟩, rfl, ?_, ?_⟩
  ·
   unfold oW
   simp only []
   rw [if_neg hne, if_neg hz, if_neg hr]
   by_cases hc : r.f1 + f.f1 < o.f1
   ·
    rw [if_pos (.inr hc)]; omega
   ·
    rw [if_neg (by omega)]; omega
  ·
   unfold oF
   simp only []
   rw [if_neg hne, if_neg hz, if_neg hr]
   by_cases hc : r.f2 + 1 < o.f2
   ·
    rw [if_pos (.inr hc)]; omega
   ·
    rw [if_neg (by omega)]; omega
 ·
  have hz : o.f0 = 0 := by omega
  rw [if_neg h, w64 (x := o.f0 + r.f0) (by omega) (by omega), w64 (x := f.f1 + r.f1) (by omega) (by omega), w64 (x := 1 + r.f2) (by omega) (by omega)]
  refine ⟨⟨by simp only []; omega, hs, fun _ => by simp only []; omega, fun _ => by simp only []; omega, fun _ => by simp only []; omega, fun _ => by simp only []; omega⟩, rfl, ?_, ?_⟩
  ·
   unfold oW
   simp only []
   rw [if_neg hne, if_pos hz, if_neg hr, if_pos (.inl (by omega))]; omega
  ·
   unfold oF
   simp only []
   rw [if_neg hne, if_pos hz, if_neg hr, if_pos (.inl (by omega))]; omega
theorem rdA_plain {rec : List Int → OutC} {s : List Int} (hs : s.length ≤ 23) (hrec : ∀ k, 1 ≤ k → k ≤ s.length → OBd (s.length - k) (rec (s.drop k))) :
  ∀ (L : List S55) (acc : OutC), (∀ f ∈ L, 1 ≤ f.f0.length ∧ 1 ≤ f.f1 ∧ f.f1 ≤ 9) → OBd s.length acc → acc.f0 + (sumB s L : Int) ≤ ((2 ^ s.length : Nat) : Int) →
   OBd s.length (rdA rec s L acc) ∧ oW (rdA rec s L acc) = lA (fun f => f.f1) (fun t => oW (rec t)) s L (oW acc) ∧ oF (rdA rec s L acc) = lA (fun _ => 1) (fun t => oF (rec t)) s L (oF acc)
 | [], acc, _, h, _ => ⟨h, rfl, rfl⟩
 | f :: fs, acc, hL, h, hb => by
  have hf := hL f (by simp)
  have hL' := fun g hg => hL g (List.mem_cons_of_mem _ hg)
  simp only [rdA, lA, sumB] at hb ⊢
  by_cases hp : isPre f.f0 s = true
  ·
   rw [if_pos hp] at hb
   rw [if_pos hp, if_pos hp, if_pos hp]
   have hl := isPre_len hp
   have hr := hrec f.f0.length hf.1 hl
   generalize rec (s.drop f.f0.length) = r at hr ⊢
   rw [Int.natCast_add] at hb
   have hbr := hr.hi
   by_cases hz : r.f0 = 0
   ·
    have e1 : oW r = -1 := if_pos hz
    have e2 : oF r = -1 := if_pos hz
    rw [if_pos hz, if_pos (by rw [e1]; omega), if_pos (by rw [e2]; omega)]
    have := hr.lo
    exact rdA_plain hs hrec fs acc hL' h (by omega)
   ·
    have e1 : ¬ oW r < 0 := by unfold oW; rw [if_neg hz]; have := hr.w0 hz; omega
    have e2 : ¬ oF r < 0 := by unfold oF; rw [if_neg hz]; have := hr.f0 hz; omega
    rw [if_neg hz, if_neg e1, if_neg e2]
    obtain ⟨o1, o2, o3, o4⟩ := outW_plain (n := s.length) (m := s.length - f.f0.length) (o := acc) (r := r) (f := f) hs (by omega) hf.1 hf.2 h hr hz (by omega)
    rw [← o3, ← o4]
    exact rdA_plain hs hrec fs (outW acc f r) hL' o1 (by rw [o2]; omega)
  ·
   rw [if_neg hp] at hb
   rw [if_neg hp, if_neg hp, if_neg hp]
   exact rdA_plain hs hrec fs acc hL' h (by omega)
/-- What valid formulas are good for. -/
structure FsV (L : List S55) : Prop where
 len : L.length ≤ 8
 one : ∀ f ∈ L, 1 ≤ f.f0.length ∧ f.f0.length ≤ 5
 wt : ∀ f ∈ L, 1 ≤ f.f1 ∧ f.f1 ≤ 9
 pw : L.Pairwise (fun a b => a.f0 ≠ b.f0)
theorem FsV.of {L : List S55} (h : fsOk L = true) : FsV L :=
 ⟨fsOk_len h, fun f hf => fOk_len (fsOk_all h f hf), fun f hf => fOk_weight (fsOk_all h f hf), (goF_pw (acc := []) (by unfold fsOk at h; simp at h; exact h.2)).2⟩
theorem rdO_bd {L : List S55} (hv : FsV L) : ∀ (n : Nat) (s : List Int), s.length = n → n ≤ 23 → OBd n (rdO L s) := by
 intro n
 induction n using Nat.strongRecOn with
 | ind n ih =>
  intro s hs hn
  by_cases hne : s = []
  ·
   subst hne
   simp at hs
   subst hs
   rw [rdO_nil]
   exact ⟨by simp, by simp, by simp, by simp, by simp, by simp⟩
  ·
   rw [rdO_step (fun f hf => (hv.one f hf).1) hne]
   subst hs
   refine (rdA_plain hn (fun k hk hk' => ih (s.length - k) (by omega) _ (by rw [List.length_drop]) (by omega)) L ⟨0, 0, 0⟩ (fun f hf => ⟨(hv.one f hf).1, hv.wt f hf⟩) ⟨by simp, Int.natCast_nonneg _, by simp, by simp, by simp, by simp⟩ ?_).1
   have := sumB_le (s := s) (fun f hf => (hv.one f hf).1) hv.pw
   simp only [Int.zero_add]
   exact_mod_cast this
theorem rdO_least {L : List S55} (hv : FsV L) {s : List Int} (hs : s.length ≤ 23) (hne : s ≠ []) :
  oW (rdO L s) = lA (fun f => f.f1) (fun t => oW (rdO L t)) s L (-1) ∧ oF (rdO L s) = lA (fun _ => 1) (fun t => oF (rdO L t)) s L (-1) := by
 have h := rdA_plain (rec := rdO L) (s := s) hs (fun k hk hk' => rdO_bd hv (s.length - k) _ (by rw [List.length_drop]) (by omega)) L ⟨0, 0, 0⟩ (fun f hf => ⟨(hv.one f hf).1, hv.wt f hf⟩) ⟨by simp, Int.natCast_nonneg _, by simp, by simp, by simp, by simp⟩ (by
  have := sumB_le (s := s) (fun f hf => (hv.one f hf).1) hv.pw
  simp only [Int.zero_add]
  exact_mod_cast this)
 rw [rdO_step (fun f hf => (hv.one f hf).1) hne]
 exact ⟨h.2.1, h.2.2⟩

theorem spec_l6fLeast_inner {L : List S55} {S : List Int} (hv : FsV L) (hS : S.length ≤ 23) (one : Bool) (i : Nat) (hi : i < S.length) (R : List Int) (c : S55 → Int) (hc : ∀ f ∈ L, c f = (if one = true then 1 else f.f1))
  (W : Nat → Int) (hWb : ∀ j, j ≤ S.length → -1 ≤ W j ∧ W j ≤ 9 * (S.length : Int)) (g : List Int → Int) (hg : ∀ j, W j = g (S.drop j)) (hWi : W i = lA c g (S.drop i) L (-1))
  (hnext : ∀ y : List Int, y.length = S.length + 1 → (∀ j, i ≤ j → j ≤ S.length → y.getD j 0 = W j) → Ev (fun k => spec_l6fLeast.l0 k L S one y ((i : Int) - 1)) R)
  (y : List Int) (hy : y.length = S.length + 1) (hy1 : ∀ j, i < j → j ≤ S.length → y.getD j 0 = W j) (hy2 : y.getD i 0 = -1) :
  Ev (fun k => spec_l6fLeast.l1 k L S one y (i : Int) 0) R := by
 have hll := hv.len
 have := Ev.over z55 L (fun k (y : List Int) q => spec_l6fLeast.l1 k L S one y (i : Int) q) (fun _ _ => R) (fun q y => y.length = S.length + 1 ∧ (∀ j, i < j → j ≤ S.length → y.getD j 0 = W j) ∧ lA c g (S.drop i) (L.drop q) (y.getD i 0) = W i) (by
  intro y ⟨h1, h2, h4⟩
  rw [List.drop_length] at h4
  simp only [lA] at h4
  refine Ev.succ ?_
  simp only [spec_l6fLeast.l1]
  refine Ev.neg (by omega) ?_
  rw [w64 (by omega) (by omega)]
  exact hnext y h1 (fun j hj hj' => by rcases Nat.lt_or_eq_of_le hj with h | h; exact h2 j h hj'; rw [← h]; exact h4)) (by
  intro y q rest ⟨h1, h2, h4⟩ hq hdr ih
  have hm : L.getD q z55 ∈ L := by
   rw [List.getD_eq_getElem?_getD, List.getElem?_eq_getElem hq]; exact List.getElem_mem hq
  have hf := hv.one _ hm
  have hw := hv.wt _ hm
  have hcf := hc _ hm
  have hrest : rest = L.drop (q + 1) := by
   rw [List.drop_eq_getElem_cons hq] at hdr
   exact ((List.cons.inj hdr).2).symm
  rw [hdr] at h4
  simp only [lA] at h4
  refine Ev.succ ?_
  simp only [spec_l6fLeast.l1]
  have hrd : rd_T55 L (q : Int) = L.getD q z55 := rfl
  rw [hrd]
  obtain ⟨f, hfe⟩ : ∃ f, f = L.getD q z55 := ⟨_, rfl⟩
  rw [← hfe] at hf h4 hw hcf hrd ⊢
  refine Ev.pos (by omega) (Ev.pos (by omega) (Ev.bind (spec_l6fAt_ev f S i (by omega) (by omega) (by omega)) ?_))
  cases hp : isPre f.f0 (S.drop i)
  ·
   rw [if_neg (by rw [hp]; simp)] at h4
   refine Ev.neg (by simp) (Ev.succ ?_)
   simp only [spec_l6fLeast.j2]
   rw [w64 (x := (q : Int) + 1) (by omega) (by omega)]
   refine Ev.pos trivial (ih y ⟨h1, h2, ?_⟩)
   rw [← hrest]; exact h4
  ·
   rw [if_pos hp] at h4
   have hl := isPre_len hp
   rw [List.length_drop] at hl
   have e2 : rd y ((i : Int) + (f.f0.length : Int)) = W (i + f.f0.length) := by
    have : ((i : Int) + (f.f0.length : Int)).toNat = i + f.f0.length := by omega
    unfold rd
    rw [this]; exact h2 _ (by omega) (by omega)
   have e1 : rd y (i : Int) = y.getD i 0 := rfl
   have hWb := hWb (i + f.f0.length) (by omega)
   rw [List.drop_drop, ← hg] at h4
   rw [w64 (x := (i : Int) + (f.f0.length : Int)) (by omega) (by omega), e2]
   refine Ev.pos rfl (Ev.pos (by omega) (Ev.pos (by omega) (Ev.succ ?_)))
   simp only [spec_l6fLeast.j2]
   rw [hrd, w64 (x := (i : Int) + (f.f0.length : Int)) (by omega) (by omega), e2, e1, w64 (x := (q : Int) + 1) (by omega) (by omega)]
   by_cases hneg : W (i + f.f0.length) < 0
   ·
    rw [if_pos hneg] at h4
    refine Ev.pos (decide_eq_true hneg) (ih y ⟨h1, h2, ?_⟩)
    rw [← hrest]; exact h4
   ·
    rw [if_neg hneg] at h4
    rw [w64 (x := W (i + f.f0.length) + 1) (by omega) (by omega), w64 (x := W (i + f.f0.length) + f.f1) (by omega) (by omega)]
    refine Ev.neg (by rw [decide_eq_false hneg]; simp) (Ev.pos (by omega) (Ev.pos (by omega) (Ev.pos (by omega) (Ev.pos (by omega) ?_))))
    have put : ∀ x : Int, x = W (i + f.f0.length) + c f → (y.getD i 0 < 0 ∨ x < y.getD i 0) → Ev (fun k => spec_l6fLeast.l1 k L S one (y.set i x) (i : Int) ((q : Int) + 1)) R := by
     intro x hx hlt
     subst hx
     rw [if_pos hlt] at h4
     refine ih _ ⟨by rw [List.length_set]; exact h1, fun j hj hj' => by rw [getD_set_other _ (by omega)]; exact h2 j hj hj', ?_⟩
     rw [getD_set_self _ (by omega), ← hrest]
     exact h4
    have keep : ∀ x : Int, x = W (i + f.f0.length) + c f → ¬ (y.getD i 0 < 0 ∨ x < y.getD i 0) → Ev (fun k => spec_l6fLeast.l1 k L S one y (i : Int) ((q : Int) + 1)) R := by
     intro x hx hlt
     subst hx
     rw [if_neg hlt] at h4
     exact ih y ⟨h1, h2, by rw [← hrest]; exact h4⟩
    cases one
    ·
     rw [if_neg (by simp)] at hcf
     refine Ev.neg (by simp) (Ev.pos (by omega) (Ev.pos (by omega) ?_))
     rw [Int.toNat_natCast]
     by_cases a1 : y.getD i 0 < 0
     ·
      exact Ev.pos a1 (put _ (by rw [hcf]) (.inl a1))
     ·
      refine Ev.neg a1 ?_
      by_cases a2 : W (i + f.f0.length) + f.f1 < y.getD i 0
      ·
       exact Ev.pos a2 (put _ (by rw [hcf]) (.inr a2))
      ·
       exact Ev.neg a2 (keep _ (by rw [hcf]) (by omega))
    ·
     rw [if_pos rfl] at hcf
     refine Ev.pos rfl (Ev.pos (by omega) (Ev.pos (by omega) ?_))
     rw [Int.toNat_natCast]
     by_cases a1 : y.getD i 0 < 0
     ·
      exact Ev.pos a1 (put _ (by rw [hcf]) (.inl a1))
     ·
      refine Ev.neg a1 ?_
      by_cases a2 : W (i + f.f0.length) + 1 < y.getD i 0
      ·
       exact Ev.pos a2 (put _ (by rw [hcf]) (.inr a2))
      ·
       exact Ev.neg a2 (keep _ (by rw [hcf]) (by omega))) 0 y (Nat.zero_le _) ⟨hy, hy1, by rw [hy2, List.drop_zero]; exact hWi.symm⟩
 simpa using this
def oL (one : Bool) (o : OutC) : Int := if one = true then oF o else oW o
def leastL (L : List S55) (S : List Int) (one : Bool) : List Int := (List.range (S.length + 1)).map (fun j => oL one (rdO L (S.drop j)))
theorem leastL_get {L : List S55} {S : List Int} {one : Bool} {j : Nat} (h : j ≤ S.length) : (leastL L S one).getD j 0 = oL one (rdO L (S.drop j)) := by
 unfold leastL
 rw [List.getD_eq_getElem?_getD, List.getElem?_map, List.getElem?_range (by omega)]; rfl
theorem leastL_len {L : List S55} {S : List Int} {one : Bool} : (leastL L S one).length = S.length + 1 := by unfold leastL; simp
theorem oL_bd {L : List S55} (hv : FsV L) {S : List Int} (hS : S.length ≤ 23) (one : Bool) (j : Nat) (_hj : j ≤ S.length) : -1 ≤ oL one (rdO L (S.drop j)) ∧ oL one (rdO L (S.drop j)) ≤ 9 * (S.length : Int) := by
 have h := rdO_bd hv (S.length - j) (S.drop j) (by rw [List.length_drop]) (by omega)
 have h1 := h.oW
 have h2 := h.oF
 unfold oL
 cases one
 ·
  rw [if_neg (by simp)]; omega
 ·
  rw [if_pos rfl]; omega
theorem oL_nil (L : List S55) (one : Bool) : oL one (rdO L []) = 0 := by rw [rdO_nil]; cases one <;> simp [oL, oF, oW]
theorem spec_l6fLeast_ev {L : List S55} {S : List Int} (hv : FsV L) (hS : S.length ≤ 23) (one : Bool) : Ev (fun k => spec_l6fLeast.f k L S one) (leastL L S one) := by
 have hlo : ∀ i, i < S.length → oL one (rdO L (S.drop i)) = lA (fun f => if one = true then 1 else f.f1) (fun t => oL one (rdO L t)) (S.drop i) L (-1) := by
  intro i hi
  have h := rdO_least hv (s := S.drop i) (by rw [List.length_drop]; omega) (by intro h; have := congrArg List.length h; rw [List.length_drop, List.length_nil] at this; omega)
  unfold oL
  cases one
  ·
   simp only [Bool.false_eq_true, if_false]; exact h.1
  ·
   simp only [if_true]; exact h.2
 have key : ∀ m, m ≤ S.length → ∀ y : List Int, y.length = S.length + 1 → (∀ j, m ≤ j → j ≤ S.length → y.getD j 0 = oL one (rdO L (S.drop j))) → Ev (fun k => spec_l6fLeast.l0 k L S one y ((m : Int) - 1)) (leastL L S one) := by
  intro m
  induction m with
  | zero =>
   intro _ y h1 h2
   refine Ev.succ ?_
   simp only [spec_l6fLeast.l0]
   refine Ev.neg (by omega) (Ev.eqr (Ev.now _) ?_)
   refine ext_getD (by rw [h1, leastL_len]) (fun j hj => ?_)
   rw [h2 j (Nat.zero_le _) (by omega), leastL_get (by omega)]
  | succ m ih =>
   intro hm y h1 h2
   refine Ev.succ ?_
   simp only [spec_l6fLeast.l0]
   have e : ((m + 1 : Nat) : Int) - 1 = (m : Int) := by omega
   rw [e, Int.toNat_natCast]
   refine Ev.pos (by omega) (Ev.pos (by omega) (Ev.pos (by omega) ?_))
   exact spec_l6fLeast_inner hv hS one m (by omega) _ (fun f => if one = true then 1 else f.f1) (fun _ _ => rfl) (fun j => oL one (rdO L (S.drop j))) (fun j hj => oL_bd hv hS one j hj) (fun t => oL one (rdO L t)) (fun _ => rfl) (hlo m (by omega)) (fun y h1 h2 => ih (by omega) y h1 h2) _ (by rw [List.length_set]; exact h1) (fun j hj hj' => by rw [getD_set_other _ (by omega)]; exact h2 j (by omega) hj') (by rw [getD_set_self _ (by omega)])
 unfold spec_l6fLeast.f
 rw [w64 (x := (S.length : Int) + 1) (by omega) (by omega), w64 (x := (S.length : Int) - 1) (by omega) (by omega)]
 have e : ((S.length : Int) + 1).toNat = S.length + 1 := by omega
 rw [e]
 refine Ev.pos (by omega) (Ev.pos (by omega) ?_)
 refine key S.length (Nat.le_refl _) _ (by simp) (fun j hj hj' => ?_)
 obtain rfl : j = S.length := by omega
 rw [List.drop_length, oL_nil, List.getD_eq_getElem?_getD, List.getElem?_replicate, if_pos (by omega)]; rfl

end Go.Proofs.Ytnemcppllfmioaa.Pure
