/- Lemmas on the printed functions for the law FnExactFormulasFirst. -/
import Derived.Test.YtohnkicfnfejnaaQFnExactFormulasFirstq0
import Derived.Test.YtohnkicfnfejnaaQFnExactFormulasFirstq1
import Derived.Test.YtohnkicfnfejnaaQFnExactFormulasFirstq2
import Derived.Test.YtohnkicfnfejnaaQFnExactFormulasFirstq3
import Derived.Test.YtohnkicfnfejnaaQFnExactFormulasFirstq4
import Derived.Test.YtohnkicfnfejnaaQFnExactFormulasFirstq5
import Derived.Deep.RegionHeld3
import Derived.BigRegion
import Derived.Deep.Slices
import Derived.Laws.CopyOwn
namespace Go.Proofs.Ytohnkicfnfejnaa.Pure
set_option linter.unusedVariables false
set_option linter.unusedSimpArgs false
open Go Go.RowKit Go.Proofs.Ytohnkicfnfejnaa.PFnExactFormulasFirst Go.Proofs.YtohnkicfnfejnaaW.PrintWords Go.Proofs.YtohnkicfnfejnaaW.PrintLast Go.Proofs.YtohnkicfnfejnaaW.PrintMore

set_option maxHeartbeats 4000000 in
set_option maxRecDepth 100000 in
theorem impl_FormulasFirst_calls (L : List S40) (S : List Int) (A0 : Option Addr) (c0 : Nat) (A1 : Option Addr) (c1 : Nat) (w : World) (hr0 : Kd.C k40 w A0 L.length L) (hc0 : L.length ≤ c0) (hr1 : Kd.C (Kd.int .i64) w A1 S.length S) (hc1 : S.length ≤ c1) (hL : ∀ x ∈ L, x.f0.length ≤ 1000000000000) (hS : S.length ≤ 1000000000000) :
    Calls Try.prog 26 #[.slice A0 L.length c0, .slice A1 S.length c1] w fun e w' => ∃ v, e = .returned v ∧ Kd.R (Kd.int .i64) 3 w' w.heap.size (fun _ => True) v (fFirst L S) ∧ Below w.heap.size w w' := by
  have hu1 := Try.underlying62
  have hmf : ∀ (fn : Fn) (first cap : Array Value) (w : World), (Instr.makeFunc fn first cap).run Try.prog w = .ok (.func fn first cap) w := fun _ _ _ _ => rfl
  have HR0 := Aside0.mk hr0
  have HR1 := Aside0.mk hr1
  have HCC := Aside0.mk (And.intro hc0 (And.intro hc1 (And.intro hL hS)))
  clear hr0 hr1 hc0 hc1 hL hS
  have ARM0 : True := trivial
  cases hok : okR L S
  · have e : fFirst L S = [] := by unfold fFirst; rw [hok]; rfl
    rw [e]
    have HOK := Aside0.mk hok
    clear hok e
    go_enter Try.func26, Try.ntmps26
    go_upto_region 2 with (first
      | ((with_reducible refine gate_dst (N := 8) rfl ?_); refine Kd.R_lit (Kd.int .i64) _ 3 ?hg (N := 8) ?hd (xs := ([] : List Int)) (inner := []) (ok := fun _ => True) (okp := fun _ => True) ?hr (Reps.none _ _) (fun _ hk => hk) trivial (Below.refl _ _) (Nat.le_refl _) (by simp) ?_; (case hd => rfl); (case hg => rfl); (case hr => first | (go_simp; done) | (go_simp; rfl)); intro v1 w1 ho1 hb1 _ _; obtain ⟨A2, c2, rfl⟩ := Kd.R_slice ho1; have HO1 := Aside0.mk ho1; have HB1 := Aside0.mk hb1; clear ho1 hb1)
      | ((with_reducible refine gate_dst (N := 5) rfl ?_); refine box_event ?hg (N := 5) ?hd (cs := #[.slice none 0 0]) (t := 29) ?hr ?_; (case hd => rfl); (case hg => rfl); (case hr => first | (go_simp; done) | (go_simp; rfl)); intro F1 hg w2 hbox hb; have HO2 := Aside0.mk (Kd.R_below HO1.out hb); have HB2 := Aside0.mk (below_step HB1.out hb); have HBK2 := Aside0.mk hbox; have NF := Aside0.mk (show w.heap.size ≤ F1 from (by rw [hg]; exact HB1.out.size)); have k0 : w2.cell? ⟨F1, 0, none⟩ = some (.slice none 0 0) := (blk_cell hbox 0).trans rfl; have f0 := blk_frozen hbox 0; clear hg hbox hb))
    have HBK3 : Aside0 ((w2.setCell ⟨F1, 0, none⟩ (.slice A2 0 c2)).heap[F1]? = some (.cells #[.slice A2 0 c2] 29 (0, 0))) := ⟨blk_put (cs := #[.slice none 0 0]) HBK2.out 0 _ rfl⟩
    have HB3 : Aside0 (Below w.heap.size w (w2.setCell ⟨F1, 0, none⟩ (.slice A2 0 c2))) := ⟨below_set HB2.out NF.out⟩
    have HO3 : Aside0 (Kd.R (Kd.int .i64) 3 (w2.setCell ⟨F1, 0, none⟩ (.slice A2 0 c2)) w.heap.size (fun _ => True) (.slice A2 0 c2) ([] : List Int)) := ⟨Kd.R_set HO2.out HBK2.out (by intro q hq; have e : q = 3 := (by simpa [Kd.int, Kd.scalar] using hq); subst e; decide) 0 _⟩
    clear HBK2 HB2 HO2 k0 f0 HB1 HO1
    generalize (w2.setCell ⟨F1, 0, none⟩ (.slice A2 0 c2)) = w3 at HBK3 HB3 HO3 ⊢
    go_wp2_with (go_at_call 46; refine (impl_newReader_no (Kd.C_below HR0.out HB3.out) HCC.out.1 (Kd.C_below HR1.out HB3.out) HCC.out.2.1 HCC.out.2.2.1 HCC.out.2.2.2 HOK.out).mono ?_; rintro e w4 ⟨rfl, hb4⟩; have HB4 := Aside0.mk (below_step HB3.out hb4); have HO4 := Aside0.mk (Kd.R_below HO3.out hb4); have HBK4 := Aside0.mk (blk_below HBK3.out hb4); have k0 : w4.cell? ⟨F1, 0, none⟩ = some (.slice A2 0 c2) := (blk_cell HBK4.out 0).trans rfl; clear hb4)
    go_ret
    exact ⟨_, rfl, HO4.out, HB4.out⟩
  · have e : fFirst L S = (rdCalls L S).map (·.1) := by unfold fFirst; rw [hok]; rfl
    obtain ⟨X, hX⟩ : ∃ X, X = (rdCalls L S).map (·.1) := ⟨_, rfl⟩
    rw [e, ← hX]
    have HX := Aside0.mk hX
    obtain ⟨l1, l2, l3⟩ := okR_lens hok
    have HOK := Aside0.mk hok
    have HLS := Aside0.mk (And.intro l1 (And.intro l2 l3))
    clear hok e l1 l2 l3 hX
    go_enter Try.func26, Try.ntmps26
    go_upto_region 2 with (first
      | ((with_reducible refine gate_dst (N := 8) rfl ?_); refine Kd.R_lit (Kd.int .i64) _ 3 ?hg (N := 8) ?hd (xs := ([] : List Int)) (inner := []) (ok := fun _ => True) (okp := fun _ => True) ?hr (Reps.none _ _) (fun _ hk => hk) trivial (Below.refl _ _) (Nat.le_refl _) (by simp) ?_; (case hd => rfl); (case hg => rfl); (case hr => first | (go_simp; done) | (go_simp; rfl)); intro v1 w1 ho1 hb1 _ _; obtain ⟨A2, c2, rfl⟩ := Kd.R_slice ho1; have HO1 := Aside0.mk ho1; have HB1 := Aside0.mk hb1; clear ho1 hb1)
      | ((with_reducible refine gate_dst (N := 5) rfl ?_); refine box_event ?hg (N := 5) ?hd (cs := #[.slice none 0 0]) (t := 29) ?hr ?_; (case hd => rfl); (case hg => rfl); (case hr => first | (go_simp; done) | (go_simp; rfl)); intro F1 hg w2 hbox hb; have HO2 := Aside0.mk (Kd.R_below HO1.out hb); have HB2 := Aside0.mk (below_step HB1.out hb); have HBK2 := Aside0.mk hbox; have NF := Aside0.mk (show w.heap.size ≤ F1 from (by rw [hg]; exact HB1.out.size)); have k0 : w2.cell? ⟨F1, 0, none⟩ = some (.slice none 0 0) := (blk_cell hbox 0).trans rfl; have f0 := blk_frozen hbox 0; clear hg hbox hb))
    have HBK3 : Aside0 ((w2.setCell ⟨F1, 0, none⟩ (.slice A2 0 c2)).heap[F1]? = some (.cells #[.slice A2 0 c2] 29 (0, 0))) := ⟨blk_put (cs := #[.slice none 0 0]) HBK2.out 0 _ rfl⟩
    have HB3 : Aside0 (Below w.heap.size w (w2.setCell ⟨F1, 0, none⟩ (.slice A2 0 c2))) := ⟨below_set HB2.out NF.out⟩
    have HO3 : Aside0 (Kd.R (Kd.int .i64) 3 (w2.setCell ⟨F1, 0, none⟩ (.slice A2 0 c2)) w.heap.size (fun _ => True) (.slice A2 0 c2) ([] : List Int)) := ⟨Kd.R_set HO2.out HBK2.out (by intro q hq; have e : q = 3 := (by simpa [Kd.int, Kd.scalar] using hq); subst e; decide) 0 _⟩
    clear HBK2 HB2 HO2 k0 f0 HB1 HO1
    generalize (w2.setCell ⟨F1, 0, none⟩ (.slice A2 0 c2)) = w3 at HBK3 HB3 HO3 ⊢
    go_wp2_with (first
      | (go_at_call 46; refine (impl_newReader_yes (Kd.C_below HR0.out HB3.out) HCC.out.1 (Kd.C_below HR1.out HB3.out) HCC.out.2.1 HCC.out.2.2.1 HCC.out.2.2.2 HOK.out).mono ?_; rintro e w4 ⟨R, M, rfl, hst, hM, hR, hRM⟩; have HRE := Aside0.mk (impl_read_eachF HR0.out HCC.out.1 HR1.out HCC.out.2.1 HLS.out.1 HLS.out.2.1 HLS.out.2.2 (Nat.le_trans HB3.out.size hM) (Nat.le_trans HB3.out.size hR) hRM (F1 := F1) [] (FI w.heap.size F1) (fun _ _ _ hi hk => hi.move hk) (fun w' h i o hs hi _ _ hl => impl_FormulasFirst1_calls hs h i o hi (by have := HLS.out.2.1; simp at hl; omega)) 0 w4 (Nat.zero_le _) (hst.lower HB3.out) ⟨NF.out, Nat.le_trans HB3.out.size hst.below.size, _, blk_below HBK3.out hst.below, Kd.R_below HO3.out hst.below⟩); simp only [Int.natCast_zero, List.drop_zero, List.nil_append] at HRE; clear hst hM hR hRM)
      | (go_at_call 47; refine HRE.out.mono ?_; rintro e w5 ⟨rfl, hst, hi⟩; obtain ⟨hi1, hi2, v5, hi3, hi4⟩ := hi; rw [← HX.out] at hi4; obtain ⟨A5, c5, rfl⟩ := Kd.R_slice hi4; have HST5 := Aside0.mk hst.below; have HO5 := Aside0.mk hi4; have k0 : w5.cell? ⟨F1, 0, none⟩ = some (.slice A5 X.length c5) := (blk_cell hi3 0).trans rfl; clear hst hi1 hi2 hi3 hi4))
    go_ret
    exact ⟨_, rfl, HO5.out, HST5.out⟩

end Go.Proofs.Ytohnkicfnfejnaa.Pure
