/- Lemmas on the printed functions for the law FnGroupsJoin. -/
import Derived.Test.YtnjnnalnicoojaaPFnGroupsJoinx0
import Derived.Test.YtnjnnalnicoojaaQFnGroupsJoinq0
import Derived.Test.YtnjnnalnicoojaaQFnGroupsJoinq1
import Derived.Test.YtnjnnalnicoojaaQFnGroupsJoinq2
import Derived.Test.YtnjnnalnicoojaaQFnGroupsJoinq3
import Derived.Test.YtnjnnalnicoojaaQFnGroupsJoinq4
import Derived.Deep.RegionHeld3
import Derived.BigRegion
namespace Go.Proofs.Ytnjnnalnicoojaa.Pure
set_option linter.unusedVariables false
set_option linter.unusedSimpArgs false
open Go Go.RowKit Go.Proofs.Ytnjnnalnicoojaa.PFnGroupsJoin Go.Proofs.YtnjnnalnicoojaaW.PrintWords Go.Proofs.YtnjnnalnicoojaaW.PrintLast Go.Proofs.YtnjnnalnicoojaaW.PrintMore

theorem drawGroupsJoin_ev (l0 : List Int) (hw : ∀ x ∈ l0, (Lit.int .u8 x).wf = true) :
    Evx (fun k => spec_DrawGroupsJoin.f k l0) (fun r => r.1.length ≤ 1000 ∧ r.2.1.length ≤ 1000) := by
  obtain ⟨s, hs, hc⟩ := open_ev l0 hw
  unfold spec_DrawGroupsJoin.f
  refine Evx.conb hs (Evx.bind (drawGroups_ev hc 0 (by omega) (by omega)) ?_)
  rintro ⟨m, g, q⟩ ⟨h1, h2, h3, h4, h5⟩
  have h1 : (m.length : Int) ≤ 10 := h1
  have h2 : (g.length : Int) ≤ 10 := h2
  have h3 : 0 ≤ q := h3
  have h4 : q ≤ 0 + 3000 := h4
  simp only []
  have := mx_le 0 (wrap64 ((g.length : Int) - 1))
  refine Evx.bind (drawAt_ev hc q _ (by omega) (by omega) this.1) ?_
  rintro ⟨a, q'⟩ _
  exact Evx.now ⟨by simp; omega, by simp; omega⟩
set_option maxHeartbeats 4000000 in
set_option maxRecDepth 100000 in
theorem FnGroupsJoin_walk (l0 : List Int) (A0 : Option Addr) (c0 : Nat) (w : World) (hr0 : Kd.C (Kd.int .u8) w A0 l0.length l0) (hc0 : l0.length ≤ c0) (hw : ∀ x ∈ l0, (Lit.int .u8 x).wf = true) :
    Calls Try.prog 3 #[.slice A0 l0.length c0] w fun e w' => e = .returned (.bool true) ∧ Below w.heap.size w w' := by
  have HR0 := Aside0.mk hr0
  have HC0 := Aside0.mk hc0
  clear hr0 hc0
  by_cases hbig : (l0.length : Int) > 1048576
  · have d0 : decide (1048576 < (l0.length : Int)) = true := decide_eq_true hbig
    have d0' : decide (1048576 < l0.length) = true := decide_eq_true (by omega)
    clear hbig hw
    go_enter Try.func3, Try.ntmps3
    go_wp2
    go_ret
    exact ⟨rfl, Below.refl _ _⟩
  have d0 : decide (1048576 < (l0.length : Int)) = false := decide_eq_false hbig
  have d0' : decide (1048576 < l0.length) = false := decide_eq_false (by omega)
  obtain ⟨⟨m, g, k⟩, hd, hm, hg⟩ := drawGroupsJoin_ev l0 hw
  have hm : m.length ≤ 1000 := hm
  have hg : g.length ≤ 1000 := hg
  obtain ⟨kd, hd⟩ := Ev.rounds hd
  have HD := Aside0.mk hd
  clear hd hbig hw
  by_cases hc : gOk m g = true ∧ 0 ≤ k ∧ k < (g.length : Int) - 1 ∧ (rd_T32 g k).f0 + (rd_T32 g (k + 1)).f0 ≤ 4
  · obtain ⟨hok, h0, h1, h4⟩ := hc
    obtain ⟨J, eJ⟩ : ∃ J : List S32, J = g.take k.toNat ++ [⟨(rd_T32 g k).f0 + (rd_T32 g (k + 1)).f0, (rd_T32 g (k + 1)).f1⟩] ++ g.drop (k + 2).toNat := ⟨_, rfl⟩
    have hgj : gjoin m g k = (J, true) := by unfold gjoin; rw [if_pos ⟨hok, h0, h1, h4⟩, eJ]
    have hj : gOk m J = true := by rw [eJ, gOk_join hok h0 h1, decide_eq_true h4]
    have hJl : (J.length : Int) = g.length - 1 := by rw [eJ]; simp; omega
    have hs := gOk_sizes hok
    have a := size_of hs (k := k) (by omega) (by omega)
    have b := size_of hs (k := k + 1) (by omega) (by omega)
    have key : gsplit m J k (rd_T32 g k).f0 = (g.set k.toNat ⟨(rd_T32 g k).f0, false⟩, true) := by
      subst eJ
      unfold gsplit
      obtain ⟨A, x, y, B, rfl, rfl⟩ := cut_at2 h0 h1
      have e2 : ((A.length : Int) + 2).toNat = A.length + 2 := by omega
      have e1 : ((A.length : Int) + 1).toNat = A.length + 1 := by omega
      rw [rd_mid, rd_mid'] at *
      rw [e1]
      simp only [Int.toNat_natCast, e2] at hj ⊢
      have d1 : (A ++ x :: y :: B).take A.length = A := by simp
      have d2 : (A ++ x :: y :: B).drop (A.length + 2) = B := by
        rw [List.drop_append]; simp
      rw [d1, d2] at hj ⊢
      have r1 : rd_T32 (A ++ [⟨x.f0 + y.f0, y.f1⟩] ++ B) (A.length : Int) = ⟨x.f0 + y.f0, y.f1⟩ := by
        rw [List.append_assoc]; exact rd_mid A _ B
      rw [r1, if_pos ⟨hj, by omega, by simp; omega, a.1, by simp; omega⟩]
      have d3 : (A ++ [(⟨x.f0 + y.f0, y.f1⟩ : S32)] ++ B).take A.length = A := by simp
      have d4 : (A ++ [(⟨x.f0 + y.f0, y.f1⟩ : S32)] ++ B).drop (A.length + 1) = B := by
        rw [List.drop_append]; simp
      rw [d3, d4]
      have d5 : x.f0 + y.f0 - x.f0 = y.f0 := by omega
      simp [d5]
    obtain ⟨D, eD⟩ : ∃ D : List S32, D = g.set k.toNat ⟨(rd_T32 g k).f0, false⟩ := ⟨_, rfl⟩
    rw [← eD] at key
    have hDl : D.length = g.length := by rw [eD]; simp
    obtain ⟨ks, hs1⟩ := Ev.rounds (laws_sameGroups_ev J (by omega))
    obtain ⟨kt, hs2⟩ := Ev.rounds (laws_sameGroups_ev D (by omega))
    obtain ⟨kv, hv⟩ := Ev.rounds (impl_GroupsValid_ev m J (by omega))
    rw [hj] at hv
    have HGJ := Aside0.mk hgj
    have HS1 := Aside0.mk hs1
    have HS2 := Aside0.mk hs2
    have HV := Aside0.mk hv
    have HK := Aside0.mk key
    have ED := Aside0.mk eD
    have EJ := Aside0.mk hJl
    have q1 := eq_true (show k < (g.length : Int) by omega)
    have q2 := eq_true h0
    have q3 : ((J.length : Int) == (g.length : Int) - 1) = true := by rw [beq_iff_eq]; exact hJl
    clear hgj hs1 hs2 hv key eD hs hok h4 hj eJ hJl hDl
    go_enter Try.func3, Try.ntmps3
    go_upto_region 9 with (first
      | (go_at_call 5; refine (spec_DrawGroupsJoin.calls kd _ _ l0 m g k _ HR0.out HC0.out HD.out).mono ?_; rintro e w1 ⟨v1, v2, rfl, hm1, hg1, hb1⟩; obtain ⟨Am, cm, rfl, hcm, hCm⟩ := Kd.R_reads hm1; obtain ⟨Ag, cg, rfl, hcg, hCg⟩ := Kd.Q_reads hg1; have M1 := Aside0.mk hCm; have MC := Aside0.mk hcm; have G1 := Aside0.mk hCg; have GC := Aside0.mk hcg; clear hm1 hg1 hcm hCm hcg hCg)
      | (go_at_call 6; refine (impl_GroupsJoin_calls m g k _ _ _ _ _ M1.out MC.out G1.out GC.out (by omega)).mono ?_; rintro e w2 ⟨v3, rfl, ho2, hb2⟩; simp only [HGJ.out] at ho2 ⊢; obtain ⟨Aj, cj, rfl, hcj, hCj⟩ := Kd.R_reads ho2; have J2 := Aside0.mk hCj; have JC := Aside0.mk hcj; clear ho2 hcj hCj; have M2 := Aside0.mk (Kd.C_below M1.out hb2); have G2 := Aside0.mk (Kd.C_below G1.out hb2); replace hb2 := below_step hb1 hb2)
      | (go_at_call 7; refine (spec_GroupsJoin_calls m g k _ _ _ _ _ M2.out MC.out G2.out GC.out (by omega) (by omega)).mono ?_; rintro e w3 ⟨v4, rfl, ho3, hb3⟩; simp only [HGJ.out] at ho3 ⊢; obtain ⟨Ai, ci, rfl, hci, hCi⟩ := Kd.R_reads ho3; have I3 := Aside0.mk hCi; have IC := Aside0.mk hci; clear ho3 hci hCi; have M3 := Aside0.mk (Kd.C_below M2.out hb3); have G3 := Aside0.mk (Kd.C_below G2.out hb3); have J3 := Aside0.mk (Kd.C_below J2.out hb3); replace hb3 := below_step hb2 hb3)
      | (go_at_call 8; refine (laws_sameGroups.calls ks _ _ J _ _ J true _ J3.out JC.out I3.out IC.out HS1.out).mono ?_; rintro e w4 ⟨rfl, hd4⟩; obtain ⟨⟨n4, rfl⟩⟩ := hd4; obtain ⟨ad, e1, ux0, ux1⟩ := at_T32 G3.out k h0 (by omega); subst e1; have hb4 := pw_below_drewN hb3 n4)
      | (go_at_call 9; refine (impl_GroupsSplit_calls m J k _ _ _ _ _ _ (Kd.C_drewN M3.out _) MC.out (Kd.C_drewN J3.out _) JC.out (by have := EJ.out; omega)).mono ?_; rintro e w5 ⟨v5, rfl, ho5, hb5⟩; simp only [HK.out] at ho5 ⊢; obtain ⟨As, cs, rfl, hcs, hCs⟩ := Kd.R_reads ho5; have S5 := Aside0.mk hCs; have SC := Aside0.mk hcs; clear ho5 hcs hCs; have M5 := Aside0.mk (Kd.C_below (Kd.C_drewN M3.out _) hb5); have G5 := Aside0.mk (Kd.C_below (Kd.C_drewN G3.out _) hb5); have J5 := Aside0.mk (Kd.C_below (Kd.C_drewN J3.out _) hb5); replace hb5 := below_step hb4 hb5))
    go_wp2_with (first
      | ((with_reducible refine gate_dst (N := 69) rfl ?_); refine Kd.R_lit k32 _ 32 ?hg (N := 69) ?hd (xs := ([] : List S32)) (inner := []) (ok := fun _ => True) (okp := fun _ => True) ?hr (Reps.none _ _) (fun _ hk => hk) trivial (Below.refl _ _) (Nat.le_refl _) (by simp) ?_; (case hd => rfl); (case hg => rfl); (case hr => first | (go_simp; done) | (go_simp; rfl)); intro v6 w6 ho6 hb6 _ _)
      | ((with_reducible refine gate_builtin (b := .append) (xs := #[.tmp 69, .tmp 70]) rfl ?_); at_builtin; go_loud (refine Kd.R_append_rows k32 (w0 := w5) w5.heap.size rfl (.tmp 69) (.tmp 70) 24 32 (.agg #[(.int .i64 0), (.bool false)]) 16 rfl Try.underlying24 info32 rfl (by decide) (by omega) v6 [] g _ _ _ (fun _ => True) (fun _ => False) rfl rfl ho6 (Kd.C_below G5.out hb6) (fun _ _ h => h) (fun _ h => h.elim) (fun _ _ => trivial) hb6 hb6.size (by simp; omega) ?_); intro v7 w7 ho7 hb7 _ _; rw [List.nil_append] at ho7; obtain ⟨gd, cd, rfl, hgd0, _, _⟩ := Kd.R_form ho7 (by omega); obtain ⟨cs7, hcl7, hM7, hcc7, _⟩ := Kd.R_elem ho7 z32 k h0 (by omega); obtain rfl := k32_openM hM7; have O7 := Aside0.mk ho7; have CC7 := Aside0.mk hcc7; clear ho7 hM7 hcc7)
      | ((with_reducible refine gate_store (t := 4) (p := 75) rfl ?_); go_loud (refine Kd.R_store k32 (w0 := w5) w5.heap.size rfl rfl 4 (.tmp 75) (.const (.bool false)) rfl 32 k 1 g ⟨(rd_T32 g k).f0, false⟩ (.bool false) [.bool false] _ (fun _ => True) (fun _ => False) rfl rfl rfl rfl (by kernel_rfl) (by simp [Value.oneCell']) O7.out h0 (by omega) hcl7 CC7.out (by decide) (k32_mkM _ _ _ _) (fun _ h => h.elim) hb7 ?_); intro w8 ho8 hb8 _; rw [← ED.out] at ho8; obtain ⟨hl8, hc8, hC8⟩ := Kd.R_reads' ho8; have D8 := Aside0.mk hC8; clear hC8 ho8; have S8 := Aside0.mk (Kd.C_below S5.out hb8); have M8 := Aside0.mk (Kd.C_below M5.out hb8); have J8 := Aside0.mk (Kd.C_below J5.out hb8))
      | (go_at_call 8; refine calls_of_args (args' := #[.slice As D.length cs, .slice (some ⟨gd, 0, none⟩) D.length cd]) (by rw [← hl8]) ?_; refine (laws_sameGroups.calls kt _ _ D _ _ D true _ S8.out SC.out D8.out (by omega) HS2.out).mono ?_; rintro e w9 ⟨rfl, hd9⟩; obtain ⟨⟨n9, rfl⟩⟩ := hd9)
      | (go_at_call 10; refine (impl_GroupsValid.calls kv _ _ m _ _ J true _ (Kd.C_drewN M8.out _) MC.out (Kd.C_drewN J8.out _) JC.out HV.out).mono ?_; rintro e w10 ⟨rfl, hb10⟩))
    go_ret
    exact ⟨by have := EJ.out; simp; omega, below_step (pw_below_drewN (below_step hb5 hb8) n9) hb10⟩
  · have hgj : gjoin m g k = ([], false) := by unfold gjoin; rw [if_neg hc]
    obtain ⟨ks, hs1⟩ := Ev.rounds (laws_sameGroups_ev ([] : List S32) (by simp))
    have HGJ := Aside0.mk hgj
    have HS1 := Aside0.mk hs1
    clear hgj hs1 hc
    go_enter Try.func3, Try.ntmps3
    go_wp2_with (first
      | (go_at_call 5; refine (spec_DrawGroupsJoin.calls kd _ _ l0 m g k _ HR0.out HC0.out HD.out).mono ?_; rintro e w1 ⟨v1, v2, rfl, hm1, hg1, hb1⟩; obtain ⟨Am, cm, rfl, hcm, hCm⟩ := Kd.R_reads hm1; obtain ⟨Ag, cg, rfl, hcg, hCg⟩ := Kd.Q_reads hg1; have M1 := Aside0.mk hCm; have MC := Aside0.mk hcm; have G1 := Aside0.mk hCg; have GC := Aside0.mk hcg; clear hm1 hg1 hcm hCm hcg hCg)
      | (go_at_call 6; refine (impl_GroupsJoin_calls m g k _ _ _ _ _ M1.out MC.out G1.out GC.out (by omega)).mono ?_; rintro e w2 ⟨v3, rfl, ho2, hb2⟩; simp only [HGJ.out] at ho2 ⊢; obtain ⟨Aj, cj, rfl, hcj, hCj⟩ := Kd.R_reads ho2; have J2 := Aside0.mk hCj; have JC := Aside0.mk hcj; clear ho2 hcj hCj; have M2 := Aside0.mk (Kd.C_below M1.out hb2); have G2 := Aside0.mk (Kd.C_below G1.out hb2); replace hb2 := below_step hb1 hb2)
      | (go_at_call 7; refine (spec_GroupsJoin_calls m g k _ _ _ _ _ M2.out MC.out G2.out GC.out (by omega) (by omega)).mono ?_; rintro e w3 ⟨v4, rfl, ho3, hb3⟩; simp only [HGJ.out] at ho3 ⊢; obtain ⟨Ai, ci, rfl, hci, hCi⟩ := Kd.R_reads ho3; have I3 := Aside0.mk hCi; have IC := Aside0.mk hci; clear ho3 hci hCi; have J3 := Aside0.mk (Kd.C_below J2.out hb3); replace hb3 := below_step hb2 hb3)
      | (go_at_call 8; refine (laws_sameGroups.calls ks _ _ ([] : List S32) _ _ ([] : List S32) true _ (by with_reducible repeat (first | exact J3.out | refine Kd.C_drewN ?_ _)) JC.out (by with_reducible repeat (first | exact I3.out | refine Kd.C_drewN ?_ _)) IC.out HS1.out).mono ?_; rintro e w4 ⟨rfl, hd4⟩; obtain ⟨⟨n4, rfl⟩⟩ := hd4))
    go_ret
    exact ⟨rfl, by repeat (first | exact hb3 | apply pw_below_drewN)⟩

end Go.Proofs.Ytnjnnalnicoojaa.Pure
