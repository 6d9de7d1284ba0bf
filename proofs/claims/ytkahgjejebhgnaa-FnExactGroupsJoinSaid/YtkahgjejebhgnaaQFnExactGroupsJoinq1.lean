/- Lemmas on the printed functions for the law FnExactGroupsJoin. -/
import Derived.Test.YtkahgjejebhgnaaQFnExactGroupsJoinq0
import Derived.Deep.RegionHeld3
import Derived.BigRegion
import Derived.Deep.Slices
namespace Go.Proofs.Ytkahgjejebhgnaa.Pure
set_option linter.unusedVariables false
set_option linter.unusedSimpArgs false
open Go Go.RowKit Go.Proofs.Ytkahgjejebhgnaa.PFnExactGroupsJoin Go.Proofs.YtkahgjejebhgnaaW.PrintWords Go.Proofs.YtkahgjejebhgnaaW.PrintLast Go.Proofs.YtkahgjejebhgnaaW.PrintMore

set_option maxHeartbeats 4000000 in
set_option maxRecDepth 100000 in
theorem impl_GroupsJoin_calls (m : List S67) (g : List S65) (k : Int) (A0 : Option Addr) (c0 : Nat) (A1 : Option Addr) (c1 : Nat) (w : World) (hr0 : Kd.C k67 w A0 m.length m) (hc0 : m.length ≤ c0) (hr1 : Kd.C k65 w A1 g.length g) (hc1 : g.length ≤ c1) (hg : g.length ≤ 1000000000000) :
    Calls Try.prog 24 #[.slice A0 m.length c0, .slice A1 g.length c1, .int .i64 k] w fun e w' => ∃ v, e = .returned (.tuple #[v, .bool (gjoin m g k).2]) ∧ Kd.R k65 65 w' w.heap.size (fun _ => True) v (gjoin m g k).1 ∧ Below w.heap.size w w' := by
  obtain ⟨kk, hv⟩ := Ev.rounds (impl_GroupsValid_ev m g (by omega))
  have HR0 := Aside0.mk hr0
  have HC0 := Aside0.mk hc0
  have HR1 := Aside0.mk hr1
  have HC1 := Aside0.mk hc1
  have HV := Aside0.mk hv
  clear hr0 hc0 hr1 hc1 hv
  by_cases hgood : gOk m g = true ∧ 0 ≤ k ∧ k < (g.length : Int) - 1
  · obtain ⟨hok, h0, h1⟩ := hgood
    rw [hok] at HV
    have hs := gOk_sizes hok
    have S1 := Aside0.mk (size_of hs (k := k) (by omega) (by omega))
    have S2 := Aside0.mk (size_of hs (k := k + 1) (by omega) (by omega))
    have HOK := Aside0.mk hok
    clear hs hok
    have d1 : decide (k < 0) = false := decide_eq_false (by omega)
    have d2 : decide ((g.length : Int) - 1 ≤ k) = false := decide_eq_false (by omega)
    go_enter Try.func24, Try.ntmps24
    go_upto_region 3 with (go_at_call 45; refine (impl_GroupsValid.calls kk _ _ m _ _ g true _ HR0.out HC0.out HR1.out HC1.out HV.out).mono ?_; rintro e w1 ⟨rfl, hb1⟩)
    go_cut [8] (fun v8 wc => ∃ gb : Nat, v8 = .pointer (some ⟨gb, 0, none⟩) ∧ Aside0 (w.heap.size ≤ gb) ∧ Aside0 (wc.heap[gb]? = some (.cells #[.int .i64 ((rd_T65 g k).f0 + (rd_T65 g (k + 1)).f0), .bool (rd_T65 g (k + 1)).f1] 65 (0, 0))) ∧ Aside0 (Below w.heap.size w wc))
    case first =>
      obtain ⟨ad, e1, hx0, hx1⟩ := at_T65 (Kd.C_below HR1.out hb1) k (by omega) (by omega)
      subst e1
      obtain ⟨ad2, e2, hy0, hy1⟩ := at_T65 (Kd.C_below HR1.out hb1) (k + 1) (by omega) (by omega)
      obtain rfl := Option.some.inj e2
      have i1 : decide (k < (g.length : Int)) = true := decide_eq_true (by omega)
      have i2 : decide (k + 1 < (g.length : Int)) = true := decide_eq_true (by omega)
      have i3 : decide (0 ≤ k) = true := decide_eq_true (by omega)
      have i4 : decide (0 ≤ k + 1) = true := decide_eq_true (by omega)
      clear e2
      have hx0' := later_cell hx0
      have hx1' := later_cell hx1
      have hy0' := later_cell hy0
      have hy1' := later_cell hy1
      go_region
      go_wp2
      go_meet
      case rel =>
        exact ⟨_, rfl, ⟨hb1.size⟩, ⟨by rw [w64 (by have := S1.out; have := S2.out; omega) (by have := S1.out; have := S2.out; omega)]; exact blk_drew (blk_new _ _)⟩, ⟨by exact pw_below_drewN (n := 1) (below_alloc hb1 _)⟩⟩
    case rest =>
      obtain ⟨gb, rfl, GE, BK, HB⟩ := hcut
      have hcz0 : wc.cell? ⟨gb, 0, none⟩ = some (.int .i64 ((rd_T65 g k).f0 + (rd_T65 g (k + 1)).f0)) := (blk_cell BK.out 0).trans rfl
      have hcz1 : wc.cell? ⟨gb, 1, none⟩ = some (.bool (rd_T65 g (k + 1)).f1) := (blk_cell BK.out 1).trans rfl
      by_cases h4 : (rd_T65 g k).f0 + (rd_T65 g (k + 1)).f0 ≤ 4
      · have H4 := Aside0.mk h4
        clear h4
        have d4 : decide (4 < (rd_T65 g k).f0 + (rd_T65 g (k + 1)).f0) = false := decide_eq_false (by have := H4.out; omega)
        have k1 : decide (0 ≤ k) = true := decide_eq_true (by omega)
        have k2 : decide (k ≤ (g.length : Int)) = true := decide_eq_true (by omega)
        obtain ⟨i0, hi0, _, hsz0, _⟩ := info_parts info65
        obtain ⟨hcut, ht, _, _⟩ := cut_take k65 26 65 Try.underlying26 hi0 k (Kd.C_below HR1.out HB.out) HC1.out h0 (by omega)
        obtain ⟨A', c', hcf, hd, _, _⟩ := cut_drop k65 26 65 Try.underlying26 hi0 hsz0 (k + 2) (Kd.C_below HR1.out HB.out) HC1.out (by omega) (by omega)
        have HT := Aside0.mk ht
        have HD := Aside0.mk hd
        clear ht hd hi0 hsz0
        go_wp2_with (first
          | ((with_reducible refine gate_dst (N := 47) rfl ?_); refine Kd.R_lit k65 _ 65 ?hg (N := 47) ?hd (xs := ([] : List S65)) (inner := []) (ok := fun _ => True) (okp := fun _ => True) ?hr (Reps.none _ _) (fun _ hk => hk) trivial (Below.refl _ _) (Nat.le_refl _) (by simp) ?_; (case hd => rfl); (case hg => rfl); (case hr => first | (go_simp; done) | (go_simp; rfl)); intro v1 w2 ho1 hb2 _ _)
          | ((with_reducible refine gate_builtin (b := .append) (xs := #[.tmp 47, .tmp 50]) rfl ?_); at_builtin; go_loud (refine Kd.R_append_rows k65 (w0 := wc) wc.heap.size rfl (.tmp 47) (.tmp 50) 26 65 (.agg #[(.int .i64 0), (.bool false)]) 16 rfl Try.underlying26 info65 rfl (by decide) (by omega) v1 [] (g.take k.toNat) _ _ _ (fun _ => True) (fun _ => False) rfl rfl ho1 (Kd.C_below HT.out hb2) (fun _ _ h => h) (fun _ h => h.elim) (fun _ _ => trivial) hb2 hb2.size (by simp; omega) ?_); intro v2 w3 ho2 hb3 _ _; have z0 := pw_cell_below hb3 hcz0; have z1 := pw_cell_below hb3 hcz1)
          | ((with_reducible refine gate_builtin (b := .append) (xs := #[.tmp 52, .tmp 54]) rfl ?_); at_builtin; go_loud (refine Kd.R_append k65 (w0 := wc) wc.heap.size rfl (.tmp 52) (.tmp 54) 26 65 (.agg #[(.int .i64 0), (.bool false)]) 16 rfl Try.underlying26 info65 rfl (by decide) (by omega) v2 _ (⟨(rd_T65 g k).f0 + (rd_T65 g (k + 1)).f0, (rd_T65 g (k + 1)).f1⟩ : S65) [.int .i64 ((rd_T65 g k).f0 + (rd_T65 g (k + 1)).f0), .bool (rd_T65 g (k + 1)).f1] (fun _ => True) (fun _ => False) rfl rfl (k65_mkM _ _ _ _) (fun _ hk => hk.elim) (fun _ _ => trivial) ho2 hb3 hb3.size (by simp; omega) ?_); intro v3 w4 ho3 hb4 _ _)
          | ((with_reducible refine gate_builtin (b := .append) (xs := #[.tmp 56, .tmp 60]) rfl ?_); at_builtin; go_loud (refine Kd.R_append_rows k65 (w0 := wc) wc.heap.size rfl (.tmp 56) (.tmp 60) 26 65 (.agg #[(.int .i64 0), (.bool false)]) 16 rfl Try.underlying26 info65 rfl (by decide) (by omega) v3 _ (g.drop (k + 2).toNat) _ _ _ (fun _ => True) (fun _ => False) rfl rfl ho3 (Kd.C_below HD.out hb4) (fun _ _ h => h) (fun _ h => h.elim) (fun _ _ => trivial) hb4 hb4.size (by simp; omega) ?_); intro v4 w5 ho4 hb5 _ _))
        go_ret2
        have hgj : gjoin m g k = (g.take k.toNat ++ [⟨(rd_T65 g k).f0 + (rd_T65 g (k + 1)).f0, (rd_T65 g (k + 1)).f1⟩] ++ g.drop (k + 2).toNat, true) := by
          unfold gjoin; rw [if_pos ⟨HOK.out, h0, h1, H4.out⟩]
        rw [hgj]
        exact ⟨v4, rfl, Kd.R_lower ho4 HB.out.size, below_step HB.out hb5⟩
      · have d4 : decide (4 < (rd_T65 g k).f0 + (rd_T65 g (k + 1)).f0) = true := decide_eq_true (by omega)
        have H4 := Aside0.mk h4
        clear h4
        go_wp2
        go_ret2
        have hgj : gjoin m g k = ([], false) := by
          unfold gjoin; rw [if_neg (fun h => by have h5 := H4.out; have h6 := h.2.2.2; omega)]
        rw [hgj]
        exact ⟨_, rfl, Kd.R_nil _ _ _ _ _, HB.out⟩
  · have hgj : gjoin m g k = ([], false) := by
      unfold gjoin; rw [if_neg (fun h => hgood ⟨h.1, h.2.1, h.2.2.1⟩)]
    rw [hgj]
    cases hok : gOk m g
    · rw [hok] at HV
      clear hgj hok hgood
      go_enter Try.func24, Try.ntmps24
      go_wp2_with (go_at_call 45; refine (impl_GroupsValid.calls kk _ _ m _ _ g false _ HR0.out HC0.out HR1.out HC1.out HV.out).mono ?_; rintro e w1 ⟨rfl, hb1⟩)
      go_ret2
      exact ⟨_, rfl, Kd.R_nil _ _ _ _ _, hb1⟩
    · rw [hok] at HV
      by_cases h0 : k < 0
      · have d1 : decide (k < 0) = true := decide_eq_true h0
        clear hgj hok hgood h0
        go_enter Try.func24, Try.ntmps24
        go_wp2_with (go_at_call 45; refine (impl_GroupsValid.calls kk _ _ m _ _ g true _ HR0.out HC0.out HR1.out HC1.out HV.out).mono ?_; rintro e w1 ⟨rfl, hb1⟩)
        go_ret2
        exact ⟨_, rfl, Kd.R_nil _ _ _ _ _, hb1⟩
      · have d1 : decide (k < 0) = false := decide_eq_false h0
        have d2 : decide ((g.length : Int) - 1 ≤ k) = true := decide_eq_true (by by_cases h : (g.length : Int) - 1 ≤ k; exact h; exact absurd ⟨hok, by omega, by omega⟩ hgood)
        clear hgj hok hgood h0
        go_enter Try.func24, Try.ntmps24
        go_wp2_with (go_at_call 45; refine (impl_GroupsValid.calls kk _ _ m _ _ g true _ HR0.out HC0.out HR1.out HC1.out HV.out).mono ?_; rintro e w1 ⟨rfl, hb1⟩)
        go_ret2
        exact ⟨_, rfl, Kd.R_nil _ _ _ _ _, hb1⟩

end Go.Proofs.Ytkahgjejebhgnaa.Pure
