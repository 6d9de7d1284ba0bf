/- Lemmas on the printed functions for the law FnExactGroupsJoin. -/
import Derived.Test.YtkahgjejebhgnaaQFnExactGroupsJoinq0
import Derived.Test.YtkahgjejebhgnaaQFnExactGroupsJoinq1
import Derived.Deep.RegionHeld3
import Derived.BigRegion
import Derived.Deep.Slices
namespace Go.Proofs.Ytkahgjejebhgnaa.Pure
set_option linter.unusedVariables false
set_option linter.unusedSimpArgs false
open Go Go.RowKit Go.Proofs.Ytkahgjejebhgnaa.PFnExactGroupsJoin Go.Proofs.YtkahgjejebhgnaaW.PrintWords Go.Proofs.YtkahgjejebhgnaaW.PrintLast Go.Proofs.YtkahgjejebhgnaaW.PrintMore

theorem gjoin_len (m : List S67) (g : List S65) (k : Int) : (gjoin m g k).1.length ≤ g.length + 1 := by
  unfold gjoin
  split
  · simp; omega
  · simp
set_option maxHeartbeats 4000000 in
set_option maxRecDepth 100000 in
theorem spec_GroupsJoin_calls (m : List S67) (g : List S65) (k : Int) (A0 : Option Addr) (c0 : Nat) (A1 : Option Addr) (c1 : Nat) (w : World) (hr0 : Kd.C k67 w A0 m.length m) (hc0 : m.length ≤ c0) (hr1 : Kd.C k65 w A1 g.length g) (hc1 : g.length ≤ c1) (hm : m.length ≤ 1000000000000) (hg : g.length ≤ 1000000000000) :
    Calls Try.prog 23 #[.slice A0 m.length c0, .slice A1 g.length c1, .int .i64 k] w fun e w' => ∃ v, e = .returned (.tuple #[v, .bool (gjoin m g k).2]) ∧ Kd.R k65 65 w' w.heap.size (fun _ => True) v (gjoin m g k).1 ∧ Below w.heap.size w w' := by
  obtain ⟨kk, hv⟩ := Ev.rounds (spec_GroupsValid_ev m g hm hg)
  have HR0 := Aside0.mk hr0
  have HC0 := Aside0.mk hc0
  have HR1 := Aside0.mk hr1
  have HC1 := Aside0.mk hc1
  have HV := Aside0.mk hv
  have HM := Aside0.mk hm
  clear hr0 hc0 hr1 hc1 hv hm
  by_cases hgood : gOk m g = true ∧ 0 ≤ k ∧ k < (g.length : Int) - 1
  · obtain ⟨hok, h0, h1⟩ := hgood
    rw [hok] at HV
    have hs := gOk_sizes hok
    have S1 := Aside0.mk (size_of hs (k := k) (by omega) (by omega))
    have S2 := Aside0.mk (size_of hs (k := k + 1) (by omega) (by omega))
    have HOK := Aside0.mk hok
    have HG := Aside0.mk (gOk_len hok)
    clear hs hok
    have q : spec_l6In.f k 0 ((g.length : Int) - 2) = some true := by rw [spec_l6In_eq, decide_eq_true (by omega)]
    have HQ := Aside0.mk q
    clear q
    have k1 : decide (0 ≤ k) = true := decide_eq_true (by omega)
    have k2 : decide (k ≤ (g.length : Int)) = true := decide_eq_true (by omega)
    obtain ⟨i0, hi0, _, hsz0, _⟩ := info_parts info65
    obtain ⟨hcut, ht, _, _⟩ := cut_take k65 26 65 Try.underlying26 hi0 k HR1.out HC1.out h0 (by omega)
    obtain ⟨A', c', hcf, hd, hc', _⟩ := cut_drop k65 26 65 Try.underlying26 hi0 hsz0 (k + 2) HR1.out HC1.out (by omega) (by omega)
    have HT := Aside0.mk ht
    have HD := Aside0.mk hd
    clear ht hd hi0 hsz0
    go_enter Try.func23, Try.ntmps23
    go_upto_region 4 with (first
      | (go_at_call 41; refine (spec_GroupsValid.calls kk _ _ m _ _ g true _ HR0.out HC0.out HR1.out HC1.out HV.out).mono ?_; rintro e w1 ⟨rfl, hb1⟩)
      | (go_at_call 42; refine (spec_l6In.calls _ _ _ true _ HQ.out).mono ?_; rintro e w2' ⟨rfl, hd2⟩; obtain ⟨⟨n2, rfl⟩⟩ := hd2)
      | ((with_reducible refine gate_dst (N := 22) rfl ?_); refine Kd.R_lit k65 _ 65 ?hg (N := 22) ?hd (xs := ([] : List S65)) (inner := []) (ok := fun _ => True) (okp := fun _ => True) ?hr (Reps.none _ _) (fun _ hk => hk) trivial (Below.refl _ _) (Nat.le_refl _) (by simp) ?_; (case hd => rfl); (case hg => rfl); (case hr => first | (go_simp; done) | (go_simp; rfl)); intro v1 w2 ho1 hb2 _ _; replace hb2 := below_step (pw_below_drewN hb1 _) hb2; replace ho1 := Kd.R_lower ho1 (show w.heap.size ≤ (w1.drewN n2).heap.size from hb1.size))
      | ((with_reducible refine gate_builtin (b := .append) (xs := #[.tmp 22, .tmp 25]) rfl ?_); at_builtin; go_loud (refine Kd.R_append_rows k65 (w0 := w) w.heap.size rfl (.tmp 22) (.tmp 25) 26 65 (.agg #[(.int .i64 0), (.bool false)]) 16 rfl Try.underlying26 info65 rfl (by decide) (by omega) v1 [] (g.take k.toNat) _ _ _ (fun _ => True) (fun _ => False) rfl rfl ho1 (Kd.C_below HT.out hb2) (fun _ _ h => h) (fun _ h => h.elim) (fun _ _ => trivial) hb2 hb2.size (by simp; omega) ?_); intro v2 w3 ho2 hb3 _ _))
    go_cut [8] (fun v8 wc => Aside0 (Kd.R k65 65 wc w.heap.size (fun _ => True) v8 (g.take k.toNat ++ [⟨(rd_T65 g k).f0 + (rd_T65 g (k + 1)).f0, (rd_T65 g (k + 1)).f1⟩])) ∧ Aside0 (Below w.heap.size w wc))
    case first =>
      obtain ⟨ad, e1, ux0, ux1⟩ := at_T65 HR1.out k (by omega) (by omega)
      obtain ⟨ad', e1', uy0, uy1⟩ := at_T65 HR1.out (k + 1) (by omega) (by omega)
      obtain rfl := Option.some.inj (e1.symm.trans e1')
      have HX := Aside0.mk (And.intro ux0 (And.intro uy0 uy1))
      obtain ⟨hx0, hy0, hy1⟩ : _ ∧ _ ∧ _ := ⟨(hb3.cell (World.block_lt_of_cell? w _ ux0)).trans ux0, (hb3.cell (World.block_lt_of_cell? w _ uy0)).trans uy0, (hb3.cell (World.block_lt_of_cell? w _ uy1)).trans uy1⟩
      clear ux0 ux1 uy0 uy1 e1'
      subst e1
      have i1 : decide (k < (g.length : Int)) = true := decide_eq_true (by omega)
      have i2 : decide (k + 1 < (g.length : Int)) = true := decide_eq_true (by omega)
      have i4 : decide (0 ≤ k + 1) = true := decide_eq_true (by omega)
      have p1 := eq_true (show k < (g.length : Int) by omega)
      have p2 := eq_true (show k + 1 < (g.length : Int) by omega)
      have p3 := eq_true (show 0 ≤ k by omega)
      have p4 := eq_true (show 0 ≤ k + 1 by omega)
      have p5 : IntKind.i64.wrap (k + 1) = k + 1 := by rw [Go.IntKind.wrap_i64]; omega
      have p6 : IntKind.i64.wrap ((rd_T65 g k).f0 + (rd_T65 g (k + 1)).f0) = (rd_T65 g k).f0 + (rd_T65 g (k + 1)).f0 := by rw [Go.IntKind.wrap_i64]; have := S1.out; have := S2.out; omega
      clear h1 h0
      go_region_held3 (fun w' => w'.cell? (ad.add (k.toNat * 2)) = some (.int .i64 (rd_T65 g k).f0) ∧ w'.cell? (ad.add ((k + 1).toNat * 2)) = some (.int .i64 (rd_T65 g (k + 1)).f0) ∧ w'.cell? ⟨(ad.add ((k + 1).toNat * 2)).block, (ad.add ((k + 1).toNat * 2)).off + 1, none⟩ = some (.bool (rd_T65 g (k + 1)).f1))
        (first
          | go_keep
          | (go_split_ands; exact ⟨(hb4.cell (World.block_lt_of_cell? w _ HX.out.1)).trans HX.out.1, (hb4.cell (World.block_lt_of_cell? w _ HX.out.2.1)).trans HX.out.2.1, (hb4.cell (World.block_lt_of_cell? w _ HX.out.2.2)).trans HX.out.2.2⟩))
        ((refine Kd.R_append_step k65 (w0 := w) (W := w3.drew) w.heap.size (by rfl) (.tmp 27) (.tmp 47) 26 65 (.agg #[(.int .i64 0), (.bool false)]) 16 (by rfl) Try.underlying26 info65 rfl (by decide) (by omega) v2 _ (⟨(rd_T65 g k).f0 + (rd_T65 g (k + 1)).f0, (rd_T65 g (k + 1)).f1⟩ : S65) [.int .i64 ((rd_T65 g k).f0 + (rd_T65 g (k + 1)).f0), .bool (rd_T65 g (k + 1)).f1] (fun _ => True) (fun _ => False) (by rfl) (by rfl) (k65_mkM _ _ _ _) (fun _ hk => hk.elim) (fun _ _ => trivial) (Kd.R_drew ho2) (below_drew1 hb3) hb3.size (by simp; omega) ?_; intro v3 w4 ho3 hb4 _ _))
      go_wp2
      go_meet
      case rel => exact ⟨⟨by simpa using ho3⟩, ⟨hb4⟩⟩
    case rest =>
      obtain ⟨HO, HB⟩ := hcut
      by_cases h4 : (rd_T65 g k).f0 + (rd_T65 g (k + 1)).f0 ≤ 4
      · obtain ⟨kj, hj⟩ := Ev.rounds (spec_GroupsValid_ev m (g.take k.toNat ++ [⟨(rd_T65 g k).f0 + (rd_T65 g (k + 1)).f0, (rd_T65 g (k + 1)).f1⟩] ++ g.drop (k + 2).toNat) HM.out (by simp; omega))
        rw [gOk_join HOK.out h0 h1, decide_eq_true h4] at hj
        obtain ⟨J, eJ⟩ : ∃ J : List S65, J = g.take k.toNat ++ [⟨(rd_T65 g k).f0 + (rd_T65 g (k + 1)).f0, (rd_T65 g (k + 1)).f1⟩] ++ g.drop (k + 2).toNat := ⟨_, rfl⟩
        rw [← eJ] at hj
        have EJ := Aside0.mk eJ
        clear eJ
        have HJ := Aside0.mk hj
        have H4 := Aside0.mk h4
        clear h4 hj
        go_wp2_with (first
          | ((with_reducible refine gate_builtin (b := .append) (xs := #[.tmp 49, .tmp 53]) rfl ?_); at_builtin; go_loud (refine Kd.R_append_rows k65 (w0 := w) w.heap.size rfl (.tmp 49) (.tmp 53) 26 65 (.agg #[(.int .i64 0), (.bool false)]) 16 rfl Try.underlying26 info65 rfl (by decide) (by omega) _ _ (g.drop (k + 2).toNat) _ _ _ (fun _ => True) (fun _ => False) rfl rfl HO.out (Kd.C_below HD.out HB.out) (fun _ _ h => h) (fun _ h => h.elim) (fun _ _ => trivial) HB.out HB.out.size (by simp; omega) ?_); intro v4 w5 ho4 hb5 _ _; rw [← EJ.out] at ho4; obtain ⟨A5, c5, rfl, hc5, hr5⟩ := Kd.R_reads ho4; have HC5 := Aside0.mk hc5; have HR5 := Aside0.mk hr5; clear hc5 hr5)
          | (go_at_call 41; refine (spec_GroupsValid.calls kj _ _ m _ _ J true _ (Kd.C_below HR0.out hb5) HC0.out HR5.out HC5.out HJ.out).mono ?_; rintro e w6 ⟨rfl, hb6⟩))
        go_ret2
        have hgj : gjoin m g k = (g.take k.toNat ++ [⟨(rd_T65 g k).f0 + (rd_T65 g (k + 1)).f0, (rd_T65 g (k + 1)).f1⟩] ++ g.drop (k + 2).toNat, true) := by
          unfold gjoin; rw [if_pos ⟨HOK.out, h0, h1, H4.out⟩]
        rw [hgj, ← EJ.out]
        exact ⟨_, rfl, Kd.R_below ho4 hb6, below_step hb5 hb6⟩
      · obtain ⟨kj, hj⟩ := Ev.rounds (spec_GroupsValid_ev m (g.take k.toNat ++ [⟨(rd_T65 g k).f0 + (rd_T65 g (k + 1)).f0, (rd_T65 g (k + 1)).f1⟩] ++ g.drop (k + 2).toNat) HM.out (by simp; omega))
        rw [gOk_join HOK.out h0 h1, decide_eq_false h4] at hj
        obtain ⟨J, eJ⟩ : ∃ J : List S65, J = g.take k.toNat ++ [⟨(rd_T65 g k).f0 + (rd_T65 g (k + 1)).f0, (rd_T65 g (k + 1)).f1⟩] ++ g.drop (k + 2).toNat := ⟨_, rfl⟩
        rw [← eJ] at hj
        have EJ := Aside0.mk eJ
        clear eJ
        have HJ := Aside0.mk hj
        have H4 := Aside0.mk h4
        clear h4 hj
        go_wp2_with (first
          | ((with_reducible refine gate_builtin (b := .append) (xs := #[.tmp 49, .tmp 53]) rfl ?_); at_builtin; go_loud (refine Kd.R_append_rows k65 (w0 := w) w.heap.size rfl (.tmp 49) (.tmp 53) 26 65 (.agg #[(.int .i64 0), (.bool false)]) 16 rfl Try.underlying26 info65 rfl (by decide) (by omega) _ _ (g.drop (k + 2).toNat) _ _ _ (fun _ => True) (fun _ => False) rfl rfl HO.out (Kd.C_below HD.out HB.out) (fun _ _ h => h) (fun _ h => h.elim) (fun _ _ => trivial) HB.out HB.out.size (by simp; omega) ?_); intro v4 w5 ho4 hb5 _ _; rw [← EJ.out] at ho4; obtain ⟨A5, c5, rfl, hc5, hr5⟩ := Kd.R_reads ho4; have HC5 := Aside0.mk hc5; have HR5 := Aside0.mk hr5; clear hc5 hr5 ho4)
          | (go_at_call 41; refine (spec_GroupsValid.calls kj _ _ m _ _ J false _ (Kd.C_below HR0.out hb5) HC0.out HR5.out HC5.out HJ.out).mono ?_; rintro e w6 ⟨rfl, hb6⟩)
          | ((with_reducible refine gate_dst (N := 59) rfl ?_); refine Kd.R_lit k65 _ 65 ?hg (N := 59) ?hd (xs := ([] : List S65)) (inner := []) (ok := fun _ => True) (okp := fun _ => True) ?hr (Reps.none _ _) (fun _ hk => hk) trivial (Below.refl _ _) (Nat.le_refl _) (by simp) ?_; (case hd => rfl); (case hg => rfl); (case hr => first | (go_simp; done) | (go_simp; rfl)); intro v7 w7 ho7 hb7 _ _))
        go_ret2
        have hgj : gjoin m g k = ([], false) := by
          unfold gjoin; rw [if_neg (fun h => by have h5 := H4.out; have h6 := h.2.2.2; omega)]
        rw [hgj]
        have hb8 := below_step hb5 hb6
        exact ⟨_, rfl, Kd.R_lower ho7 hb8.size, below_step hb8 hb7⟩
  · have hgj : gjoin m g k = ([], false) := by
      unfold gjoin; rw [if_neg (fun h => hgood ⟨h.1, h.2.1, h.2.2.1⟩)]
    rw [hgj]
    cases hok : gOk m g
    · rw [hok] at HV
      clear hgj hok hgood
      go_enter Try.func23, Try.ntmps23
      go_wp2_with (first
        | (go_at_call 41; refine (spec_GroupsValid.calls kk _ _ m _ _ g false _ HR0.out HC0.out HR1.out HC1.out HV.out).mono ?_; rintro e w1 ⟨rfl, hb1⟩)
        | ((with_reducible refine gate_dst (N := 21) rfl ?_); refine Kd.R_lit k65 _ 65 ?hg (N := 21) ?hd (xs := ([] : List S65)) (inner := []) (ok := fun _ => True) (okp := fun _ => True) ?hr (Reps.none _ _) (fun _ hk => hk) trivial (Below.refl _ _) (Nat.le_refl _) (by simp) ?_; (case hd => rfl); (case hg => rfl); (case hr => first | (go_simp; done) | (go_simp; rfl)); intro v7 w7 ho7 hb7 _ _))
      go_ret2
      exact ⟨_, rfl, Kd.R_lower ho7 hb1.size, below_step hb1 hb7⟩
    · rw [hok] at HV
      have q : spec_l6In.f k 0 ((g.length : Int) - 2) = some false := by rw [spec_l6In_eq, decide_eq_false (fun h => hgood ⟨hok, by omega, by omega⟩)]
      have HQ := Aside0.mk q
      clear hgj hok hgood q
      go_enter Try.func23, Try.ntmps23
      go_wp2_with (first
        | (go_at_call 41; refine (spec_GroupsValid.calls kk _ _ m _ _ g true _ HR0.out HC0.out HR1.out HC1.out HV.out).mono ?_; rintro e w1 ⟨rfl, hb1⟩)
        | (go_at_call 42; refine (spec_l6In.calls _ _ _ false _ HQ.out).mono ?_; rintro e w2' ⟨rfl, hd2⟩; obtain ⟨⟨n2, rfl⟩⟩ := hd2)
        | ((with_reducible refine gate_dst (N := 21) rfl ?_); refine Kd.R_lit k65 _ 65 ?hg (N := 21) ?hd (xs := ([] : List S65)) (inner := []) (ok := fun _ => True) (okp := fun _ => True) ?hr (Reps.none _ _) (fun _ hk => hk) trivial (Below.refl _ _) (Nat.le_refl _) (by simp) ?_; (case hd => rfl); (case hg => rfl); (case hr => first | (go_simp; done) | (go_simp; rfl)); intro v7 w7 ho7 hb7 _ _))
      go_ret2
      have hb8 := pw_below_drewN hb1 n2
      exact ⟨_, rfl, Kd.R_lower ho7 hb8.size, below_step hb8 hb7⟩

end Go.Proofs.Ytkahgjejebhgnaa.Pure
