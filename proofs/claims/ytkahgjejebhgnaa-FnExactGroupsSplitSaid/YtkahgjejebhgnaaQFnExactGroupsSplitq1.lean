/- Lemmas on the printed functions for the law FnExactGroupsSplit. -/
import Derived.Test.YtkahgjejebhgnaaQFnExactGroupsSplitq0
import Derived.Deep.RegionHeld3
import Derived.BigRegion
import Derived.Deep.Slices
namespace Go.Proofs.Ytkahgjejebhgnaa.Pure
set_option linter.unusedVariables false
set_option linter.unusedSimpArgs false
open Go Go.RowKit Go.Proofs.Ytkahgjejebhgnaa.PFnExactGroupsSplit Go.Proofs.YtkahgjejebhgnaaW.PrintWords Go.Proofs.YtkahgjejebhgnaaW.PrintLast Go.Proofs.YtkahgjejebhgnaaW.PrintMore

set_option maxHeartbeats 4000000 in
set_option maxRecDepth 100000 in
theorem impl_GroupsSplit_calls (m : List S67) (g : List S65) (i k : Int) (A0 : Option Addr) (c0 : Nat) (A1 : Option Addr) (c1 : Nat) (w : World) (hr0 : Kd.C k67 w A0 m.length m) (hc0 : m.length ≤ c0) (hr1 : Kd.C k65 w A1 g.length g) (hc1 : g.length ≤ c1) (hg : g.length ≤ 1000000000000) :
    Calls Try.prog 14 #[.slice A0 m.length c0, .slice A1 g.length c1, .int .i64 i, .int .i64 k] w fun e w' => ∃ v, e = .returned (.tuple #[v, .bool (gsplit m g i k).2]) ∧ Kd.R k65 65 w' w.heap.size (fun _ => True) v (gsplit m g i k).1 ∧ Below w.heap.size w w' := by
  obtain ⟨kk, hv⟩ := Ev.rounds (impl_GroupsValid_ev m g (by omega))
  have HR0 := Aside0.mk hr0
  have HC0 := Aside0.mk hc0
  have HR1 := Aside0.mk hr1
  have HC1 := Aside0.mk hc1
  have HV := Aside0.mk hv
  clear hr0 hc0 hr1 hc1 hv
  cases hok : gOk m g
  · have hgj : gsplit m g i k = ([], false) := by unfold gsplit; rw [if_neg (fun h => by rw [hok] at h; exact absurd h.1 (by simp))]
    rw [hgj]
    rw [hok] at HV
    clear hgj hok
    go_enter Try.func14, Try.ntmps14
    go_wp2_with (go_at_call 45; refine (impl_GroupsValid.calls kk _ _ m _ _ g false _ HR0.out HC0.out HR1.out HC1.out HV.out).mono ?_; rintro e w1 ⟨rfl, hb1⟩)
    go_ret2
    exact ⟨_, rfl, Kd.R_nil _ _ _ _ _, hb1⟩
  rw [hok] at HV
  have HOK := Aside0.mk hok
  have hs := gOk_sizes hok
  clear hok
  by_cases h0 : i < 0
  · have hgj : gsplit m g i k = ([], false) := by unfold gsplit; rw [if_neg (fun h => by omega)]
    rw [hgj]
    have d1 : decide (i < 0) = true := decide_eq_true h0
    clear hgj hs h0
    go_enter Try.func14, Try.ntmps14
    go_wp2_with (go_at_call 45; refine (impl_GroupsValid.calls kk _ _ m _ _ g true _ HR0.out HC0.out HR1.out HC1.out HV.out).mono ?_; rintro e w1 ⟨rfl, hb1⟩)
    go_ret2
    exact ⟨_, rfl, Kd.R_nil _ _ _ _ _, hb1⟩
  have d1 : decide (i < 0) = false := decide_eq_false h0
  by_cases h1 : (g.length : Int) ≤ i
  · have hgj : gsplit m g i k = ([], false) := by unfold gsplit; rw [if_neg (fun h => by omega)]
    rw [hgj]
    have d2 : decide ((g.length : Int) ≤ i) = true := decide_eq_true h1
    clear hgj hs h0 h1
    go_enter Try.func14, Try.ntmps14
    go_wp2_with (go_at_call 45; refine (impl_GroupsValid.calls kk _ _ m _ _ g true _ HR0.out HC0.out HR1.out HC1.out HV.out).mono ?_; rintro e w1 ⟨rfl, hb1⟩)
    go_ret2
    exact ⟨_, rfl, Kd.R_nil _ _ _ _ _, hb1⟩
  have d2 : decide ((g.length : Int) ≤ i) = false := decide_eq_false h1
  by_cases h2 : k < 1
  · have hgj : gsplit m g i k = ([], false) := by unfold gsplit; rw [if_neg (fun h => by omega)]
    rw [hgj]
    have d3 : decide (k < 1) = true := decide_eq_true h2
    clear hgj hs h0 h1 h2
    go_enter Try.func14, Try.ntmps14
    go_wp2_with (go_at_call 45; refine (impl_GroupsValid.calls kk _ _ m _ _ g true _ HR0.out HC0.out HR1.out HC1.out HV.out).mono ?_; rintro e w1 ⟨rfl, hb1⟩)
    go_ret2
    exact ⟨_, rfl, Kd.R_nil _ _ _ _ _, hb1⟩
  have d3 : decide (k < 1) = false := decide_eq_false h2
  have S1 := Aside0.mk (size_of hs (k := i) (by omega) (by omega))
  clear hs
  have j1 := eq_true (show i < (g.length : Int) by omega)
  have j2 := eq_true (show 0 ≤ i by omega)
  obtain ⟨ad, e1, ux0, ux1⟩ := at_T65 HR1.out i (by omega) (by omega)
  subst e1
  have HX := Aside0.mk (And.intro ux0 ux1)
  clear ux0 ux1
  by_cases h3 : (rd_T65 g i).f0 ≤ k
  · have hgj : gsplit m g i k = ([], false) := by unfold gsplit; rw [if_neg (fun h => by omega)]
    rw [hgj]
    have d4 : decide ((rd_T65 g i).f0 ≤ k) = true := decide_eq_true h3
    clear hgj h0 h1 h2 h3
    go_enter Try.func14, Try.ntmps14
    go_wp2_with (go_at_call 45; refine (impl_GroupsValid.calls kk _ _ m _ _ g true _ HR0.out HC0.out HR1.out HC1.out HV.out).mono ?_; rintro e w1 ⟨rfl, hb1⟩; have hx0 := pw_cell_below hb1 HX.out.1)
    go_ret2
    exact ⟨_, rfl, Kd.R_nil _ _ _ _ _, hb1⟩
  have d4 : decide ((rd_T65 g i).f0 ≤ k) = false := decide_eq_false h3
  have H5 := Aside0.mk (show 0 ≤ i ∧ i < (g.length : Int) ∧ 1 ≤ k ∧ k < (rd_T65 g i).f0 from ⟨by omega, by omega, by omega, by omega⟩)
  have k1 : decide (0 ≤ i) = true := decide_eq_true (by omega)
  have k2 : decide (i ≤ (g.length : Int)) = true := decide_eq_true (by omega)
  have k3 := eq_true (show i ≤ (g.length : Int) by omega)
  have k4 := eq_true (show i + 1 ≤ (g.length : Int) by omega)
  obtain ⟨i0, hi0, _, hsz0, _⟩ := info_parts info65
  obtain ⟨hcut, ht, _, _⟩ := cut_take k65 26 65 Try.underlying26 hi0 i HR1.out HC1.out (by omega) (by omega)
  obtain ⟨A', c', hcf, hd, hc', _⟩ := cut_drop k65 26 65 Try.underlying26 hi0 hsz0 (i + 1) HR1.out HC1.out (by omega) (by omega)
  have HT := Aside0.mk ht
  have HD := Aside0.mk hd
  clear ht hd hi0 hsz0
  go_enter Try.func14, Try.ntmps14
  go_upto_region 4 with (first
    | (go_at_call 45; refine (impl_GroupsValid.calls kk _ _ m _ _ g true _ HR0.out HC0.out HR1.out HC1.out HV.out).mono ?_; rintro e w1 ⟨rfl, hb1⟩; have hx0 := pw_cell_below hb1 HX.out.1)
    | ((with_reducible refine gate_dst (N := 38) rfl ?_); refine Kd.R_lit k65 _ 65 ?hg (N := 38) ?hd (xs := ([] : List S65)) (inner := []) (ok := fun _ => True) (okp := fun _ => True) ?hr (Reps.none _ _) (fun _ hk => hk) trivial (Below.refl _ _) (Nat.le_refl _) (by simp) ?_; (case hd => rfl); (case hg => rfl); (case hr => first | (go_simp; done) | (go_simp; rfl)); intro v1 w2 ho1 hb2 _ _; replace hb2 := below_step hb1 hb2; replace ho1 := Kd.R_lower ho1 hb1.size)
    | ((with_reducible refine gate_builtin (b := .append) (xs := #[.tmp 38, .tmp 41]) rfl ?_); at_builtin; go_loud (refine Kd.R_append_rows k65 (w0 := w) w.heap.size rfl (.tmp 38) (.tmp 41) 26 65 (.agg #[(.int .i64 0), (.bool false)]) 16 rfl Try.underlying26 info65 rfl (by decide) (by omega) v1 [] (g.take i.toNat) _ _ _ (fun _ => True) (fun _ => False) rfl rfl ho1 (Kd.C_below HT.out hb2) (fun _ _ h => h) (fun _ h => h.elim) (fun _ _ => trivial) hb2 hb2.size (by simp; omega) ?_); intro v2 w3 ho2 hb3 _ _))
  go_cut [10] (fun v10 wc => Aside0 (Kd.R k65 65 wc w.heap.size (fun _ => True) v10 (g.take i.toNat ++ [⟨k, false⟩, ⟨(rd_T65 g i).f0 - k, (rd_T65 g i).f1⟩])) ∧ Aside0 (Below w.heap.size w wc))
  case first =>
    obtain ⟨hx0, hx1⟩ : _ ∧ _ := ⟨pw_cell_below hb3 HX.out.1, pw_cell_below hb3 HX.out.2⟩
    have p6 : IntKind.i64.wrap ((rd_T65 g i).f0 - k) = (rd_T65 g i).f0 - k := by rw [Go.IntKind.wrap_i64]; have := S1.out; have := H5.out; omega
    clear h0 h1 h2 h3
    go_region_held3 (fun w' => w'.cell? (ad.add (i.toNat * 2)) = some (.int .i64 (rd_T65 g i).f0) ∧ w'.cell? ⟨(ad.add (i.toNat * 2)).block, (ad.add (i.toNat * 2)).off + 1, none⟩ = some (.bool (rd_T65 g i).f1))
      (first
        | go_keep
        | (go_split_ands; exact ⟨pw_cell_below hb4 HX.out.1, pw_cell_below hb4 HX.out.2⟩))
      ((refine Kd.R_append_rows_step k65 (w0 := w) (W := w3.drew.alloc (.cells #[.int .i64 k, .bool false, .int .i64 ((rd_T65 g i).f0 - k), .bool (rd_T65 g i).f1] 65 (0, 0))) w.heap.size (by rfl) (.tmp 43) (.tmp 59) 26 65 (.agg #[(.int .i64 0), (.bool false)]) 16 (by rfl) Try.underlying26 info65 rfl (by decide) (by omega) v2 _ [⟨k, false⟩, ⟨(rd_T65 g i).f0 - k, (rd_T65 g i).f1⟩] (some ⟨w3.heap.size, 0, none⟩) 2 2 (fun _ => True) (fun _ => False) (by rfl) (by rfl) (Kd.R_below ho2 (below_alloc (below_drew (Below.refl _ _)) _)) (lit_C k65 w3.drew 65 (xs := [⟨k, false⟩, ⟨(rd_T65 g i).f0 - k, (rd_T65 g i).f1⟩]) (Reps.snoc (Reps.snoc (Reps.none _ _) (k65_mkM _ _ _ _) rfl) (k65_mkM _ _ _ _) rfl) (by simp)) (fun _ _ h => h) (fun _ hk => hk.elim) (fun _ _ => trivial) (below_alloc (below_drew1 hb3) _) (Nat.le_trans hb3.size (by simp)) (by simp; omega) ?_; intro v3 w4 ho3 hb4 _ _))
    go_wp2
    go_meet
    case rel => exact ⟨⟨by simpa using ho3⟩, ⟨hb4⟩⟩
  case rest =>
    obtain ⟨HO, HB⟩ := hcut
    go_wp2_with ((with_reducible refine gate_builtin (b := .append) (xs := #[.tmp 61, .tmp 65]) rfl ?_); at_builtin; go_loud (refine Kd.R_append_rows k65 (w0 := w) w.heap.size rfl (.tmp 61) (.tmp 65) 26 65 (.agg #[(.int .i64 0), (.bool false)]) 16 rfl Try.underlying26 info65 rfl (by decide) (by omega) _ _ (g.drop (i + 1).toNat) _ _ _ (fun _ => True) (fun _ => False) rfl rfl HO.out (Kd.C_below HD.out HB.out) (fun _ _ h => h) (fun _ h => h.elim) (fun _ _ => trivial) HB.out HB.out.size (by simp; omega) ?_); intro v4 w5 ho4 hb5 _ _)
    go_ret2
    have hgj : gsplit m g i k = (g.take i.toNat ++ [⟨k, false⟩, ⟨(rd_T65 g i).f0 - k, (rd_T65 g i).f1⟩] ++ g.drop (i + 1).toNat, true) := by
      unfold gsplit; rw [if_pos ⟨HOK.out, H5.out.1, H5.out.2.1, H5.out.2.2.1, H5.out.2.2.2⟩]
    rw [hgj]
    exact ⟨_, rfl, ho4, hb5⟩

end Go.Proofs.Ytkahgjejebhgnaa.Pure
