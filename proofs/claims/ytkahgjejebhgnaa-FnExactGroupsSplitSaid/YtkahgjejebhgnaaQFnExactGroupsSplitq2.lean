/- Lemmas on the printed functions for the law FnExactGroupsSplit. -/
import Derived.Test.YtkahgjejebhgnaaQFnExactGroupsSplitq0
import Derived.Test.YtkahgjejebhgnaaQFnExactGroupsSplitq1
import Derived.Deep.RegionHeld3
import Derived.BigRegion
import Derived.Deep.Slices
namespace Go.Proofs.Ytkahgjejebhgnaa.Pure
set_option linter.unusedVariables false
set_option linter.unusedSimpArgs false
open Go Go.RowKit Go.Proofs.Ytkahgjejebhgnaa.PFnExactGroupsSplit Go.Proofs.YtkahgjejebhgnaaW.PrintWords Go.Proofs.YtkahgjejebhgnaaW.PrintLast Go.Proofs.YtkahgjejebhgnaaW.PrintMore

theorem spec_l6In_calls (a b c : Int) (r : Bool) (w : World) (h : decide (b ≤ a ∧ a ≤ c) = r) :
    Calls Try.prog 42 #[.int .i64 a, .int .i64 b, .int .i64 c] w fun e w' => e = .returned (.bool r) ∧ Below w.heap.size w w' := by
  refine (spec_l6In.calls a b c r w (by rw [spec_l6In_eq, h])).mono ?_
  rintro e w' ⟨rfl, hd⟩
  exact ⟨rfl, hd.below⟩

theorem gsplit_len (m : List S67) (g : List S65) (i k : Int) : (gsplit m g i k).1.length ≤ g.length + 2 := by
  unfold gsplit
  split
  · simp; omega
  · simp
set_option maxHeartbeats 4000000 in
set_option maxRecDepth 100000 in
theorem spec_GroupsSplit_calls (m : List S67) (g : List S65) (i k : Int) (A0 : Option Addr) (c0 : Nat) (A1 : Option Addr) (c1 : Nat) (w : World) (hr0 : Kd.C k67 w A0 m.length m) (hc0 : m.length ≤ c0) (hr1 : Kd.C k65 w A1 g.length g) (hc1 : g.length ≤ c1) (hm : m.length ≤ 1000000000000) (hg : g.length ≤ 1000000000000) :
    Calls Try.prog 11 #[.slice A0 m.length c0, .slice A1 g.length c1, .int .i64 i, .int .i64 k] w fun e w' => ∃ v, e = .returned (.tuple #[v, .bool (gsplit m g i k).2]) ∧ Kd.R k65 65 w' w.heap.size (fun _ => True) v (gsplit m g i k).1 ∧ Below w.heap.size w w' := by
  obtain ⟨kk, hv⟩ := Ev.rounds (spec_GroupsValid_ev m g hm hg)
  have HR0 := Aside0.mk hr0
  have HC0 := Aside0.mk hc0
  have HR1 := Aside0.mk hr1
  have HC1 := Aside0.mk hc1
  have HV := Aside0.mk hv
  clear hr0 hc0 hr1 hc1 hv hm
  cases hok : gOk m g
  · have hgj : gsplit m g i k = ([], false) := by unfold gsplit; rw [if_neg (fun h => by rw [hok] at h; exact absurd h.1 (by simp))]
    rw [hgj]
    rw [hok] at HV
    clear hgj hok
    go_enter Try.func11, Try.ntmps11
    go_wp2_with (first
      | (go_at_call 41; refine (spec_GroupsValid.calls kk _ _ m _ _ g false _ HR0.out HC0.out HR1.out HC1.out HV.out).mono ?_; rintro e w1 ⟨rfl, hb1⟩)
      | ((with_reducible refine gate_dst (N := 34) rfl ?_); refine Kd.R_lit k65 _ 65 ?hg (N := 34) ?hd (xs := ([] : List S65)) (inner := []) (ok := fun _ => True) (okp := fun _ => True) ?hr (Reps.none _ _) (fun _ hk => hk) trivial (Below.refl _ _) (Nat.le_refl _) (by simp) ?_; (case hd => rfl); (case hg => rfl); (case hr => first | (go_simp; done) | (go_simp; rfl)); intro v7 w7 ho7 hb7 _ _))
    go_ret2
    exact ⟨_, rfl, Kd.R_lower ho7 hb1.size, below_step hb1 hb7⟩
  rw [hok] at HV
  have HOK := Aside0.mk hok
  have hs := gOk_sizes hok
  have HG := Aside0.mk (gOk_len hok)
  clear hok
  by_cases hi : 0 ≤ i ∧ i ≤ (g.length : Int) - 1
  · have HI := Aside0.mk (decide_eq_true hi)
    have S1 := Aside0.mk (size_of hs (k := i) (by omega) (by omega))
    clear hs
    have j1 := eq_true (show i < (g.length : Int) by omega)
    have j2 := eq_true (show 0 ≤ i by omega)
    have w1' : -1 ≤ (rd_T65 g i).f0 := by have := S1.out; omega
    have w2' : (rd_T65 g i).f0 ≤ 10 := by have := S1.out; omega
    obtain ⟨ad, e1, ux0, ux1⟩ := at_T65 HR1.out i (by omega) (by omega)
    subst e1
    have HX := Aside0.mk (And.intro ux0 ux1)
    clear ux0 ux1
    by_cases hk : 1 ≤ k ∧ k ≤ (rd_T65 g i).f0 - 1
    · have HK := Aside0.mk (decide_eq_true hk)
      have H5 := Aside0.mk (show 0 ≤ i ∧ i < (g.length : Int) ∧ 1 ≤ k ∧ k < (rd_T65 g i).f0 from ⟨by omega, by omega, by omega, by omega⟩)
      have k1 : decide (0 ≤ i) = true := decide_eq_true (by omega)
      have k2 : decide (i ≤ (g.length : Int)) = true := decide_eq_true (by omega)
      have k3 := eq_true (show i ≤ (g.length : Int) by omega)
      have k4 := eq_true (show i + 1 ≤ (g.length : Int) by omega)
      obtain ⟨i0, hi0, _, hsz0, _⟩ := info_parts info65
      obtain ⟨hcut, ht, _, _⟩ := cut_take k65 26 65 Try.underlying26 hi0 i HR1.out HC1.out (by omega) (by omega)
      obtain ⟨A', c', hcf, hd, hc', _⟩ := cut_drop k65 26 65 Try.underlying26 hi0 hsz0 (i + 1) HR1.out HC1.out (by omega) (by omega)
      have HT := Aside0.mk ht
      have HD := Aside0.mk hd
      have bi : i ≤ 1000000000000 := by omega
      have bi' : -1 ≤ i := by omega
      clear ht hd hi0 hsz0 hi hk
      go_enter Try.func11, Try.ntmps11
      go_wp2_with fail
      refine (spec_GroupsValid.calls kk _ _ m _ _ g true _ HR0.out HC0.out HR1.out HC1.out HV.out).mono ?_
      rintro e w1 ⟨rfl, hb1⟩
      go_wp2_with fail
      refine (spec_l6In_calls _ _ _ true _ HI.out).mono ?_
      rintro e w2 ⟨rfl, hb2⟩
      replace hb2 := below_step hb1 hb2
      have hx0 := pw_cell_below hb2 HX.out.1
      go_wp2_with fail
      refine (spec_l6In_calls _ _ _ true _ HK.out).mono ?_
      rintro e w3 ⟨rfl, hb3⟩
      replace hb3 := below_step hb2 hb3
      clear hx0
      go_upto_region 4 with (first
        | ((with_reducible refine gate_dst (N := 35) rfl ?_); refine Kd.R_lit k65 _ 65 ?hg (N := 35) ?hd (xs := ([] : List S65)) (inner := []) (ok := fun _ => True) (okp := fun _ => True) ?hr (Reps.none _ _) (fun _ hk => hk) trivial (Below.refl _ _) (Nat.le_refl _) (by simp) ?_; (case hd => rfl); (case hg => rfl); (case hr => first | (go_simp; done) | (go_simp; rfl)); intro v1 w4 ho1 hb4 _ _; replace ho1 := Kd.R_lower ho1 hb3.size; replace hb4 := below_step hb3 hb4)
        | ((with_reducible refine gate_builtin (b := .append) (xs := #[.tmp 35, .tmp 38]) rfl ?_); at_builtin; go_loud (refine Kd.R_append_rows k65 (w0 := w) w.heap.size rfl (.tmp 35) (.tmp 38) 26 65 (.agg #[(.int .i64 0), (.bool false)]) 16 rfl Try.underlying26 info65 rfl (by decide) (by omega) v1 [] (g.take i.toNat) _ _ _ (fun _ => True) (fun _ => False) rfl rfl ho1 (Kd.C_below HT.out hb4) (fun _ _ h => h) (fun _ h => h.elim) (fun _ _ => trivial) hb4 hb4.size (by have h5 := H5.out; simp; omega) ?_); intro v2 w5 ho2 hb5 _ _))
      go_cut [10] (fun v10 wc => Aside0 (Kd.R k65 65 wc w.heap.size (fun _ => True) v10 (g.take i.toNat ++ [⟨k, false⟩, ⟨(rd_T65 g i).f0 - k, (rd_T65 g i).f1⟩])) ∧ Aside0 (Below w.heap.size w wc))
      case first =>
        obtain ⟨hx0, hx1⟩ : _ ∧ _ := ⟨pw_cell_below hb5 HX.out.1, pw_cell_below hb5 HX.out.2⟩
        have p6 : IntKind.i64.wrap ((rd_T65 g i).f0 - k) = (rd_T65 g i).f0 - k := by rw [Go.IntKind.wrap_i64]; have := S1.out; have := H5.out; omega
        clear w1' w2'
        go_region_held3 (fun w' => w'.cell? (ad.add (i.toNat * 2)) = some (.int .i64 (rd_T65 g i).f0) ∧ w'.cell? ⟨(ad.add (i.toNat * 2)).block, (ad.add (i.toNat * 2)).off + 1, none⟩ = some (.bool (rd_T65 g i).f1))
          (first
            | go_keep
            | (go_split_ands; exact ⟨pw_cell_below hb6 HX.out.1, pw_cell_below hb6 HX.out.2⟩))
          ((refine Kd.R_append_rows_step k65 (w0 := w) (W := w5.drew.alloc (.cells #[.int .i64 k, .bool false, .int .i64 ((rd_T65 g i).f0 - k), .bool (rd_T65 g i).f1] 65 (0, 0))) w.heap.size (by rfl) (.tmp 40) (.tmp 56) 26 65 (.agg #[(.int .i64 0), (.bool false)]) 16 (by rfl) Try.underlying26 info65 rfl (by decide) (by omega) v2 _ [⟨k, false⟩, ⟨(rd_T65 g i).f0 - k, (rd_T65 g i).f1⟩] (some ⟨w5.heap.size, 0, none⟩) 2 2 (fun _ => True) (fun _ => False) (by rfl) (by rfl) (Kd.R_below ho2 (below_alloc (below_drew (Below.refl _ _)) _)) (lit_C k65 w5.drew 65 (xs := [⟨k, false⟩, ⟨(rd_T65 g i).f0 - k, (rd_T65 g i).f1⟩]) (Reps.snoc (Reps.snoc (Reps.none _ _) (k65_mkM _ _ _ _) rfl) (k65_mkM _ _ _ _) rfl) (by simp)) (fun _ _ h => h) (fun _ hk => hk.elim) (fun _ _ => trivial) (below_alloc (below_drew1 hb5) _) (Nat.le_trans hb5.size (by simp)) (by have h5 := H5.out; simp; omega) ?_; intro v3 w6 ho3 hb6 _ _))
        go_wp2
        go_meet
        case rel => exact ⟨⟨by simpa using ho3⟩, ⟨hb6⟩⟩
      case rest =>
        obtain ⟨HO, HB⟩ := hcut
        go_wp2_with ((with_reducible refine gate_builtin (b := .append) (xs := #[.tmp 58, .tmp 62]) rfl ?_); at_builtin; go_loud (refine Kd.R_append_rows k65 (w0 := w) w.heap.size rfl (.tmp 58) (.tmp 62) 26 65 (.agg #[(.int .i64 0), (.bool false)]) 16 rfl Try.underlying26 info65 rfl (by decide) (by omega) _ _ (g.drop (i + 1).toNat) _ _ _ (fun _ => True) (fun _ => False) rfl rfl HO.out (Kd.C_below HD.out HB.out) (fun _ _ h => h) (fun _ h => h.elim) (fun _ _ => trivial) HB.out HB.out.size (by have h5 := H5.out; simp; omega) ?_); intro v4 w7 ho4 hb7 _ _)
        go_ret2
        have hgj : gsplit m g i k = (g.take i.toNat ++ [⟨k, false⟩, ⟨(rd_T65 g i).f0 - k, (rd_T65 g i).f1⟩] ++ g.drop (i + 1).toNat, true) := by
          unfold gsplit; rw [if_pos ⟨HOK.out, H5.out.1, H5.out.2.1, H5.out.2.2.1, H5.out.2.2.2⟩]
        rw [hgj]
        exact ⟨_, rfl, ho4, hb7⟩
    · have hgj : gsplit m g i k = ([], false) := by unfold gsplit; rw [if_neg (fun h => hk ⟨by omega, by omega⟩)]
      rw [hgj]
      have HK := Aside0.mk (decide_eq_false hk)
      clear hgj hk hi
      go_enter Try.func11, Try.ntmps11
      go_wp2_with fail
      refine (spec_GroupsValid.calls kk _ _ m _ _ g true _ HR0.out HC0.out HR1.out HC1.out HV.out).mono ?_
      rintro e w1 ⟨rfl, hb1⟩
      go_wp2_with fail
      refine (spec_l6In_calls _ _ _ true _ HI.out).mono ?_
      rintro e w2 ⟨rfl, hb2⟩
      replace hb2 := below_step hb1 hb2
      have hx0 := pw_cell_below hb2 HX.out.1
      go_wp2_with fail
      refine (spec_l6In_calls _ _ _ false _ HK.out).mono ?_
      rintro e w3 ⟨rfl, hb3⟩
      replace hb3 := below_step hb2 hb3
      clear hx0
      go_wp2_with ((with_reducible refine gate_dst (N := 34) rfl ?_); refine Kd.R_lit k65 _ 65 ?hg (N := 34) ?hd (xs := ([] : List S65)) (inner := []) (ok := fun _ => True) (okp := fun _ => True) ?hr (Reps.none _ _) (fun _ hk => hk) trivial (Below.refl _ _) (Nat.le_refl _) (by simp) ?_; (case hd => rfl); (case hg => rfl); (case hr => first | (go_simp; done) | (go_simp; rfl)); intro v7 w7 ho7 hb7 _ _)
      go_ret2
      exact ⟨_, rfl, Kd.R_lower ho7 hb3.size, below_step hb3 hb7⟩
  · have hgj : gsplit m g i k = ([], false) := by unfold gsplit; rw [if_neg (fun h => hi ⟨by omega, by omega⟩)]
    rw [hgj]
    have HI := Aside0.mk (decide_eq_false hi)
    clear hgj hi hs
    go_enter Try.func11, Try.ntmps11
    go_wp2_with fail
    refine (spec_GroupsValid.calls kk _ _ m _ _ g true _ HR0.out HC0.out HR1.out HC1.out HV.out).mono ?_
    rintro e w1 ⟨rfl, hb1⟩
    go_wp2_with fail
    refine (spec_l6In_calls _ _ _ false _ HI.out).mono ?_
    rintro e w2 ⟨rfl, hb2⟩
    replace hb2 := below_step hb1 hb2
    go_wp2_with ((with_reducible refine gate_dst (N := 34) rfl ?_); refine Kd.R_lit k65 _ 65 ?hg (N := 34) ?hd (xs := ([] : List S65)) (inner := []) (ok := fun _ => True) (okp := fun _ => True) ?hr (Reps.none _ _) (fun _ hk => hk) trivial (Below.refl _ _) (Nat.le_refl _) (by simp) ?_; (case hd => rfl); (case hg => rfl); (case hr => first | (go_simp; done) | (go_simp; rfl)); intro v7 w7 ho7 hb7 _ _)
    go_ret2
    exact ⟨_, rfl, Kd.R_lower ho7 hb2.size, below_step hb2 hb7⟩

end Go.Proofs.Ytkahgjejebhgnaa.Pure
