/- Lemmas on the printed functions for the law FnMelodySame. -/
import Derived.Test.YtclpnaaagajhiaaDoorQFnMelodySameq0
import Derived.Test.YtclpnaaagajhiaaDoorQFnMelodySameq1
import Derived.Deep.RegionHeld3
import Derived.BigRegion
import Derived.Deep.Slices
import Derived.Laws.CopyOwn
namespace Go.Proofs.YtclpnaaagajhiaaDoor.Pure
set_option linter.unusedVariables false
set_option linter.unusedSimpArgs false
open Go Go.RowKit Go.Proofs.YtclpnaaagajhiaaDoor.PFnMelodySame Go.Proofs.YtclpnaaagajhiaaDoorW.PrintWords Go.Proofs.YtclpnaaagajhiaaDoorW.PrintLast Go.Proofs.YtclpnaaagajhiaaDoorW.PrintMore

/-! MelodyMove -/
theorem impl_ToneAbove_out (t : S29) (a : Int) (s : Bool) (ht : toneOk t = true) (ha : ¬ (-20 ≤ a ∧ a ≤ 20)) : impl_ToneAbove.f 1 t.f0 t.f1 a s = some (0, false, false) := by
  unfold impl_ToneAbove.f
  rw [impl_Tone_valid_eq]
  have e : (⟨t.f0, t.f1⟩ : S29) = t := rfl
  rw [e, ht, Option.bind_some, if_pos rfl]
  by_cases h : a < -20
  · rw [if_pos h]; rfl
  · rw [if_neg h, decide_eq_true (show a > 20 by omega)]; rfl
def mmT (m : List S29) (k : Int) (b : Bool) : Prop := (-20 ≤ k ∧ k ≤ 20) ∧ mmTry m k b = true
theorem mmove_yes {m : List S29} {k : Int} {b : Bool} (hok : melOk m = true) (hm : 0 < m.length) (h : mmT m k b) (h' : b = true → ¬ mmT m k false) : mmove m k = (mmOf m k b, true) := by
  unfold mmove
  rw [if_pos hok, if_neg (by omega), if_pos h.1]
  cases b
  · rw [if_pos h.2]
  · rw [if_neg (fun g => h' rfl ⟨h.1, g⟩), if_pos h.2]
theorem mmove_no {m : List S29} {k : Int} (hok : melOk m = true) (hm : 0 < m.length) (h : ¬ mmT m k true) (h' : ¬ mmT m k false) : mmove m k = ([], false) := by
  unfold mmove
  rw [if_pos hok, if_neg (by omega)]
  by_cases hk : -20 ≤ k ∧ k ≤ 20
  · rw [if_pos hk, if_neg (fun g => h' ⟨hk, g⟩), if_neg (fun g => h ⟨hk, g⟩)]
  · rw [if_neg hk]
set_option maxHeartbeats 8000000 in
set_option maxRecDepth 100000 in
theorem impl_MelodyMove_calls (m : List S29) (k : Int) (A0 : Option Addr) (c0 : Nat) (w : World) (ht : HTab w) (hr0 : Kd.C k29 w A0 m.length m) (hc0 : m.length ≤ c0) (hm : m.length ≤ 1000000000000) :
    Calls Tryd.prog 21 #[.slice A0 m.length c0, .int .i64 k] w fun e w' => ∃ v, e = .returned (.tuple #[v, .bool (mmove m k).2]) ∧ Kd.R k29 29 w' w.heap.size (fun _ => True) v (mmove m k).1 ∧ Below w.heap.size w w' := by
  obtain ⟨kk, hv⟩ := Ev.rounds (impl_MelodyValid_ev m)
  have hu1 := Tryd.underlying29
  have ix0 : ∀ w, (Instr.index 86 (.agg #[.bool false, .bool true]) (.int .i64 0)).run Tryd.prog w = .ok (.bool false) w := fun _ => by kernel_rfl
  have ix1 : ∀ w, (Instr.index 86 (.agg #[.bool false, .bool true]) (.int .i64 1)).run Tryd.prog w = .ok (.bool true) w := fun _ => by kernel_rfl
  have HT := Aside0.mk ht
  have HR0 := Aside0.mk hr0
  have HC0 := Aside0.mk hc0
  have HVV := Aside0.mk hv
  clear hr0 hc0 ht hv
  cases hok : melOk m
  · have e : mmove m k = ([], false) := by unfold mmove; rw [hok]; rfl
    rw [e]
    rw [hok] at HVV
    clear hok e
    go_enter Tryd.func21, Tryd.ntmps21
    go_wp2_with (go_at_call 71; refine (impl_MelodyValid.calls kk _ _ m false _ HR0.out HC0.out HVV.out).mono ?_; rintro e w1 ⟨rfl, hb1⟩)
    go_ret2
    exact ⟨_, rfl, Kd.R_nil _ _ _ _ _, hb1⟩
  rw [hok] at HVV
  have HOK := Aside0.mk hok
  by_cases h0 : m.length = 0
  · have e : mmove m k = ([], true) := by unfold mmove; rw [if_pos hok, if_pos h0]
    rw [e]
    have hne : ((m.length : Int) == 0) = true := by rw [beq_iff_eq]; omega
    have hne' : (m.length == 0) = true := by rw [beq_iff_eq]; omega
    clear hok e h0
    go_enter Tryd.func21, Tryd.ntmps21
    go_wp2_with (first
      | (go_at_call 71; refine (impl_MelodyValid.calls kk _ _ m true _ HR0.out HC0.out HVV.out).mono ?_; rintro e w1 ⟨rfl, hb1⟩)
      | ((with_reducible refine gate_dst (N := 18) rfl ?_); refine Kd.R_lit k29 _ 29 ?hg (N := 18) ?hd (xs := ([] : List S29)) (inner := []) (ok := fun _ => True) (okp := fun _ => True) ?hr (Reps.none _ _) (fun _ hk => hk) trivial (Below.refl _ _) (Nat.le_refl _) (by simp) ?_; (case hd => rfl); (case hg => rfl); (case hr => first | (go_simp; done) | (go_simp; rfl)); intro v1 w2 ho1 hb2 _ _; obtain ⟨A1, c1, rfl⟩ := Kd.R_slice ho1))
    go_ret2
    exact ⟨_, rfl, Kd.R_lower ho1 hb1.size, below_step hb1 hb2⟩
  have hlen := melOk_len hok
  have hpos : 0 < m.length := by omega
  have hne : ((m.length : Int) == 0) = false := by rw [beq_eq_false_iff_ne]; omega
  have hne' : (m.length == 0) = false := by rw [beq_eq_false_iff_ne]; omega
  obtain ⟨⟨R1, R2⟩, hR⟩ : ∃ R, R = mmove m k := ⟨_, rfl⟩
  rw [← hR]
  have HRR := Aside0.mk hR.symm
  obtain ⟨ad, e1, ux0, ux1⟩ := at_T29 HR0.out 0 (by omega) (by omega)
  subst e1
  obtain ⟨x, hx⟩ : ∃ x, x = rd_T29 m 0 := ⟨_, rfl⟩
  have hxo : toneOk x = true := by
    rw [hx]
    refine List.all_eq_true.1 (melOk_all hok) _ ?_
    unfold rd_T29
    rw [List.getD_eq_getElem?_getD, List.getElem?_eq_getElem (by simp; omega)]; exact List.getElem_mem _
  rw [← hx] at ux0 ux1
  have HXL := Aside0.mk (And.intro hxo hx)
  have UX0 : Aside0 (w.cell? ad = some (.int .i64 x.f0)) := ⟨ux0⟩
  have UX1 : Aside0 (w.cell? ⟨ad.block, ad.off + 1, none⟩ = some (.bool x.f1)) := ⟨ux1⟩
  have i1 := eq_true (show 0 < (m.length : Int) by omega)
  have i2 := eq_true hpos
  have HPOS := Aside0.mk hpos
  clear hok h0 hR ux0 ux1 hx hxo hpos
  go_enter Tryd.func21, Tryd.ntmps21
  go_wp2_with (go_at_call 71; refine (impl_MelodyValid.calls kk _ _ m true _ HR0.out HC0.out HVV.out).mono ?_; rintro e w1 ⟨rfl, hb1⟩; have HB1 := Aside0.mk hb1; clear hb1)
  go_loopg [20] 2 (fun kq v20 w' => ∃ (j : Int), v20 = .int .i64 j ∧ Aside0 (kq = (2 - j).toNat ∧ 0 ≤ j ∧ j ≤ 2 ∧ (1 ≤ j → ¬ mmT m k false) ∧ (2 ≤ j → ¬ mmT m k true)) ∧ Aside0 (Below w.heap.size w w'))
  case atStart => exact ⟨0, rfl, ⟨rfl, by decide, by decide, by omega, by omega⟩, HB1⟩
  case round =>
    obtain ⟨j, rfl, HJ, HB2⟩ := hrel
    clear HB1
    obtain ⟨hk, j0, j2, n0, n1⟩ := HJ.out
    by_cases h2 : j = 2
    · subst h2
      have hR : (R1, R2) = ([], false) := HRR.out.symm.trans (mmove_no HOK.out HPOS.out (n1 (by omega)) (n0 (by omega)))
      cases hR
      clear n0 n1 hk j0 j2
      go_wp2
      go_ret2
      exact ⟨_, rfl, Kd.R_nil _ _ _ _ _, HB2.out⟩
    have hj : j = 0 ∨ j = 1 := by omega
    rcases hj with rfl | rfl
    · have N0 : Aside0 True := ⟨trivial⟩
      have HK := Aside0.mk hk
      clear n0 n1 hk j0 j2 h2 HJ
      obtain ⟨ok, hv⟩ : ∃ ok, ok = (decide (-20 ≤ k ∧ k ≤ 20) && toneOk (mvT x k false)) := ⟨_, rfl⟩
      have HV := Aside0.mk hv
      have hta : impl_ToneAbove.f 1 x.f0 x.f1 k false = some (if ok = true then (x.f0 + k, false, true) else (0, false, false)) := by
        by_cases hk : -20 ≤ k ∧ k ≤ 20
        · rw [impl_ToneAbove_eq x k false HXL.out.1 hk, hv, decide_eq_true hk]; rfl
        · rw [impl_ToneAbove_out x k false HXL.out.1 hk, hv, decide_eq_false hk]; rfl
      have HTA := Aside0.mk hta
      clear hta hv
      have hx0 : wr.cell? ad = some (.int .i64 x.f0) := (HB2.out.cell (World.block_lt_of_cell? w _ UX0.out)).trans UX0.out
      have hx1 : wr.cell? ⟨ad.block, ad.off + 1, none⟩ = some (.bool x.f1) := (HB2.out.cell (World.block_lt_of_cell? w _ UX1.out)).trans UX1.out
      cases ok
      · have NG : Aside0 (¬ mmT m k false) := ⟨fun h => by have hv := HV.out; rw [decide_eq_true h.1, Bool.true_and] at hv; have h2 := h.2; unfold mmTry at h2; rw [← HXL.out.2, ← hv] at h2; cases h2⟩
        go_wp2_with (first
          | (go_at_call 53; refine (impl_ToneAbove.calls 1 x.f0 x.f1 k false 0 false false _ (HTA.out.trans rfl)).mono ?_; rintro e w4 ⟨rfl, hb4⟩; have HB4 := Aside0.mk hb4; clear hb4)
          | ((with_reducible refine gate_dst (N := 8) rfl ?_); refine box_event ?hg (N := 8) ?hd (cs := #[.int .i64 0, .bool false]) (t := 29) ?hr ?_; (case hd => rfl); (case hg => rfl); (case hr => first | (go_simp; done) | (go_simp; rfl)); intro gb hg w5 hbox hb5; have HG := Aside0.mk (show w4.heap.size ≤ gb by omega); have HB5 := Aside0.mk hb5; have hcz0 : w5.cell? ⟨gb, 0, none⟩ = some (.int .i64 0) := (blk_cell hbox 0).trans rfl; have hcz1 : w5.cell? ⟨gb, 1, none⟩ = some (.bool false) := (blk_cell hbox 1).trans rfl; have hfz0 := blk_frozen hbox 0; have hfz1 := blk_frozen hbox 1; clear hbox hb5 hg))
        have hbW : Below wr.heap.size wr ((w5.setCell ⟨gb, 0, none⟩ (.int .i64 0)).setCell ⟨gb, 1, none⟩ (.bool false)) := below_step HB4.out (below_set (below_set HB5.out HG.out) HG.out)
        have HBW := Aside0.mk hbW
        go_roundg (2 - 1)
        case measure => have := HK.out; omega
        case rel => exact ⟨1, rfl, ⟨by decide, by decide, by decide, fun _ => NG.out, by omega⟩, ⟨below_step HB2.out HBW.out⟩⟩
      · have hv := HV.out.symm
        rw [Bool.and_eq_true] at hv
        have hkk := of_decide_eq_true hv.1
        have HKK := Aside0.mk hkk
        have HB' := Aside0.mk (hgt_bd (t := mvT x k false) hv.2)
        have HB'' := Aside0.mk (hgt_bd HXL.out.1)
        obtain ⟨Y, hY⟩ : ∃ Y, Y = x.f0 + k := ⟨_, rfl⟩
        have hYT : mvT x k false = ⟨Y, false⟩ := by rw [hY]; rfl
        obtain ⟨⟨M1, M2⟩, hM⟩ : ∃ R, R = movedP k (hgt ⟨Y, false⟩ - hgt x) m := ⟨_, rfl⟩
        have HM := Aside0.mk hM.symm
        have HTRY : Aside0 (mmTry m k false = M2 ∧ mmOf m k false = M1) := ⟨by unfold mmTry mmOf; rw [← HXL.out.2, hv.2, hYT, ← hM]; exact ⟨rfl, rfl⟩⟩
        have HYO := Aside0.mk (show toneOk ⟨Y, false⟩ = true by rw [← hYT]; exact hv.2)
        have EW : Aside0 (IntKind.i64.wrap (hgt ⟨Y, false⟩ - hgt x) = hgt ⟨Y, false⟩ - hgt x) := ⟨by rw [← hYT, i64_w]; exact w64 (x := hgt (mvT x k false) - hgt x) (by have := HB'.out; have := HB''.out; omega) (by have := HB'.out; have := HB''.out; omega)⟩
        rw [← hY] at HTA
        clear hY hYT HB' HB'' hM hv hkk
        go_upto_region 10 with (first
          | (go_at_call 53; refine (impl_ToneAbove.calls 1 x.f0 x.f1 k false Y false true _ (HTA.out.trans rfl)).mono ?_; rintro e w4 ⟨rfl, hb4⟩; have HB4 := Aside0.mk hb4; clear hb4)
          | ((with_reducible refine gate_dst (N := 8) rfl ?_); refine box_event ?hg (N := 8) ?hd (cs := #[.int .i64 0, .bool false]) (t := 29) ?hr ?_; (case hd => rfl); (case hg => rfl); (case hr => first | (go_simp; done) | (go_simp; rfl)); intro gb hg w5 hbox hb5; have HG := Aside0.mk (show w4.heap.size ≤ gb by omega); have HB5 := Aside0.mk hb5; have HBK := Aside0.mk hbox; have hcz0 : w5.cell? ⟨gb, 0, none⟩ = some (.int .i64 0) := (blk_cell hbox 0).trans rfl; have hcz1 : w5.cell? ⟨gb, 1, none⟩ = some (.bool false) := (blk_cell hbox 1).trans rfl; have hfz0 := blk_frozen hbox 0; have hfz1 := blk_frozen hbox 1; clear hbox hb5 hg))
        have hbW : Below wr.heap.size wr ((w5.setCell ⟨gb, 0, none⟩ (.int .i64 Y)).setCell ⟨gb, 1, none⟩ (.bool false)) := below_step HB4.out (below_set (below_set HB5.out HG.out) HG.out)
        have hbk : ((w5.setCell ⟨gb, 0, none⟩ (.int .i64 Y)).setCell ⟨gb, 1, none⟩ (.bool false)).heap[gb]? = some (.cells #[.int .i64 Y, .bool false] 29 (0, 0)) := blk_put (cs := #[.int .i64 Y, .bool false]) (blk_put (cs := #[.int .i64 0, .bool false]) HBK.out 0 _ rfl) 1 _ rfl
        have HBW := Aside0.mk hbW
        have HBKW := Aside0.mk hbk
        have hy0' := pw_cell_below hbW hx0
        have hy1' := pw_cell_below hbW hx1
        clear hbW hbk HB4 HB5 HG HBK hcz0 hcz1 hx0 hx1 hfz0 hfz1
        generalize (w5.setCell ⟨gb, 0, none⟩ (.int .i64 Y)).setCell ⟨gb, 1, none⟩ (.bool false) = wx at HBW HBKW hy0' hy1' ⊢
        have hg0 : wx.drew.cell? ⟨gb, 0, none⟩ = some (.int .i64 Y) := (blk_cell HBKW.out 0).trans rfl
        have hg1 : wx.drew.cell? ⟨gb, 1, none⟩ = some (.bool false) := (blk_cell HBKW.out 1).trans rfl
        have hy0 : wx.drew.cell? ad = some (.int .i64 x.f0) := hy0'
        have hy1 : wx.drew.cell? ⟨ad.block, ad.off + 1, none⟩ = some (.bool x.f1) := hy1'
        have HW0 := Aside0.mk (below_step HB2.out (below_drew1 HBW.out))
        have HTW := Aside0.mk (HT.out.below HW0.out)
        clear hy0' hy1'
        go_region_held3 (fun w' => w'.cell? ⟨gb, 0, none⟩ = some (.int .i64 Y) ∧ w'.cell? ⟨gb, 1, none⟩ = some (.bool false) ∧ w'.cell? ad = some (.int .i64 x.f0) ∧ w'.cell? ⟨ad.block, ad.off + 1, none⟩ = some (.bool x.f1))
          (first
            | exact ⟨hg0, hg1, hy0, hy1⟩
            | go_keep
            | exact ⟨pw_cell_below hb6 hg0, pw_cell_below hb6 hg1, pw_cell_below hb6 hy0, pw_cell_below hb6 hy1⟩
            | exact ⟨pw_cell_below (below_step hb6 hb7) hg0, pw_cell_below (below_step hb6 hb7) hg1, pw_cell_below (below_step hb6 hb7) hy0, pw_cell_below (below_step hb6 hb7) hy1⟩
            | exact ⟨pw_cell_below (below_step (below_step hb6 hb7) hb8) hg0, pw_cell_below (below_step (below_step hb6 hb7) hb8) hg1, pw_cell_below (below_step (below_step hb6 hb7) hb8) hy0, pw_cell_below (below_step (below_step hb6 hb7) hb8) hy1⟩
            | fail)
          (first
            | (go_at_call 73; with_reducible refine (impl_height_calls ⟨Y, false⟩ wx.drew HTW.out HYO.out).mono ?_; rintro e w6 ⟨rfl, hb6⟩)
            | (go_at_call 73; with_reducible refine (impl_height_calls x w6 (HTW.out.below hb6) HXL.out.1).mono ?_; rintro e w7 ⟨rfl, hb7⟩)
            | (go_at_call 72; with_reducible refine (impl_movedMelody_calls m k (IntKind.i64.wrap (hgt ⟨Y, false⟩ - hgt x)) _ _ w7 (HTW.out.below (below_step hb6 hb7)) (Kd.C_below HR0.out (below_step HW0.out (below_step hb6 hb7))) HC0.out HOK.out HKK.out).mono ?_; rintro e w8 ⟨v8, rfl, ho8, hb8⟩; rw [EW.out, HM.out] at ho8; rw [EW.out, HM.out]; obtain ⟨A8, c8, rfl⟩ := Kd.R_slice ho8)
            | fail)
        have HB8 := Aside0.mk (below_step (below_step HW0.out (below_step hb6 hb7)) hb8)
        have HO8 := Aside0.mk (Kd.R_lower ho8 (below_step HW0.out (below_step hb6 hb7)).size)
        clear hg0 hg1 hy0 hy1 hb6 hb7 hb8 ho8 HBKW HBW HTW HW0
        cases M2
        · have NG : Aside0 (¬ mmT m k false) := ⟨fun h => by have h2 := h.2; rw [HTRY.out.1] at h2; cases h2⟩
          go_wp2
          go_roundg (2 - 1)
          case measure => have := HK.out; omega
          case rel => exact ⟨1, rfl, ⟨by decide, by decide, by decide, fun _ => NG.out, by omega⟩, HB8⟩
        · have hR : (R1, R2) = (M1, true) := by rw [← HTRY.out.2]; exact HRR.out.symm.trans (mmove_yes HOK.out HPOS.out ⟨HKK.out, HTRY.out.1⟩ (fun h => by cases h))
          cases hR
          go_wp2
          go_ret2
          exact ⟨_, rfl, HO8.out, HB8.out⟩
    · have N0 := Aside0.mk (n0 (by omega))
      have HK := Aside0.mk hk
      clear n0 n1 hk j0 j2 h2 HJ
      obtain ⟨ok, hv⟩ : ∃ ok, ok = (decide (-20 ≤ k ∧ k ≤ 20) && toneOk (mvT x k true)) := ⟨_, rfl⟩
      have HV := Aside0.mk hv
      have hta : impl_ToneAbove.f 1 x.f0 x.f1 k true = some (if ok = true then (x.f0 + k, true, true) else (0, false, false)) := by
        by_cases hk : -20 ≤ k ∧ k ≤ 20
        · rw [impl_ToneAbove_eq x k true HXL.out.1 hk, hv, decide_eq_true hk]; rfl
        · rw [impl_ToneAbove_out x k true HXL.out.1 hk, hv, decide_eq_false hk]; rfl
      have HTA := Aside0.mk hta
      clear hta hv
      have hx0 : wr.cell? ad = some (.int .i64 x.f0) := (HB2.out.cell (World.block_lt_of_cell? w _ UX0.out)).trans UX0.out
      have hx1 : wr.cell? ⟨ad.block, ad.off + 1, none⟩ = some (.bool x.f1) := (HB2.out.cell (World.block_lt_of_cell? w _ UX1.out)).trans UX1.out
      cases ok
      · have NG : Aside0 (¬ mmT m k true) := ⟨fun h => by have hv := HV.out; rw [decide_eq_true h.1, Bool.true_and] at hv; have h2 := h.2; unfold mmTry at h2; rw [← HXL.out.2, ← hv] at h2; cases h2⟩
        go_wp2_with (first
          | (go_at_call 53; refine (impl_ToneAbove.calls 1 x.f0 x.f1 k true 0 false false _ (HTA.out.trans rfl)).mono ?_; rintro e w4 ⟨rfl, hb4⟩; have HB4 := Aside0.mk hb4; clear hb4)
          | ((with_reducible refine gate_dst (N := 8) rfl ?_); refine box_event ?hg (N := 8) ?hd (cs := #[.int .i64 0, .bool false]) (t := 29) ?hr ?_; (case hd => rfl); (case hg => rfl); (case hr => first | (go_simp; done) | (go_simp; rfl)); intro gb hg w5 hbox hb5; have HG := Aside0.mk (show w4.heap.size ≤ gb by omega); have HB5 := Aside0.mk hb5; have hcz0 : w5.cell? ⟨gb, 0, none⟩ = some (.int .i64 0) := (blk_cell hbox 0).trans rfl; have hcz1 : w5.cell? ⟨gb, 1, none⟩ = some (.bool false) := (blk_cell hbox 1).trans rfl; have hfz0 := blk_frozen hbox 0; have hfz1 := blk_frozen hbox 1; clear hbox hb5 hg))
        have hbW : Below wr.heap.size wr ((w5.setCell ⟨gb, 0, none⟩ (.int .i64 0)).setCell ⟨gb, 1, none⟩ (.bool false)) := below_step HB4.out (below_set (below_set HB5.out HG.out) HG.out)
        have HBW := Aside0.mk hbW
        go_roundg (2 - 2)
        case measure => have := HK.out; omega
        case rel => exact ⟨2, rfl, ⟨by decide, by decide, by decide, fun _ => N0.out, fun _ => NG.out⟩, ⟨below_step HB2.out HBW.out⟩⟩
      · have hv := HV.out.symm
        rw [Bool.and_eq_true] at hv
        have hkk := of_decide_eq_true hv.1
        have HKK := Aside0.mk hkk
        have HB' := Aside0.mk (hgt_bd (t := mvT x k true) hv.2)
        have HB'' := Aside0.mk (hgt_bd HXL.out.1)
        obtain ⟨Y, hY⟩ : ∃ Y, Y = x.f0 + k := ⟨_, rfl⟩
        have hYT : mvT x k true = ⟨Y, true⟩ := by rw [hY]; rfl
        obtain ⟨⟨M1, M2⟩, hM⟩ : ∃ R, R = movedP k (hgt ⟨Y, true⟩ - hgt x) m := ⟨_, rfl⟩
        have HM := Aside0.mk hM.symm
        have HTRY : Aside0 (mmTry m k true = M2 ∧ mmOf m k true = M1) := ⟨by unfold mmTry mmOf; rw [← HXL.out.2, hv.2, hYT, ← hM]; exact ⟨rfl, rfl⟩⟩
        have HYO := Aside0.mk (show toneOk ⟨Y, true⟩ = true by rw [← hYT]; exact hv.2)
        have EW : Aside0 (IntKind.i64.wrap (hgt ⟨Y, true⟩ - hgt x) = hgt ⟨Y, true⟩ - hgt x) := ⟨by rw [← hYT, i64_w]; exact w64 (x := hgt (mvT x k true) - hgt x) (by have := HB'.out; have := HB''.out; omega) (by have := HB'.out; have := HB''.out; omega)⟩
        rw [← hY] at HTA
        clear hY hYT HB' HB'' hM hv hkk
        go_upto_region 10 with (first
          | (go_at_call 53; refine (impl_ToneAbove.calls 1 x.f0 x.f1 k true Y true true _ (HTA.out.trans rfl)).mono ?_; rintro e w4 ⟨rfl, hb4⟩; have HB4 := Aside0.mk hb4; clear hb4)
          | ((with_reducible refine gate_dst (N := 8) rfl ?_); refine box_event ?hg (N := 8) ?hd (cs := #[.int .i64 0, .bool false]) (t := 29) ?hr ?_; (case hd => rfl); (case hg => rfl); (case hr => first | (go_simp; done) | (go_simp; rfl)); intro gb hg w5 hbox hb5; have HG := Aside0.mk (show w4.heap.size ≤ gb by omega); have HB5 := Aside0.mk hb5; have HBK := Aside0.mk hbox; have hcz0 : w5.cell? ⟨gb, 0, none⟩ = some (.int .i64 0) := (blk_cell hbox 0).trans rfl; have hcz1 : w5.cell? ⟨gb, 1, none⟩ = some (.bool false) := (blk_cell hbox 1).trans rfl; have hfz0 := blk_frozen hbox 0; have hfz1 := blk_frozen hbox 1; clear hbox hb5 hg))
        have hbW : Below wr.heap.size wr ((w5.setCell ⟨gb, 0, none⟩ (.int .i64 Y)).setCell ⟨gb, 1, none⟩ (.bool true)) := below_step HB4.out (below_set (below_set HB5.out HG.out) HG.out)
        have hbk : ((w5.setCell ⟨gb, 0, none⟩ (.int .i64 Y)).setCell ⟨gb, 1, none⟩ (.bool true)).heap[gb]? = some (.cells #[.int .i64 Y, .bool true] 29 (0, 0)) := blk_put (cs := #[.int .i64 Y, .bool false]) (blk_put (cs := #[.int .i64 0, .bool false]) HBK.out 0 _ rfl) 1 _ rfl
        have HBW := Aside0.mk hbW
        have HBKW := Aside0.mk hbk
        have hy0' := pw_cell_below hbW hx0
        have hy1' := pw_cell_below hbW hx1
        clear hbW hbk HB4 HB5 HG HBK hcz0 hcz1 hx0 hx1 hfz0 hfz1
        generalize (w5.setCell ⟨gb, 0, none⟩ (.int .i64 Y)).setCell ⟨gb, 1, none⟩ (.bool true) = wx at HBW HBKW hy0' hy1' ⊢
        have hg0 : wx.drew.cell? ⟨gb, 0, none⟩ = some (.int .i64 Y) := (blk_cell HBKW.out 0).trans rfl
        have hg1 : wx.drew.cell? ⟨gb, 1, none⟩ = some (.bool true) := (blk_cell HBKW.out 1).trans rfl
        have hy0 : wx.drew.cell? ad = some (.int .i64 x.f0) := hy0'
        have hy1 : wx.drew.cell? ⟨ad.block, ad.off + 1, none⟩ = some (.bool x.f1) := hy1'
        have HW0 := Aside0.mk (below_step HB2.out (below_drew1 HBW.out))
        have HTW := Aside0.mk (HT.out.below HW0.out)
        clear hy0' hy1'
        go_region_held3 (fun w' => w'.cell? ⟨gb, 0, none⟩ = some (.int .i64 Y) ∧ w'.cell? ⟨gb, 1, none⟩ = some (.bool true) ∧ w'.cell? ad = some (.int .i64 x.f0) ∧ w'.cell? ⟨ad.block, ad.off + 1, none⟩ = some (.bool x.f1))
          (first
            | exact ⟨hg0, hg1, hy0, hy1⟩
            | go_keep
            | exact ⟨pw_cell_below hb6 hg0, pw_cell_below hb6 hg1, pw_cell_below hb6 hy0, pw_cell_below hb6 hy1⟩
            | exact ⟨pw_cell_below (below_step hb6 hb7) hg0, pw_cell_below (below_step hb6 hb7) hg1, pw_cell_below (below_step hb6 hb7) hy0, pw_cell_below (below_step hb6 hb7) hy1⟩
            | exact ⟨pw_cell_below (below_step (below_step hb6 hb7) hb8) hg0, pw_cell_below (below_step (below_step hb6 hb7) hb8) hg1, pw_cell_below (below_step (below_step hb6 hb7) hb8) hy0, pw_cell_below (below_step (below_step hb6 hb7) hb8) hy1⟩
            | fail)
          (first
            | (go_at_call 73; with_reducible refine (impl_height_calls ⟨Y, true⟩ wx.drew HTW.out HYO.out).mono ?_; rintro e w6 ⟨rfl, hb6⟩)
            | (go_at_call 73; with_reducible refine (impl_height_calls x w6 (HTW.out.below hb6) HXL.out.1).mono ?_; rintro e w7 ⟨rfl, hb7⟩)
            | (go_at_call 72; with_reducible refine (impl_movedMelody_calls m k (IntKind.i64.wrap (hgt ⟨Y, true⟩ - hgt x)) _ _ w7 (HTW.out.below (below_step hb6 hb7)) (Kd.C_below HR0.out (below_step HW0.out (below_step hb6 hb7))) HC0.out HOK.out HKK.out).mono ?_; rintro e w8 ⟨v8, rfl, ho8, hb8⟩; rw [EW.out, HM.out] at ho8; rw [EW.out, HM.out]; obtain ⟨A8, c8, rfl⟩ := Kd.R_slice ho8)
            | fail)
        have HB8 := Aside0.mk (below_step (below_step HW0.out (below_step hb6 hb7)) hb8)
        have HO8 := Aside0.mk (Kd.R_lower ho8 (below_step HW0.out (below_step hb6 hb7)).size)
        clear hg0 hg1 hy0 hy1 hb6 hb7 hb8 ho8 HBKW HBW HTW HW0
        cases M2
        · have NG : Aside0 (¬ mmT m k true) := ⟨fun h => by have h2 := h.2; rw [HTRY.out.1] at h2; cases h2⟩
          go_wp2
          go_roundg (2 - 2)
          case measure => have := HK.out; omega
          case rel => exact ⟨2, rfl, ⟨by decide, by decide, by decide, fun _ => N0.out, fun _ => NG.out⟩, HB8⟩
        · have hR : (R1, R2) = (M1, true) := by rw [← HTRY.out.2]; exact HRR.out.symm.trans (mmove_yes HOK.out HPOS.out ⟨HKK.out, HTRY.out.1⟩ (fun _ => N0.out))
          cases hR
          go_wp2
          go_ret2
          exact ⟨_, rfl, HO8.out, HB8.out⟩

set_option maxHeartbeats 4000000 in
set_option maxRecDepth 100000 in
theorem impl_differencesSemis_calls (g : S29 → S29 → Int) (I : World → Prop) (hI : ∀ w w' : World, I w → Below w.heap.size w w' → I w')
    (hC : ∀ (x y : S29) (w : World), toneOk x = true → toneOk y = true → I w → Calls Tryd.prog 54 #[.agg #[.int .i64 x.f0, .bool x.f1], .agg #[.int .i64 y.f0, .bool y.f1]] w fun e w' => e = .returned (.tuple #[.int .i64 (g x y), .bool true]) ∧ Below w.heap.size w w')
    (m : List S29) (A0 : Option Addr) (c0 : Nat) (w : World) (h0 : I w) (hr0 : Kd.C k29 w A0 m.length m) (hc0 : m.length ≤ c0) (hm : m.length ≤ 1000000000000) :
    Calls Tryd.prog 100 #[.slice A0 m.length c0, .func (.func 54) #[] #[]] w fun e w' => ∃ v, e = .returned v ∧ Kd.R (Kd.int .i64) 3 w' w.heap.size (fun _ => True) v (mdiffs g m) ∧ Below w.heap.size w w' := by
  obtain ⟨kk, hv⟩ := Ev.rounds (impl_MelodyValid_ev m)
  have hu := Tryd.underlying103
  have hu1 := Tryd.underlying29
  have HI := Aside0.mk info3
  have HII := Aside0.mk hI
  have HCC := Aside0.mk hC
  have H0 := Aside0.mk h0
  have HR0 := Aside0.mk hr0
  have HC0 := Aside0.mk hc0
  have HV := Aside0.mk hv
  clear hr0 hc0 hv hI hC h0
  cases hok : melOk m
  · have e : mdiffs g m = [] := by unfold mdiffs; rw [hok]; rfl
    rw [e]
    rw [hok] at HV
    clear hok e
    go_enter Tryd.func100, Tryd.ntmps100
    go_wp2_with (first
      | ((with_reducible refine gate_dst (N := 9) rfl ?_); refine Kd.R_lit (Kd.int .i64) _ 3 ?hg (N := 9) ?hd (xs := ([] : List Int)) (inner := []) (ok := fun _ => True) (okp := fun _ => True) ?hr (Reps.none _ _) (fun _ hk => hk) trivial (Below.refl _ _) (Nat.le_refl _) (by simp) ?_; (case hd => rfl); (case hg => rfl); (case hr => first | (go_simp; done) | (go_simp; rfl)); intro v1 w1 ho1 hb1 _ _; obtain ⟨A1, c1, rfl⟩ := Kd.R_slice ho1; have HO1 := Aside0.mk ho1; have HB1 := Aside0.mk hb1; clear ho1 hb1)
      | (go_at_call 71; refine (impl_MelodyValid.calls kk _ _ m false _ (Kd.C_below HR0.out HB1.out) HC0.out HV.out).mono ?_; rintro e w2 ⟨rfl, hb2⟩))
    go_ret
    exact ⟨_, rfl, Kd.R_below HO1.out hb2, below_step HB1.out hb2⟩
  rw [hok] at HV
  have e : mdiffs g m = diffs g m := by unfold mdiffs; rw [hok]; rfl
  rw [e]
  have hall := melOk_all hok
  have hlen := melOk_len hok
  cases m with
  | nil =>
    clear hok e
    go_enter Tryd.func100, Tryd.ntmps100
    go_wp2_with (first
      | ((with_reducible refine gate_dst (N := 9) rfl ?_); refine Kd.R_lit (Kd.int .i64) _ 3 ?hg (N := 9) ?hd (xs := ([] : List Int)) (inner := []) (ok := fun _ => True) (okp := fun _ => True) ?hr (Reps.none _ _) (fun _ hk => hk) trivial (Below.refl _ _) (Nat.le_refl _) (by simp) ?_; (case hd => rfl); (case hg => rfl); (case hr => first | (go_simp; done) | (go_simp; rfl)); intro v1 w1 ho1 hb1 _ _; obtain ⟨A1, c1, rfl⟩ := Kd.R_slice ho1; have HO1 := Aside0.mk ho1; have HB1 := Aside0.mk hb1; clear ho1 hb1)
      | (go_at_call 71; refine (impl_MelodyValid.calls kk _ _ [] true _ (Kd.C_below HR0.out HB1.out) HC0.out HV.out).mono ?_; rintro e w2 ⟨rfl, hb2⟩))
    go_ret
    exact ⟨_, rfl, Kd.R_below HO1.out hb2, below_step HB1.out hb2⟩
  | cons x0 l0 =>
    obtain ⟨m, hmm⟩ : ∃ m, m = x0 :: l0 := ⟨_, rfl⟩
    have hne : ((m.length : Int) == 0) = false := by rw [beq_eq_false_iff_ne, hmm]; simp; omega
    have hne' : (m.length == 0) = false := by rw [beq_eq_false_iff_ne, hmm]; simp
    obtain ⟨D, hD⟩ : ∃ D, D = diffs g (x0 :: l0) := ⟨_, rfl⟩
    rw [← hD]
    have HD := Aside0.mk hD
    rw [List.all_cons, Bool.and_eq_true] at hall
    have HALL := Aside0.mk (And.intro hall.1 (And.intro hall.2 (show l0.length ≤ 23 by simp only [List.length_cons] at hlen; omega)))
    rw [← hmm] at HR0 HC0 HV hm ⊢
    have HMM := Aside0.mk hmm
    clear hok e hD hall hlen hmm
    go_enter Tryd.func100, Tryd.ntmps100
    go_wp2_with (first
      | ((with_reducible refine gate_dst (N := 9) rfl ?_); refine Kd.R_lit (Kd.int .i64) _ 3 ?hg (N := 9) ?hd (xs := ([] : List Int)) (inner := []) (ok := fun _ => True) (okp := fun _ => True) ?hr (Reps.none _ _) (fun _ hk => hk) trivial (Below.refl _ _) (Nat.le_refl _) (by simp) ?_; (case hd => rfl); (case hg => rfl); (case hr => first | (go_simp; done) | (go_simp; rfl)); intro v1 w1 ho1 hb1 _ _; have HO1 := Aside0.mk ho1; have HB1 := Aside0.mk hb1; clear ho1 hb1)
      | (go_at_call 71; refine (impl_MelodyValid.calls kk _ _ m true _ (Kd.C_below HR0.out HB1.out) HC0.out HV.out).mono ?_; rintro e w2 ⟨rfl, hb2⟩; have HO2 := Aside0.mk (Kd.R_below HO1.out hb2); have HB2 := Aside0.mk (below_step HB1.out hb2); clear hb2)
      | (go_at_call 96; refine (impl_linked_calls m _ _ w2 (Kd.C_below HR0.out HB2.out) HC0.out hm).mono ?_; rintro e w3 ⟨v3, rfl, hl3, hb3⟩; have HL3 := Aside0.mk hl3; have HO3 := Aside0.mk (Kd.R_below HO2.out hb3); have HB3 := Aside0.mk (below_step HB2.out hb3); clear hl3 hb3))
    go_loopg [5, 6] l0.length (fun kq v5 v6 w' => ∃ (X : List Int) (x : S29) (l : List S29), Aside0 (kq = l.length ∧ X ++ diffs g (x :: l) = D ∧ toneOk x = true ∧ l.all toneOk = true ∧ X.length + l.length ≤ 23) ∧ Aside0 (Kd.R (Kd.int .i64) 3 w' w.heap.size (fun _ => True) v5 X) ∧ Aside0 (Lk w' w2.heap.size v6 (x :: l)) ∧ Aside0 (Below w.heap.size w w'))
    case atStart => exact ⟨[], x0, l0, ⟨rfl, HD.out.symm, HALL.out.1, HALL.out.2.1, by simpa using HALL.out.2.2⟩, HO3, ⟨by rw [← HMM.out]; exact HL3.out⟩, HB3⟩
    case round =>
      clear HO3 HL3 HB3
      obtain ⟨X, x, l, HX, HO, HL, HB⟩ := hrel
      obtain ⟨b, nx, e1, hbw, hbx, hnx⟩ := HL.out
      subst e1
      have hx0 : wr.cell? ⟨b, 0, none⟩ = some (.int .i64 x.f0) := (blk_cell hbx 0).trans rfl
      have hx1 : wr.cell? ⟨b, 1, none⟩ = some (.bool x.f1) := (blk_cell hbx 1).trans rfl
      have hx2 : wr.cell? ⟨b, 2, none⟩ = some nx := (blk_cell hbx 2).trans rfl
      have HBX := Aside0.mk hbx
      cases l with
      | nil =>
        obtain rfl : nx = .pointer none := hnx
        obtain ⟨A5, c5, e5⟩ := Kd.R_slice HO.out
        subst e5
        have hXD : X = D := by have := HX.out.2.1; simpa [diffs] using this
        subst hXD
        clear hbx
        go_wp2
        go_ret
        exact ⟨_, rfl, HO.out, HB.out⟩
      | cons y l =>
        have HNX := Aside0.mk hnx
        obtain ⟨b', nx', e2, hbw', hby, hny⟩ := hnx
        subst e2
        have hy0 : wr.cell? ⟨b', 0, none⟩ = some (.int .i64 y.f0) := (blk_cell hby 0).trans rfl
        have hy1 : wr.cell? ⟨b', 1, none⟩ = some (.bool y.f1) := (blk_cell hby 1).trans rfl
        have dx0 : wr.drew.cell? ⟨b, 0, none⟩ = some (.int .i64 x.f0) := hx0
        have dx1 : wr.drew.cell? ⟨b, 1, none⟩ = some (.bool x.f1) := hx1
        have dx2 : wr.drew.cell? ⟨b, 2, none⟩ = some (.pointer (some ⟨b', 0, none⟩)) := hx2
        have dy0 : wr.drew.cell? ⟨b', 0, none⟩ = some (.int .i64 y.f0) := hy0
        have dy1 : wr.drew.cell? ⟨b', 1, none⟩ = some (.bool y.f1) := hy1
        have hall := HX.out.2.2.2.1
        rw [List.all_cons, Bool.and_eq_true] at hall
        have NX : Aside0 (l.length < gk ∧ X ++ [g x y] ++ diffs g (y :: l) = D ∧ toneOk y = true ∧ l.all toneOk = true ∧ (X ++ [g x y]).length + l.length ≤ 23) := ⟨by have := HX.out.1; simp only [List.length_cons] at this; omega, by have := HX.out.2.1; simp only [diffs] at this; rw [List.append_assoc]; exact this, hall.1, hall.2, by have := HX.out.2.2.2.2; simp only [List.length_append, List.length_cons, List.length_nil] at this ⊢; omega⟩
        have HXT := Aside0.mk HX.out.2.2.1
        have bx : X.length ≤ 23 := by have := HX.out.2.2.2.2; omega
        have HDB := Aside0.mk (below_drew1 HB.out)
        have HID := Aside0.mk (HII.out _ _ H0.out HDB.out)
        clear hall hbx hby hny
        go_wp2
        go_region_held3 (fun w' => w'.cell? ⟨b, 0, none⟩ = some (.int .i64 x.f0) ∧ w'.cell? ⟨b, 1, none⟩ = some (.bool x.f1) ∧ w'.cell? ⟨b, 2, none⟩ = some (.pointer (some ⟨b', 0, none⟩)) ∧ w'.cell? ⟨b', 0, none⟩ = some (.int .i64 y.f0) ∧ w'.cell? ⟨b', 1, none⟩ = some (.bool y.f1))
          (first
            | exact ⟨dx0, dx1, dx2, dy0, dy1⟩
            | go_keep
            | exact ⟨pw_cell_below hb4 dx0, pw_cell_below hb4 dx1, pw_cell_below hb4 dx2, pw_cell_below hb4 dy0, pw_cell_below hb4 dy1⟩
            | fail)
          (first
            | (go_at_call 54; refine (HCC.out x y wr.drew HXT.out NX.out.2.2.1 HID.out).mono ?_; rintro e w4 ⟨rfl, hb4⟩)
            | fail)
        have HO4 := Aside0.mk (Kd.R_below (show Kd.R (Kd.int .i64) 3 wr.drew w.heap.size (fun _ => True) _ X from Kd.R_drew HO.out) hb4)
        have HB4 := Aside0.mk (below_step HDB.out hb4)
        have HBX4 := Aside0.mk (blk_below (show wr.drew.heap[b]? = _ from HBX.out) hb4)
        have HNX4 := Aside0.mk (Lk.below hb4 (show Lk wr.drew w2.heap.size _ (y :: l) from HNX.out.below (below_drew1 (Below.refl _ _))))
        clear hx0 hx1 hx2 hy0 hy1 dx0 dx1 dx2 dy0 dy1 hb4
        go_wp2_with ((with_reducible refine gate_builtin (b := .append) (xs := #[.tmp 47, .tmp 49]) rfl ?_); at_builtin; go_loud (refine Kd.R_append (Kd.int .i64) (w0 := w) w.heap.size rfl (.tmp 47) (.tmp 49) 42 3 (.int .i64 0) 8 rfl Tryd.underlying42 HI.out rfl (by decide) (by omega) _ X (g x y) [.int .i64 (g x y)] (fun _ => True) (fun _ => False) rfl rfl ?aP (fun _ hk => hk.elim) (fun _ _ => trivial) HO4.out HB4.out HB4.out.size (by omega) ?_); (case aP => exact rfl); intro v9 wC ho9 hb9 hg9 hat9; have HO9 := Aside0.mk ho9; have HB9 := Aside0.mk hb9; have HNX9 := Aside0.mk (Lk.grown HO4.out hg9 HNX4.out); have cx2 : wC.cell? ⟨b, 2, none⟩ = some (.pointer (some ⟨b', 0, none⟩)) := (blk_cell (blk_grown HBX4.out hg9 (Kd.R_ne HO4.out HBX4.out (by decide))) 2).trans rfl; clear ho9 hb9 hg9 hat9)
        go_roundg l.length
        case measure => exact NX.out.1
        case rel => exact ⟨X ++ [g x y], y, l, ⟨rfl, NX.out.2⟩, HO9, HNX9, HB9⟩

/-! ToneSemis, MelodySemis -/
def semD (x y : S29) : Int := wrap64 (hgt y - hgt x)
set_option maxHeartbeats 4000000 in
set_option maxRecDepth 100000 in
theorem impl_ToneSemis_good (x y : S29) (w : World) (hx : toneOk x = true) (hy : toneOk y = true) (ht : HTab w) : Calls Tryd.prog 54 #[.agg #[.int .i64 x.f0, .bool x.f1], .agg #[.int .i64 y.f0, .bool y.f1]] w fun e w' => e = .returned (.tuple #[.int .i64 (semD x y), .bool true]) ∧ Below w.heap.size w w' := by
  have hu1 := Tryd.underlying29
  have HVX := Aside0.mk (show impl_Tone_valid.f x.f0 x.f1 = some true by rw [impl_Tone_valid_eq]; exact congrArg some hx)
  have HVY := Aside0.mk (show impl_Tone_valid.f y.f0 y.f1 = some true by rw [impl_Tone_valid_eq]; exact congrArg some hy)
  have HXO := Aside0.mk hx
  have HYO := Aside0.mk hy
  have HT := Aside0.mk ht
  clear hx hy ht
  go_enter Tryd.func54, Tryd.ntmps54
  go_upto_region 3 with (first
    | ((with_reducible refine gate_dst (N := 2) rfl ?_); refine box_event ?hg (N := 2) ?hd (cs := #[.int .i64 x.f0, .bool x.f1]) (t := 29) ?hr ?_; (case hd => rfl); (case hg => rfl); (case hr => first | (go_simp; done) | (go_simp; rfl)); intro gx hg w3 hbox hb3; have HBX := Aside0.mk hbox; have HB3 := Aside0.mk hb3; have hx0 : w3.cell? ⟨gx, 0, none⟩ = some (.int .i64 x.f0) := (blk_cell hbox 0).trans rfl; have hx1 : w3.cell? ⟨gx, 1, none⟩ = some (.bool x.f1) := (blk_cell hbox 1).trans rfl; clear hg hbox hb3)
    | ((with_reducible refine gate_dst (N := 3) rfl ?_); refine box_event ?hg (N := 3) ?hd (cs := #[.int .i64 y.f0, .bool y.f1]) (t := 29) ?hr ?_; (case hd => rfl); (case hg => rfl); (case hr => first | (go_simp; done) | (go_simp; rfl)); intro gy hg w4 hbox hb4; have HBX4 := Aside0.mk (blk_below HBX.out hb4); have HBY4 := Aside0.mk hbox; have HB4 := Aside0.mk (below_step HB3.out hb4); have hxa0 := pw_cell_below hb4 hx0; have hxa1 := pw_cell_below hb4 hx1; clear hg hbox hb4)
    | (go_at_call 90; with_reducible refine (impl_Tone_valid.calls x.f0 x.f1 true w4 HVX.out).mono ?_; rintro e w5 ⟨rfl, hb5⟩; have HBX5 := Aside0.mk (blk_below HBX4.out hb5); have HBY5 := Aside0.mk (blk_below HBY4.out hb5); have HB5 := Aside0.mk (below_step HB4.out hb5); have hya0 : w5.cell? ⟨gy, 0, none⟩ = some (.int .i64 y.f0) := (blk_cell HBY5.out 0).trans rfl; have hya1 : w5.cell? ⟨gy, 1, none⟩ = some (.bool y.f1) := (blk_cell HBY5.out 1).trans rfl; clear hb5)
    | (go_at_call 90; with_reducible refine (impl_Tone_valid.calls y.f0 y.f1 true w5 HVY.out).mono ?_; rintro e w6 ⟨rfl, hb6⟩; have HBX6 := Aside0.mk (blk_below HBX5.out hb6); have HBY6 := Aside0.mk (blk_below HBY5.out hb6); have HB6 := Aside0.mk (below_step HB5.out hb6); clear hb6))
  clear hx0 hx1 hxa0 hxa1 hya0 hya1
  have dx0 : w6.drew.cell? ⟨gx, 0, none⟩ = some (.int .i64 x.f0) := (blk_cell HBX6.out 0).trans rfl
  have dx1 : w6.drew.cell? ⟨gx, 1, none⟩ = some (.bool x.f1) := (blk_cell HBX6.out 1).trans rfl
  have dy0 : w6.drew.cell? ⟨gy, 0, none⟩ = some (.int .i64 y.f0) := (blk_cell HBY6.out 0).trans rfl
  have dy1 : w6.drew.cell? ⟨gy, 1, none⟩ = some (.bool y.f1) := (blk_cell HBY6.out 1).trans rfl
  have HDB := Aside0.mk (below_drew1 HB6.out)
  go_region_held3 (fun w' => w'.cell? ⟨gx, 0, none⟩ = some (.int .i64 x.f0) ∧ w'.cell? ⟨gx, 1, none⟩ = some (.bool x.f1) ∧ w'.cell? ⟨gy, 0, none⟩ = some (.int .i64 y.f0) ∧ w'.cell? ⟨gy, 1, none⟩ = some (.bool y.f1))
    (first
      | exact ⟨dx0, dx1, dy0, dy1⟩
      | go_keep
      | exact ⟨pw_cell_below hb7 dx0, pw_cell_below hb7 dx1, pw_cell_below hb7 dy0, pw_cell_below hb7 dy1⟩
      | exact ⟨pw_cell_below (below_step hb7 hb8) dx0, pw_cell_below (below_step hb7 hb8) dx1, pw_cell_below (below_step hb7 hb8) dy0, pw_cell_below (below_step hb7 hb8) dy1⟩
      | fail)
    (first
      | (go_at_call 73; with_reducible refine (impl_height_calls y w6.drew (HT.out.below HDB.out) HYO.out).mono ?_; rintro e w7 ⟨rfl, hb7⟩)
      | (go_at_call 73; with_reducible refine (impl_height_calls x w7 (HT.out.below (below_step HDB.out hb7)) HXO.out).mono ?_; rintro e w8 ⟨rfl, hb8⟩)
      | fail)
  have HB8 := Aside0.mk (below_step HDB.out (below_step hb7 hb8))
  clear dx0 dx1 dy0 dy1 hb7 hb8
  go_wp2
  go_ret2
  exact ⟨by rw [show semD x y = IntKind.i64.wrap (hgt y - hgt x) from (i64_w _).symm]; rfl, HB8.out⟩
set_option maxHeartbeats 4000000 in
set_option maxRecDepth 100000 in
theorem impl_MelodySemis_calls (m : List S29) (A0 : Option Addr) (c0 : Nat) (w : World) (ht : HTab w) (hr0 : Kd.C k29 w A0 m.length m) (hc0 : m.length ≤ c0) (hm : m.length ≤ 1000000000000) :
    Calls Tryd.prog 80 #[.slice A0 m.length c0] w fun e w' => ∃ v, e = .returned v ∧ Kd.R (Kd.int .i64) 3 w' w.heap.size (fun _ => True) v (mdiffs semD m) ∧ Below w.heap.size w w' := by
  have HR0 := Aside0.mk hr0
  have HC0 := Aside0.mk hc0
  have HT := Aside0.mk ht
  clear hr0 hc0 ht
  go_enter Tryd.func80, Tryd.ntmps80
  go_wp2_with (go_at_call 100; refine (impl_differencesSemis_calls semD HTab (fun _ _ h hb => h.below hb) (fun x y w hx hy h => impl_ToneSemis_good x y w hx hy h) m A0 c0 _ HT.out HR0.out HC0.out hm).mono ?_; rintro e w1 ⟨v, rfl, ho, hb⟩; obtain ⟨A1, c1, rfl⟩ := Kd.R_slice ho)
  go_ret
  exact ⟨_, rfl, ho, hb⟩

end Go.Proofs.YtclpnaaagajhiaaDoor.Pure
