/- Lemmas on the printed functions for the law FnMelodyMove. -/
import Derived.Test.YtclpnaaagajhiaaDoorQFnMelodyMoveq0
import Derived.Test.YtclpnaaagajhiaaDoorQFnMelodyMoveq1
import Derived.Test.YtclpnaaagajhiaaDoorQFnMelodyMoveq2
import Derived.Deep.RegionHeld3
import Derived.BigRegion
import Derived.Deep.Slices
import Derived.Laws.CopyOwn
namespace Go.Proofs.YtclpnaaagajhiaaDoor.Pure
set_option linter.unusedVariables false
set_option linter.unusedSimpArgs false
open Go Go.RowKit Go.Proofs.YtclpnaaagajhiaaDoor.PFnMelodyMove Go.Proofs.YtclpnaaagajhiaaDoorW.PrintWords Go.Proofs.YtclpnaaagajhiaaDoorW.PrintLast Go.Proofs.YtclpnaaagajhiaaDoorW.PrintMore

/-! MelodyMove -/
theorem impl_ToneAbove_out (t : S29) (a : Int) (s : Bool) (ht : toneOk t = true) (ha : ¬ (-20 ≤ a ∧ a ≤ 20)) : impl_ToneAbove.f 1 t.f0 t.f1 a s = some (0, false, false) := by
  unfold impl_ToneAbove.f
  rw [impl_Tone_valid_eq]
  have e : (⟨t.f0, t.f1⟩ : S29) = t := rfl
  rw [e, ht, Option.bind_some, if_pos rfl]
  by_cases h : a < -20
  · rw [if_pos h]; rfl
  · rw [if_neg h, decide_eq_true (show a > 20 by omega)]; rfl
def mmT (m : List S29) (k : Int) (b : Bool) : Prop := (-20 ≤ k ∧ k ≤ 20) ∧ mmTry m k b = true
theorem mmove_yes {m : List S29} {k : Int} {b : Bool} (hok : melOk m = true) (hm : 0 < m.length) (h : mmT m k b) (h' : b = true → ¬ mmT m k false) : mmove m k = (mmOf m k b, true) := by
  unfold mmove
  rw [if_pos hok, if_neg (by omega), if_pos h.1]
  cases b
  · rw [if_pos h.2]
  · rw [if_neg (fun g => h' rfl ⟨h.1, g⟩), if_pos h.2]
theorem mmove_no {m : List S29} {k : Int} (hok : melOk m = true) (hm : 0 < m.length) (h : ¬ mmT m k true) (h' : ¬ mmT m k false) : mmove m k = ([], false) := by
  unfold mmove
  rw [if_pos hok, if_neg (by omega)]
  by_cases hk : -20 ≤ k ∧ k ≤ 20
  · rw [if_pos hk, if_neg (fun g => h' ⟨hk, g⟩), if_neg (fun g => h ⟨hk, g⟩)]
  · rw [if_neg hk]
set_option maxHeartbeats 8000000 in
set_option maxRecDepth 100000 in
theorem impl_MelodyMove_calls (m : List S29) (k : Int) (A0 : Option Addr) (c0 : Nat) (w : World) (ht : HTab w) (hr0 : Kd.C k29 w A0 m.length m) (hc0 : m.length ≤ c0) (hm : m.length ≤ 1000000000000) :
    Calls Tryd.prog 21 #[.slice A0 m.length c0, .int .i64 k] w fun e w' => ∃ v, e = .returned (.tuple #[v, .bool (mmove m k).2]) ∧ Kd.R k29 29 w' w.heap.size (fun _ => True) v (mmove m k).1 ∧ Below w.heap.size w w' := by
  obtain ⟨kk, hv⟩ := Ev.rounds (impl_MelodyValid_ev m)
  have hu1 := Tryd.underlying29
  have ix0 : ∀ w, (Instr.index 86 (.agg #[.bool false, .bool true]) (.int .i64 0)).run Tryd.prog w = .ok (.bool false) w := fun _ => by kernel_rfl
  have ix1 : ∀ w, (Instr.index 86 (.agg #[.bool false, .bool true]) (.int .i64 1)).run Tryd.prog w = .ok (.bool true) w := fun _ => by kernel_rfl
  have HT := Aside0.mk ht
  have HR0 := Aside0.mk hr0
  have HC0 := Aside0.mk hc0
  have HVV := Aside0.mk hv
  clear hr0 hc0 ht hv
  cases hok : melOk m
  · have e : mmove m k = ([], false) := by unfold mmove; rw [hok]; rfl
    rw [e]
    rw [hok] at HVV
    clear hok e
    go_enter Tryd.func21, Tryd.ntmps21
    go_wp2_with (go_at_call 71; refine (impl_MelodyValid.calls kk _ _ m false _ HR0.out HC0.out HVV.out).mono ?_; rintro e w1 ⟨rfl, hb1⟩)
    go_ret2
    exact ⟨_, rfl, Kd.R_nil _ _ _ _ _, hb1⟩
  rw [hok] at HVV
  have HOK := Aside0.mk hok
  by_cases h0 : m.length = 0
  · have e : mmove m k = ([], true) := by unfold mmove; rw [if_pos hok, if_pos h0]
    rw [e]
    have hne : ((m.length : Int) == 0) = true := by rw [beq_iff_eq]; omega
    have hne' : (m.length == 0) = true := by rw [beq_iff_eq]; omega
    clear hok e h0
    go_enter Tryd.func21, Tryd.ntmps21
    go_wp2_with (first
      | (go_at_call 71; refine (impl_MelodyValid.calls kk _ _ m true _ HR0.out HC0.out HVV.out).mono ?_; rintro e w1 ⟨rfl, hb1⟩)
      | ((with_reducible refine gate_dst (N := 18) rfl ?_); refine Kd.R_lit k29 _ 29 ?hg (N := 18) ?hd (xs := ([] : List S29)) (inner := []) (ok := fun _ => True) (okp := fun _ => True) ?hr (Reps.none _ _) (fun _ hk => hk) trivial (Below.refl _ _) (Nat.le_refl _) (by simp) ?_; (case hd => rfl); (case hg => rfl); (case hr => first | (go_simp; done) | (go_simp; rfl)); intro v1 w2 ho1 hb2 _ _; obtain ⟨A1, c1, rfl⟩ := Kd.R_slice ho1))
    go_ret2
    exact ⟨_, rfl, Kd.R_lower ho1 hb1.size, below_step hb1 hb2⟩
  have hlen := melOk_len hok
  have hpos : 0 < m.length := by omega
  have hne : ((m.length : Int) == 0) = false := by rw [beq_eq_false_iff_ne]; omega
  have hne' : (m.length == 0) = false := by rw [beq_eq_false_iff_ne]; omega
  obtain ⟨⟨R1, R2⟩, hR⟩ : ∃ R, R = mmove m k := ⟨_, rfl⟩
  rw [← hR]
  have HRR := Aside0.mk hR.symm
  obtain ⟨ad, e1, ux0, ux1⟩ := at_T29 HR0.out 0 (by omega) (by omega)
  subst e1
  obtain ⟨x, hx⟩ : ∃ x, x = rd_T29 m 0 := ⟨_, rfl⟩
  have hxo : toneOk x = true := by
    rw [hx]
    refine List.all_eq_true.1 (melOk_all hok) _ ?_
    unfold rd_T29
    rw [List.getD_eq_getElem?_getD, List.getElem?_eq_getElem (by simp; omega)]; exact List.getElem_mem _
  rw [← hx] at ux0 ux1
  have HXL := Aside0.mk (And.intro hxo hx)
  have UX0 : Aside0 (w.cell? ad = some (.int .i64 x.f0)) := ⟨ux0⟩
  have UX1 : Aside0 (w.cell? ⟨ad.block, ad.off + 1, none⟩ = some (.bool x.f1)) := ⟨ux1⟩
  have i1 := eq_true (show 0 < (m.length : Int) by omega)
  have i2 := eq_true hpos
  have HPOS := Aside0.mk hpos
  clear hok h0 hR ux0 ux1 hx hxo hpos
  go_enter Tryd.func21, Tryd.ntmps21
  go_wp2_with (go_at_call 71; refine (impl_MelodyValid.calls kk _ _ m true _ HR0.out HC0.out HVV.out).mono ?_; rintro e w1 ⟨rfl, hb1⟩; have HB1 := Aside0.mk hb1; clear hb1)
  go_loopg [20] 2 (fun kq v20 w' => ∃ (j : Int), v20 = .int .i64 j ∧ Aside0 (kq = (2 - j).toNat ∧ 0 ≤ j ∧ j ≤ 2 ∧ (1 ≤ j → ¬ mmT m k false) ∧ (2 ≤ j → ¬ mmT m k true)) ∧ Aside0 (Below w.heap.size w w'))
  case atStart => exact ⟨0, rfl, ⟨rfl, by decide, by decide, by omega, by omega⟩, HB1⟩
  case round =>
    obtain ⟨j, rfl, HJ, HB2⟩ := hrel
    clear HB1
    obtain ⟨hk, j0, j2, n0, n1⟩ := HJ.out
    by_cases h2 : j = 2
    · subst h2
      have hR : (R1, R2) = ([], false) := HRR.out.symm.trans (mmove_no HOK.out HPOS.out (n1 (by omega)) (n0 (by omega)))
      cases hR
      clear n0 n1 hk j0 j2
      go_wp2
      go_ret2
      exact ⟨_, rfl, Kd.R_nil _ _ _ _ _, HB2.out⟩
    have hj : j = 0 ∨ j = 1 := by omega
    rcases hj with rfl | rfl
    · have N0 : Aside0 True := ⟨trivial⟩
      have HK := Aside0.mk hk
      clear n0 n1 hk j0 j2 h2 HJ
      obtain ⟨ok, hv⟩ : ∃ ok, ok = (decide (-20 ≤ k ∧ k ≤ 20) && toneOk (mvT x k false)) := ⟨_, rfl⟩
      have HV := Aside0.mk hv
      have hta : impl_ToneAbove.f 1 x.f0 x.f1 k false = some (if ok = true then (x.f0 + k, false, true) else (0, false, false)) := by
        by_cases hk : -20 ≤ k ∧ k ≤ 20
        · rw [impl_ToneAbove_eq x k false HXL.out.1 hk, hv, decide_eq_true hk]; rfl
        · rw [impl_ToneAbove_out x k false HXL.out.1 hk, hv, decide_eq_false hk]; rfl
      have HTA := Aside0.mk hta
      clear hta hv
      have hx0 : wr.cell? ad = some (.int .i64 x.f0) := (HB2.out.cell (World.block_lt_of_cell? w _ UX0.out)).trans UX0.out
      have hx1 : wr.cell? ⟨ad.block, ad.off + 1, none⟩ = some (.bool x.f1) := (HB2.out.cell (World.block_lt_of_cell? w _ UX1.out)).trans UX1.out
      cases ok
      · have NG : Aside0 (¬ mmT m k false) := ⟨fun h => by have hv := HV.out; rw [decide_eq_true h.1, Bool.true_and] at hv; have h2 := h.2; unfold mmTry at h2; rw [← HXL.out.2, ← hv] at h2; cases h2⟩
        go_wp2_with (first
          | (go_at_call 53; refine (impl_ToneAbove.calls 1 x.f0 x.f1 k false 0 false false _ (HTA.out.trans rfl)).mono ?_; rintro e w4 ⟨rfl, hb4⟩; have HB4 := Aside0.mk hb4; clear hb4)
          | ((with_reducible refine gate_dst (N := 8) rfl ?_); refine box_event ?hg (N := 8) ?hd (cs := #[.int .i64 0, .bool false]) (t := 29) ?hr ?_; (case hd => rfl); (case hg => rfl); (case hr => first | (go_simp; done) | (go_simp; rfl)); intro gb hg w5 hbox hb5; have HG := Aside0.mk (show w4.heap.size ≤ gb by omega); have HB5 := Aside0.mk hb5; have hcz0 : w5.cell? ⟨gb, 0, none⟩ = some (.int .i64 0) := (blk_cell hbox 0).trans rfl; have hcz1 : w5.cell? ⟨gb, 1, none⟩ = some (.bool false) := (blk_cell hbox 1).trans rfl; have hfz0 := blk_frozen hbox 0; have hfz1 := blk_frozen hbox 1; clear hbox hb5 hg))
        have hbW : Below wr.heap.size wr ((w5.setCell ⟨gb, 0, none⟩ (.int .i64 0)).setCell ⟨gb, 1, none⟩ (.bool false)) := below_step HB4.out (below_set (below_set HB5.out HG.out) HG.out)
        have HBW := Aside0.mk hbW
        go_roundg (2 - 1)
        case measure => have := HK.out; omega
        case rel => exact ⟨1, rfl, ⟨by decide, by decide, by decide, fun _ => NG.out, by omega⟩, ⟨below_step HB2.out HBW.out⟩⟩
      · have hv := HV.out.symm
        rw [Bool.and_eq_true] at hv
        have hkk := of_decide_eq_true hv.1
        have HKK := Aside0.mk hkk
        have HB' := Aside0.mk (hgt_bd (t := mvT x k false) hv.2)
        have HB'' := Aside0.mk (hgt_bd HXL.out.1)
        obtain ⟨Y, hY⟩ : ∃ Y, Y = x.f0 + k := ⟨_, rfl⟩
        have hYT : mvT x k false = ⟨Y, false⟩ := by rw [hY]; rfl
        obtain ⟨⟨M1, M2⟩, hM⟩ : ∃ R, R = movedP k (hgt ⟨Y, false⟩ - hgt x) m := ⟨_, rfl⟩
        have HM := Aside0.mk hM.symm
        have HTRY : Aside0 (mmTry m k false = M2 ∧ mmOf m k false = M1) := ⟨by unfold mmTry mmOf; rw [← HXL.out.2, hv.2, hYT, ← hM]; exact ⟨rfl, rfl⟩⟩
        have HYO := Aside0.mk (show toneOk ⟨Y, false⟩ = true by rw [← hYT]; exact hv.2)
        have EW : Aside0 (IntKind.i64.wrap (hgt ⟨Y, false⟩ - hgt x) = hgt ⟨Y, false⟩ - hgt x) := ⟨by rw [← hYT, i64_w]; exact w64 (x := hgt (mvT x k false) - hgt x) (by have := HB'.out; have := HB''.out; omega) (by have := HB'.out; have := HB''.out; omega)⟩
        rw [← hY] at HTA
        clear hY hYT HB' HB'' hM hv hkk
        go_upto_region 10 with (first
          | (go_at_call 53; refine (impl_ToneAbove.calls 1 x.f0 x.f1 k false Y false true _ (HTA.out.trans rfl)).mono ?_; rintro e w4 ⟨rfl, hb4⟩; have HB4 := Aside0.mk hb4; clear hb4)
          | ((with_reducible refine gate_dst (N := 8) rfl ?_); refine box_event ?hg (N := 8) ?hd (cs := #[.int .i64 0, .bool false]) (t := 29) ?hr ?_; (case hd => rfl); (case hg => rfl); (case hr => first | (go_simp; done) | (go_simp; rfl)); intro gb hg w5 hbox hb5; have HG := Aside0.mk (show w4.heap.size ≤ gb by omega); have HB5 := Aside0.mk hb5; have HBK := Aside0.mk hbox; have hcz0 : w5.cell? ⟨gb, 0, none⟩ = some (.int .i64 0) := (blk_cell hbox 0).trans rfl; have hcz1 : w5.cell? ⟨gb, 1, none⟩ = some (.bool false) := (blk_cell hbox 1).trans rfl; have hfz0 := blk_frozen hbox 0; have hfz1 := blk_frozen hbox 1; clear hbox hb5 hg))
        have hbW : Below wr.heap.size wr ((w5.setCell ⟨gb, 0, none⟩ (.int .i64 Y)).setCell ⟨gb, 1, none⟩ (.bool false)) := below_step HB4.out (below_set (below_set HB5.out HG.out) HG.out)
        have hbk : ((w5.setCell ⟨gb, 0, none⟩ (.int .i64 Y)).setCell ⟨gb, 1, none⟩ (.bool false)).heap[gb]? = some (.cells #[.int .i64 Y, .bool false] 29 (0, 0)) := blk_put (cs := #[.int .i64 Y, .bool false]) (blk_put (cs := #[.int .i64 0, .bool false]) HBK.out 0 _ rfl) 1 _ rfl
        have HBW := Aside0.mk hbW
        have HBKW := Aside0.mk hbk
        have hy0' := pw_cell_below hbW hx0
        have hy1' := pw_cell_below hbW hx1
        clear hbW hbk HB4 HB5 HG HBK hcz0 hcz1 hx0 hx1 hfz0 hfz1
        generalize (w5.setCell ⟨gb, 0, none⟩ (.int .i64 Y)).setCell ⟨gb, 1, none⟩ (.bool false) = wx at HBW HBKW hy0' hy1' ⊢
        have hg0 : wx.drew.cell? ⟨gb, 0, none⟩ = some (.int .i64 Y) := (blk_cell HBKW.out 0).trans rfl
        have hg1 : wx.drew.cell? ⟨gb, 1, none⟩ = some (.bool false) := (blk_cell HBKW.out 1).trans rfl
        have hy0 : wx.drew.cell? ad = some (.int .i64 x.f0) := hy0'
        have hy1 : wx.drew.cell? ⟨ad.block, ad.off + 1, none⟩ = some (.bool x.f1) := hy1'
        have HW0 := Aside0.mk (below_step HB2.out (below_drew1 HBW.out))
        have HTW := Aside0.mk (HT.out.below HW0.out)
        clear hy0' hy1'
        go_region_held3 (fun w' => w'.cell? ⟨gb, 0, none⟩ = some (.int .i64 Y) ∧ w'.cell? ⟨gb, 1, none⟩ = some (.bool false) ∧ w'.cell? ad = some (.int .i64 x.f0) ∧ w'.cell? ⟨ad.block, ad.off + 1, none⟩ = some (.bool x.f1))
          (first
            | exact ⟨hg0, hg1, hy0, hy1⟩
            | go_keep
            | exact ⟨pw_cell_below hb6 hg0, pw_cell_below hb6 hg1, pw_cell_below hb6 hy0, pw_cell_below hb6 hy1⟩
            | exact ⟨pw_cell_below (below_step hb6 hb7) hg0, pw_cell_below (below_step hb6 hb7) hg1, pw_cell_below (below_step hb6 hb7) hy0, pw_cell_below (below_step hb6 hb7) hy1⟩
            | exact ⟨pw_cell_below (below_step (below_step hb6 hb7) hb8) hg0, pw_cell_below (below_step (below_step hb6 hb7) hb8) hg1, pw_cell_below (below_step (below_step hb6 hb7) hb8) hy0, pw_cell_below (below_step (below_step hb6 hb7) hb8) hy1⟩
            | fail)
          (first
            | (go_at_call 73; with_reducible refine (impl_height_calls ⟨Y, false⟩ wx.drew HTW.out HYO.out).mono ?_; rintro e w6 ⟨rfl, hb6⟩)
            | (go_at_call 73; with_reducible refine (impl_height_calls x w6 (HTW.out.below hb6) HXL.out.1).mono ?_; rintro e w7 ⟨rfl, hb7⟩)
            | (go_at_call 72; with_reducible refine (impl_movedMelody_calls m k (IntKind.i64.wrap (hgt ⟨Y, false⟩ - hgt x)) _ _ w7 (HTW.out.below (below_step hb6 hb7)) (Kd.C_below HR0.out (below_step HW0.out (below_step hb6 hb7))) HC0.out HOK.out HKK.out).mono ?_; rintro e w8 ⟨v8, rfl, ho8, hb8⟩; rw [EW.out, HM.out] at ho8; rw [EW.out, HM.out]; obtain ⟨A8, c8, rfl⟩ := Kd.R_slice ho8)
            | fail)
        have HB8 := Aside0.mk (below_step (below_step HW0.out (below_step hb6 hb7)) hb8)
        have HO8 := Aside0.mk (Kd.R_lower ho8 (below_step HW0.out (below_step hb6 hb7)).size)
        clear hg0 hg1 hy0 hy1 hb6 hb7 hb8 ho8 HBKW HBW HTW HW0
        cases M2
        · have NG : Aside0 (¬ mmT m k false) := ⟨fun h => by have h2 := h.2; rw [HTRY.out.1] at h2; cases h2⟩
          go_wp2
          go_roundg (2 - 1)
          case measure => have := HK.out; omega
          case rel => exact ⟨1, rfl, ⟨by decide, by decide, by decide, fun _ => NG.out, by omega⟩, HB8⟩
        · have hR : (R1, R2) = (M1, true) := by rw [← HTRY.out.2]; exact HRR.out.symm.trans (mmove_yes HOK.out HPOS.out ⟨HKK.out, HTRY.out.1⟩ (fun h => by cases h))
          cases hR
          go_wp2
          go_ret2
          exact ⟨_, rfl, HO8.out, HB8.out⟩
    · have N0 := Aside0.mk (n0 (by omega))
      have HK := Aside0.mk hk
      clear n0 n1 hk j0 j2 h2 HJ
      obtain ⟨ok, hv⟩ : ∃ ok, ok = (decide (-20 ≤ k ∧ k ≤ 20) && toneOk (mvT x k true)) := ⟨_, rfl⟩
      have HV := Aside0.mk hv
      have hta : impl_ToneAbove.f 1 x.f0 x.f1 k true = some (if ok = true then (x.f0 + k, true, true) else (0, false, false)) := by
        by_cases hk : -20 ≤ k ∧ k ≤ 20
        · rw [impl_ToneAbove_eq x k true HXL.out.1 hk, hv, decide_eq_true hk]; rfl
        · rw [impl_ToneAbove_out x k true HXL.out.1 hk, hv, decide_eq_false hk]; rfl
      have HTA := Aside0.mk hta
      clear hta hv
      have hx0 : wr.cell? ad = some (.int .i64 x.f0) := (HB2.out.cell (World.block_lt_of_cell? w _ UX0.out)).trans UX0.out
      have hx1 : wr.cell? ⟨ad.block, ad.off + 1, none⟩ = some (.bool x.f1) := (HB2.out.cell (World.block_lt_of_cell? w _ UX1.out)).trans UX1.out
      cases ok
      · have NG : Aside0 (¬ mmT m k true) := ⟨fun h => by have hv := HV.out; rw [decide_eq_true h.1, Bool.true_and] at hv; have h2 := h.2; unfold mmTry at h2; rw [← HXL.out.2, ← hv] at h2; cases h2⟩
        go_wp2_with (first
          | (go_at_call 53; refine (impl_ToneAbove.calls 1 x.f0 x.f1 k true 0 false false _ (HTA.out.trans rfl)).mono ?_; rintro e w4 ⟨rfl, hb4⟩; have HB4 := Aside0.mk hb4; clear hb4)
          | ((with_reducible refine gate_dst (N := 8) rfl ?_); refine box_event ?hg (N := 8) ?hd (cs := #[.int .i64 0, .bool false]) (t := 29) ?hr ?_; (case hd => rfl); (case hg => rfl); (case hr => first | (go_simp; done) | (go_simp; rfl)); intro gb hg w5 hbox hb5; have HG := Aside0.mk (show w4.heap.size ≤ gb by omega); have HB5 := Aside0.mk hb5; have hcz0 : w5.cell? ⟨gb, 0, none⟩ = some (.int .i64 0) := (blk_cell hbox 0).trans rfl; have hcz1 : w5.cell? ⟨gb, 1, none⟩ = some (.bool false) := (blk_cell hbox 1).trans rfl; have hfz0 := blk_frozen hbox 0; have hfz1 := blk_frozen hbox 1; clear hbox hb5 hg))
        have hbW : Below wr.heap.size wr ((w5.setCell ⟨gb, 0, none⟩ (.int .i64 0)).setCell ⟨gb, 1, none⟩ (.bool false)) := below_step HB4.out (below_set (below_set HB5.out HG.out) HG.out)
        have HBW := Aside0.mk hbW
        go_roundg (2 - 2)
        case measure => have := HK.out; omega
        case rel => exact ⟨2, rfl, ⟨by decide, by decide, by decide, fun _ => N0.out, fun _ => NG.out⟩, ⟨below_step HB2.out HBW.out⟩⟩
      · have hv := HV.out.symm
        rw [Bool.and_eq_true] at hv
        have hkk := of_decide_eq_true hv.1
        have HKK := Aside0.mk hkk
        have HB' := Aside0.mk (hgt_bd (t := mvT x k true) hv.2)
        have HB'' := Aside0.mk (hgt_bd HXL.out.1)
        obtain ⟨Y, hY⟩ : ∃ Y, Y = x.f0 + k := ⟨_, rfl⟩
        have hYT : mvT x k true = ⟨Y, true⟩ := by rw [hY]; rfl
        obtain ⟨⟨M1, M2⟩, hM⟩ : ∃ R, R = movedP k (hgt ⟨Y, true⟩ - hgt x) m := ⟨_, rfl⟩
        have HM := Aside0.mk hM.symm
        have HTRY : Aside0 (mmTry m k true = M2 ∧ mmOf m k true = M1) := ⟨by unfold mmTry mmOf; rw [← HXL.out.2, hv.2, hYT, ← hM]; exact ⟨rfl, rfl⟩⟩
        have HYO := Aside0.mk (show toneOk ⟨Y, true⟩ = true by rw [← hYT]; exact hv.2)
        have EW : Aside0 (IntKind.i64.wrap (hgt ⟨Y, true⟩ - hgt x) = hgt ⟨Y, true⟩ - hgt x) := ⟨by rw [← hYT, i64_w]; exact w64 (x := hgt (mvT x k true) - hgt x) (by have := HB'.out; have := HB''.out; omega) (by have := HB'.out; have := HB''.out; omega)⟩
        rw [← hY] at HTA
        clear hY hYT HB' HB'' hM hv hkk
        go_upto_region 10 with (first
          | (go_at_call 53; refine (impl_ToneAbove.calls 1 x.f0 x.f1 k true Y true true _ (HTA.out.trans rfl)).mono ?_; rintro e w4 ⟨rfl, hb4⟩; have HB4 := Aside0.mk hb4; clear hb4)
          | ((with_reducible refine gate_dst (N := 8) rfl ?_); refine box_event ?hg (N := 8) ?hd (cs := #[.int .i64 0, .bool false]) (t := 29) ?hr ?_; (case hd => rfl); (case hg => rfl); (case hr => first | (go_simp; done) | (go_simp; rfl)); intro gb hg w5 hbox hb5; have HG := Aside0.mk (show w4.heap.size ≤ gb by omega); have HB5 := Aside0.mk hb5; have HBK := Aside0.mk hbox; have hcz0 : w5.cell? ⟨gb, 0, none⟩ = some (.int .i64 0) := (blk_cell hbox 0).trans rfl; have hcz1 : w5.cell? ⟨gb, 1, none⟩ = some (.bool false) := (blk_cell hbox 1).trans rfl; have hfz0 := blk_frozen hbox 0; have hfz1 := blk_frozen hbox 1; clear hbox hb5 hg))
        have hbW : Below wr.heap.size wr ((w5.setCell ⟨gb, 0, none⟩ (.int .i64 Y)).setCell ⟨gb, 1, none⟩ (.bool true)) := below_step HB4.out (below_set (below_set HB5.out HG.out) HG.out)
        have hbk : ((w5.setCell ⟨gb, 0, none⟩ (.int .i64 Y)).setCell ⟨gb, 1, none⟩ (.bool true)).heap[gb]? = some (.cells #[.int .i64 Y, .bool true] 29 (0, 0)) := blk_put (cs := #[.int .i64 Y, .bool false]) (blk_put (cs := #[.int .i64 0, .bool false]) HBK.out 0 _ rfl) 1 _ rfl
        have HBW := Aside0.mk hbW
        have HBKW := Aside0.mk hbk
        have hy0' := pw_cell_below hbW hx0
        have hy1' := pw_cell_below hbW hx1
        clear hbW hbk HB4 HB5 HG HBK hcz0 hcz1 hx0 hx1 hfz0 hfz1
        generalize (w5.setCell ⟨gb, 0, none⟩ (.int .i64 Y)).setCell ⟨gb, 1, none⟩ (.bool true) = wx at HBW HBKW hy0' hy1' ⊢
        have hg0 : wx.drew.cell? ⟨gb, 0, none⟩ = some (.int .i64 Y) := (blk_cell HBKW.out 0).trans rfl
        have hg1 : wx.drew.cell? ⟨gb, 1, none⟩ = some (.bool true) := (blk_cell HBKW.out 1).trans rfl
        have hy0 : wx.drew.cell? ad = some (.int .i64 x.f0) := hy0'
        have hy1 : wx.drew.cell? ⟨ad.block, ad.off + 1, none⟩ = some (.bool x.f1) := hy1'
        have HW0 := Aside0.mk (below_step HB2.out (below_drew1 HBW.out))
        have HTW := Aside0.mk (HT.out.below HW0.out)
        clear hy0' hy1'
        go_region_held3 (fun w' => w'.cell? ⟨gb, 0, none⟩ = some (.int .i64 Y) ∧ w'.cell? ⟨gb, 1, none⟩ = some (.bool true) ∧ w'.cell? ad = some (.int .i64 x.f0) ∧ w'.cell? ⟨ad.block, ad.off + 1, none⟩ = some (.bool x.f1))
          (first
            | exact ⟨hg0, hg1, hy0, hy1⟩
            | go_keep
            | exact ⟨pw_cell_below hb6 hg0, pw_cell_below hb6 hg1, pw_cell_below hb6 hy0, pw_cell_below hb6 hy1⟩
            | exact ⟨pw_cell_below (below_step hb6 hb7) hg0, pw_cell_below (below_step hb6 hb7) hg1, pw_cell_below (below_step hb6 hb7) hy0, pw_cell_below (below_step hb6 hb7) hy1⟩
            | exact ⟨pw_cell_below (below_step (below_step hb6 hb7) hb8) hg0, pw_cell_below (below_step (below_step hb6 hb7) hb8) hg1, pw_cell_below (below_step (below_step hb6 hb7) hb8) hy0, pw_cell_below (below_step (below_step hb6 hb7) hb8) hy1⟩
            | fail)
          (first
            | (go_at_call 73; with_reducible refine (impl_height_calls ⟨Y, true⟩ wx.drew HTW.out HYO.out).mono ?_; rintro e w6 ⟨rfl, hb6⟩)
            | (go_at_call 73; with_reducible refine (impl_height_calls x w6 (HTW.out.below hb6) HXL.out.1).mono ?_; rintro e w7 ⟨rfl, hb7⟩)
            | (go_at_call 72; with_reducible refine (impl_movedMelody_calls m k (IntKind.i64.wrap (hgt ⟨Y, true⟩ - hgt x)) _ _ w7 (HTW.out.below (below_step hb6 hb7)) (Kd.C_below HR0.out (below_step HW0.out (below_step hb6 hb7))) HC0.out HOK.out HKK.out).mono ?_; rintro e w8 ⟨v8, rfl, ho8, hb8⟩; rw [EW.out, HM.out] at ho8; rw [EW.out, HM.out]; obtain ⟨A8, c8, rfl⟩ := Kd.R_slice ho8)
            | fail)
        have HB8 := Aside0.mk (below_step (below_step HW0.out (below_step hb6 hb7)) hb8)
        have HO8 := Aside0.mk (Kd.R_lower ho8 (below_step HW0.out (below_step hb6 hb7)).size)
        clear hg0 hg1 hy0 hy1 hb6 hb7 hb8 ho8 HBKW HBW HTW HW0
        cases M2
        · have NG : Aside0 (¬ mmT m k true) := ⟨fun h => by have h2 := h.2; rw [HTRY.out.1] at h2; cases h2⟩
          go_wp2
          go_roundg (2 - 2)
          case measure => have := HK.out; omega
          case rel => exact ⟨2, rfl, ⟨by decide, by decide, by decide, fun _ => N0.out, fun _ => NG.out⟩, HB8⟩
        · have hR : (R1, R2) = (M1, true) := by rw [← HTRY.out.2]; exact HRR.out.symm.trans (mmove_yes HOK.out HPOS.out ⟨HKK.out, HTRY.out.1⟩ (fun _ => N0.out))
          cases hR
          go_wp2
          go_ret2
          exact ⟨_, rfl, HO8.out, HB8.out⟩

end Go.Proofs.YtclpnaaagajhiaaDoor.Pure
