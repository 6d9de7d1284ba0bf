/- Lemmas on the printed functions for the law FnMelodyMove. -/
import Derived.Test.YtclpnaaagajhiaaDoorQFnMelodyMoveq0
import Derived.Test.YtclpnaaagajhiaaDoorQFnMelodyMoveq1
import Derived.Test.YtclpnaaagajhiaaDoorQFnMelodyMoveq2
import Derived.Test.YtclpnaaagajhiaaDoorQFnMelodyMoveq3
import Derived.Deep.RegionHeld3
import Derived.BigRegion
import Derived.Deep.Slices
import Derived.Laws.CopyOwn
namespace Go.Proofs.YtclpnaaagajhiaaDoor.Pure
set_option linter.unusedVariables false
set_option linter.unusedSimpArgs false
open Go Go.RowKit Go.Proofs.YtclpnaaagajhiaaDoor.PFnMelodyMove Go.Proofs.YtclpnaaagajhiaaDoorW.PrintWords Go.Proofs.YtclpnaaagajhiaaDoorW.PrintLast Go.Proofs.YtclpnaaagajhiaaDoorW.PrintMore

set_option maxHeartbeats 4000000 in
set_option maxRecDepth 100000 in
theorem impl_differencesSemis_calls (g : S29 → S29 → Int) (I : World → Prop) (hI : ∀ w w' : World, I w → Below w.heap.size w w' → I w')
    (hC : ∀ (x y : S29) (w : World), toneOk x = true → toneOk y = true → I w → Calls Tryd.prog 54 #[.agg #[.int .i64 x.f0, .bool x.f1], .agg #[.int .i64 y.f0, .bool y.f1]] w fun e w' => e = .returned (.tuple #[.int .i64 (g x y), .bool true]) ∧ Below w.heap.size w w')
    (m : List S29) (A0 : Option Addr) (c0 : Nat) (w : World) (h0 : I w) (hr0 : Kd.C k29 w A0 m.length m) (hc0 : m.length ≤ c0) (hm : m.length ≤ 1000000000000) :
    Calls Tryd.prog 100 #[.slice A0 m.length c0, .func (.func 54) #[] #[]] w fun e w' => ∃ v, e = .returned v ∧ Kd.R (Kd.int .i64) 3 w' w.heap.size (fun _ => True) v (mdiffs g m) ∧ Below w.heap.size w w' := by
  obtain ⟨kk, hv⟩ := Ev.rounds (impl_MelodyValid_ev m)
  have hu := Tryd.underlying103
  have hu1 := Tryd.underlying29
  have HI := Aside0.mk info3
  have HII := Aside0.mk hI
  have HCC := Aside0.mk hC
  have H0 := Aside0.mk h0
  have HR0 := Aside0.mk hr0
  have HC0 := Aside0.mk hc0
  have HV := Aside0.mk hv
  clear hr0 hc0 hv hI hC h0
  cases hok : melOk m
  · have e : mdiffs g m = [] := by unfold mdiffs; rw [hok]; rfl
    rw [e]
    rw [hok] at HV
    clear hok e
    go_enter Tryd.func100, Tryd.ntmps100
    go_wp2_with (first
      | ((with_reducible refine gate_dst (N := 9) rfl ?_); refine Kd.R_lit (Kd.int .i64) _ 3 ?hg (N := 9) ?hd (xs := ([] : List Int)) (inner := []) (ok := fun _ => True) (okp := fun _ => True) ?hr (Reps.none _ _) (fun _ hk => hk) trivial (Below.refl _ _) (Nat.le_refl _) (by simp) ?_; (case hd => rfl); (case hg => rfl); (case hr => first | (go_simp; done) | (go_simp; rfl)); intro v1 w1 ho1 hb1 _ _; obtain ⟨A1, c1, rfl⟩ := Kd.R_slice ho1; have HO1 := Aside0.mk ho1; have HB1 := Aside0.mk hb1; clear ho1 hb1)
      | (go_at_call 71; refine (impl_MelodyValid.calls kk _ _ m false _ (Kd.C_below HR0.out HB1.out) HC0.out HV.out).mono ?_; rintro e w2 ⟨rfl, hb2⟩))
    go_ret
    exact ⟨_, rfl, Kd.R_below HO1.out hb2, below_step HB1.out hb2⟩
  rw [hok] at HV
  have e : mdiffs g m = diffs g m := by unfold mdiffs; rw [hok]; rfl
  rw [e]
  have hall := melOk_all hok
  have hlen := melOk_len hok
  cases m with
  | nil =>
    clear hok e
    go_enter Tryd.func100, Tryd.ntmps100
    go_wp2_with (first
      | ((with_reducible refine gate_dst (N := 9) rfl ?_); refine Kd.R_lit (Kd.int .i64) _ 3 ?hg (N := 9) ?hd (xs := ([] : List Int)) (inner := []) (ok := fun _ => True) (okp := fun _ => True) ?hr (Reps.none _ _) (fun _ hk => hk) trivial (Below.refl _ _) (Nat.le_refl _) (by simp) ?_; (case hd => rfl); (case hg => rfl); (case hr => first | (go_simp; done) | (go_simp; rfl)); intro v1 w1 ho1 hb1 _ _; obtain ⟨A1, c1, rfl⟩ := Kd.R_slice ho1; have HO1 := Aside0.mk ho1; have HB1 := Aside0.mk hb1; clear ho1 hb1)
      | (go_at_call 71; refine (impl_MelodyValid.calls kk _ _ [] true _ (Kd.C_below HR0.out HB1.out) HC0.out HV.out).mono ?_; rintro e w2 ⟨rfl, hb2⟩))
    go_ret
    exact ⟨_, rfl, Kd.R_below HO1.out hb2, below_step HB1.out hb2⟩
  | cons x0 l0 =>
    obtain ⟨m, hmm⟩ : ∃ m, m = x0 :: l0 := ⟨_, rfl⟩
    have hne : ((m.length : Int) == 0) = false := by rw [beq_eq_false_iff_ne, hmm]; simp; omega
    have hne' : (m.length == 0) = false := by rw [beq_eq_false_iff_ne, hmm]; simp
    obtain ⟨D, hD⟩ : ∃ D, D = diffs g (x0 :: l0) := ⟨_, rfl⟩
    rw [← hD]
    have HD := Aside0.mk hD
    rw [List.all_cons, Bool.and_eq_true] at hall
    have HALL := Aside0.mk (And.intro hall.1 (And.intro hall.2 (show l0.length ≤ 23 by simp only [List.length_cons] at hlen; omega)))
    rw [← hmm] at HR0 HC0 HV hm ⊢
    have HMM := Aside0.mk hmm
    clear hok e hD hall hlen hmm
    go_enter Tryd.func100, Tryd.ntmps100
    go_wp2_with (first
      | ((with_reducible refine gate_dst (N := 9) rfl ?_); refine Kd.R_lit (Kd.int .i64) _ 3 ?hg (N := 9) ?hd (xs := ([] : List Int)) (inner := []) (ok := fun _ => True) (okp := fun _ => True) ?hr (Reps.none _ _) (fun _ hk => hk) trivial (Below.refl _ _) (Nat.le_refl _) (by simp) ?_; (case hd => rfl); (case hg => rfl); (case hr => first | (go_simp; done) | (go_simp; rfl)); intro v1 w1 ho1 hb1 _ _; have HO1 := Aside0.mk ho1; have HB1 := Aside0.mk hb1; clear ho1 hb1)
      | (go_at_call 71; refine (impl_MelodyValid.calls kk _ _ m true _ (Kd.C_below HR0.out HB1.out) HC0.out HV.out).mono ?_; rintro e w2 ⟨rfl, hb2⟩; have HO2 := Aside0.mk (Kd.R_below HO1.out hb2); have HB2 := Aside0.mk (below_step HB1.out hb2); clear hb2)
      | (go_at_call 96; refine (impl_linked_calls m _ _ w2 (Kd.C_below HR0.out HB2.out) HC0.out hm).mono ?_; rintro e w3 ⟨v3, rfl, hl3, hb3⟩; have HL3 := Aside0.mk hl3; have HO3 := Aside0.mk (Kd.R_below HO2.out hb3); have HB3 := Aside0.mk (below_step HB2.out hb3); clear hl3 hb3))
    go_loopg [5, 6] l0.length (fun kq v5 v6 w' => ∃ (X : List Int) (x : S29) (l : List S29), Aside0 (kq = l.length ∧ X ++ diffs g (x :: l) = D ∧ toneOk x = true ∧ l.all toneOk = true ∧ X.length + l.length ≤ 23) ∧ Aside0 (Kd.R (Kd.int .i64) 3 w' w.heap.size (fun _ => True) v5 X) ∧ Aside0 (Lk w' w2.heap.size v6 (x :: l)) ∧ Aside0 (Below w.heap.size w w'))
    case atStart => exact ⟨[], x0, l0, ⟨rfl, HD.out.symm, HALL.out.1, HALL.out.2.1, by simpa using HALL.out.2.2⟩, HO3, ⟨by rw [← HMM.out]; exact HL3.out⟩, HB3⟩
    case round =>
      clear HO3 HL3 HB3
      obtain ⟨X, x, l, HX, HO, HL, HB⟩ := hrel
      obtain ⟨b, nx, e1, hbw, hbx, hnx⟩ := HL.out
      subst e1
      have hx0 : wr.cell? ⟨b, 0, none⟩ = some (.int .i64 x.f0) := (blk_cell hbx 0).trans rfl
      have hx1 : wr.cell? ⟨b, 1, none⟩ = some (.bool x.f1) := (blk_cell hbx 1).trans rfl
      have hx2 : wr.cell? ⟨b, 2, none⟩ = some nx := (blk_cell hbx 2).trans rfl
      have HBX := Aside0.mk hbx
      cases l with
      | nil =>
        obtain rfl : nx = .pointer none := hnx
        obtain ⟨A5, c5, e5⟩ := Kd.R_slice HO.out
        subst e5
        have hXD : X = D := by have := HX.out.2.1; simpa [diffs] using this
        subst hXD
        clear hbx
        go_wp2
        go_ret
        exact ⟨_, rfl, HO.out, HB.out⟩
      | cons y l =>
        have HNX := Aside0.mk hnx
        obtain ⟨b', nx', e2, hbw', hby, hny⟩ := hnx
        subst e2
        have hy0 : wr.cell? ⟨b', 0, none⟩ = some (.int .i64 y.f0) := (blk_cell hby 0).trans rfl
        have hy1 : wr.cell? ⟨b', 1, none⟩ = some (.bool y.f1) := (blk_cell hby 1).trans rfl
        have dx0 : wr.drew.cell? ⟨b, 0, none⟩ = some (.int .i64 x.f0) := hx0
        have dx1 : wr.drew.cell? ⟨b, 1, none⟩ = some (.bool x.f1) := hx1
        have dx2 : wr.drew.cell? ⟨b, 2, none⟩ = some (.pointer (some ⟨b', 0, none⟩)) := hx2
        have dy0 : wr.drew.cell? ⟨b', 0, none⟩ = some (.int .i64 y.f0) := hy0
        have dy1 : wr.drew.cell? ⟨b', 1, none⟩ = some (.bool y.f1) := hy1
        have hall := HX.out.2.2.2.1
        rw [List.all_cons, Bool.and_eq_true] at hall
        have NX : Aside0 (l.length < gk ∧ X ++ [g x y] ++ diffs g (y :: l) = D ∧ toneOk y = true ∧ l.all toneOk = true ∧ (X ++ [g x y]).length + l.length ≤ 23) := ⟨by have := HX.out.1; simp only [List.length_cons] at this; omega, by have := HX.out.2.1; simp only [diffs] at this; rw [List.append_assoc]; exact this, hall.1, hall.2, by have := HX.out.2.2.2.2; simp only [List.length_append, List.length_cons, List.length_nil] at this ⊢; omega⟩
        have HXT := Aside0.mk HX.out.2.2.1
        have bx : X.length ≤ 23 := by have := HX.out.2.2.2.2; omega
        have HDB := Aside0.mk (below_drew1 HB.out)
        have HID := Aside0.mk (HII.out _ _ H0.out HDB.out)
        clear hall hbx hby hny
        go_wp2
        go_region_held3 (fun w' => w'.cell? ⟨b, 0, none⟩ = some (.int .i64 x.f0) ∧ w'.cell? ⟨b, 1, none⟩ = some (.bool x.f1) ∧ w'.cell? ⟨b, 2, none⟩ = some (.pointer (some ⟨b', 0, none⟩)) ∧ w'.cell? ⟨b', 0, none⟩ = some (.int .i64 y.f0) ∧ w'.cell? ⟨b', 1, none⟩ = some (.bool y.f1))
          (first
            | exact ⟨dx0, dx1, dx2, dy0, dy1⟩
            | go_keep
            | exact ⟨pw_cell_below hb4 dx0, pw_cell_below hb4 dx1, pw_cell_below hb4 dx2, pw_cell_below hb4 dy0, pw_cell_below hb4 dy1⟩
            | fail)
          (first
            | (go_at_call 54; refine (HCC.out x y wr.drew HXT.out NX.out.2.2.1 HID.out).mono ?_; rintro e w4 ⟨rfl, hb4⟩)
            | fail)
        have HO4 := Aside0.mk (Kd.R_below (show Kd.R (Kd.int .i64) 3 wr.drew w.heap.size (fun _ => True) _ X from Kd.R_drew HO.out) hb4)
        have HB4 := Aside0.mk (below_step HDB.out hb4)
        have HBX4 := Aside0.mk (blk_below (show wr.drew.heap[b]? = _ from HBX.out) hb4)
        have HNX4 := Aside0.mk (Lk.below hb4 (show Lk wr.drew w2.heap.size _ (y :: l) from HNX.out.below (below_drew1 (Below.refl _ _))))
        clear hx0 hx1 hx2 hy0 hy1 dx0 dx1 dx2 dy0 dy1 hb4
        go_wp2_with ((with_reducible refine gate_builtin (b := .append) (xs := #[.tmp 47, .tmp 49]) rfl ?_); at_builtin; go_loud (refine Kd.R_append (Kd.int .i64) (w0 := w) w.heap.size rfl (.tmp 47) (.tmp 49) 42 3 (.int .i64 0) 8 rfl Tryd.underlying42 HI.out rfl (by decide) (by omega) _ X (g x y) [.int .i64 (g x y)] (fun _ => True) (fun _ => False) rfl rfl ?aP (fun _ hk => hk.elim) (fun _ _ => trivial) HO4.out HB4.out HB4.out.size (by omega) ?_); (case aP => exact rfl); intro v9 wC ho9 hb9 hg9 hat9; have HO9 := Aside0.mk ho9; have HB9 := Aside0.mk hb9; have HNX9 := Aside0.mk (Lk.grown HO4.out hg9 HNX4.out); have cx2 : wC.cell? ⟨b, 2, none⟩ = some (.pointer (some ⟨b', 0, none⟩)) := (blk_cell (blk_grown HBX4.out hg9 (Kd.R_ne HO4.out HBX4.out (by decide))) 2).trans rfl; clear ho9 hb9 hg9 hat9)
        go_roundg l.length
        case measure => exact NX.out.1
        case rel => exact ⟨X ++ [g x y], y, l, ⟨rfl, NX.out.2⟩, HO9, HNX9, HB9⟩

/-! ToneSemis, MelodySemis -/
def semD (x y : S29) : Int := wrap64 (hgt y - hgt x)
set_option maxHeartbeats 4000000 in
set_option maxRecDepth 100000 in
theorem impl_ToneSemis_good (x y : S29) (w : World) (hx : toneOk x = true) (hy : toneOk y = true) (ht : HTab w) : Calls Tryd.prog 54 #[.agg #[.int .i64 x.f0, .bool x.f1], .agg #[.int .i64 y.f0, .bool y.f1]] w fun e w' => e = .returned (.tuple #[.int .i64 (semD x y), .bool true]) ∧ Below w.heap.size w w' := by
  have hu1 := Tryd.underlying29
  have HVX := Aside0.mk (show impl_Tone_valid.f x.f0 x.f1 = some true by rw [impl_Tone_valid_eq]; exact congrArg some hx)
  have HVY := Aside0.mk (show impl_Tone_valid.f y.f0 y.f1 = some true by rw [impl_Tone_valid_eq]; exact congrArg some hy)
  have HXO := Aside0.mk hx
  have HYO := Aside0.mk hy
  have HT := Aside0.mk ht
  clear hx hy ht
  go_enter Tryd.func54, Tryd.ntmps54
  go_upto_region 3 with (first
    | ((with_reducible refine gate_dst (N := 2) rfl ?_); refine box_event ?hg (N := 2) ?hd (cs := #[.int .i64 x.f0, .bool x.f1]) (t := 29) ?hr ?_; (case hd => rfl); (case hg => rfl); (case hr => first | (go_simp; done) | (go_simp; rfl)); intro gx hg w3 hbox hb3; have HBX := Aside0.mk hbox; have HB3 := Aside0.mk hb3; have hx0 : w3.cell? ⟨gx, 0, none⟩ = some (.int .i64 x.f0) := (blk_cell hbox 0).trans rfl; have hx1 : w3.cell? ⟨gx, 1, none⟩ = some (.bool x.f1) := (blk_cell hbox 1).trans rfl; clear hg hbox hb3)
    | ((with_reducible refine gate_dst (N := 3) rfl ?_); refine box_event ?hg (N := 3) ?hd (cs := #[.int .i64 y.f0, .bool y.f1]) (t := 29) ?hr ?_; (case hd => rfl); (case hg => rfl); (case hr => first | (go_simp; done) | (go_simp; rfl)); intro gy hg w4 hbox hb4; have HBX4 := Aside0.mk (blk_below HBX.out hb4); have HBY4 := Aside0.mk hbox; have HB4 := Aside0.mk (below_step HB3.out hb4); have hxa0 := pw_cell_below hb4 hx0; have hxa1 := pw_cell_below hb4 hx1; clear hg hbox hb4)
    | (go_at_call 90; with_reducible refine (impl_Tone_valid.calls x.f0 x.f1 true w4 HVX.out).mono ?_; rintro e w5 ⟨rfl, hb5⟩; have HBX5 := Aside0.mk (blk_below HBX4.out hb5); have HBY5 := Aside0.mk (blk_below HBY4.out hb5); have HB5 := Aside0.mk (below_step HB4.out hb5); have hya0 : w5.cell? ⟨gy, 0, none⟩ = some (.int .i64 y.f0) := (blk_cell HBY5.out 0).trans rfl; have hya1 : w5.cell? ⟨gy, 1, none⟩ = some (.bool y.f1) := (blk_cell HBY5.out 1).trans rfl; clear hb5)
    | (go_at_call 90; with_reducible refine (impl_Tone_valid.calls y.f0 y.f1 true w5 HVY.out).mono ?_; rintro e w6 ⟨rfl, hb6⟩; have HBX6 := Aside0.mk (blk_below HBX5.out hb6); have HBY6 := Aside0.mk (blk_below HBY5.out hb6); have HB6 := Aside0.mk (below_step HB5.out hb6); clear hb6))
  clear hx0 hx1 hxa0 hxa1 hya0 hya1
  have dx0 : w6.drew.cell? ⟨gx, 0, none⟩ = some (.int .i64 x.f0) := (blk_cell HBX6.out 0).trans rfl
  have dx1 : w6.drew.cell? ⟨gx, 1, none⟩ = some (.bool x.f1) := (blk_cell HBX6.out 1).trans rfl
  have dy0 : w6.drew.cell? ⟨gy, 0, none⟩ = some (.int .i64 y.f0) := (blk_cell HBY6.out 0).trans rfl
  have dy1 : w6.drew.cell? ⟨gy, 1, none⟩ = some (.bool y.f1) := (blk_cell HBY6.out 1).trans rfl
  have HDB := Aside0.mk (below_drew1 HB6.out)
  go_region_held3 (fun w' => w'.cell? ⟨gx, 0, none⟩ = some (.int .i64 x.f0) ∧ w'.cell? ⟨gx, 1, none⟩ = some (.bool x.f1) ∧ w'.cell? ⟨gy, 0, none⟩ = some (.int .i64 y.f0) ∧ w'.cell? ⟨gy, 1, none⟩ = some (.bool y.f1))
    (first
      | exact ⟨dx0, dx1, dy0, dy1⟩
      | go_keep
      | exact ⟨pw_cell_below hb7 dx0, pw_cell_below hb7 dx1, pw_cell_below hb7 dy0, pw_cell_below hb7 dy1⟩
      | exact ⟨pw_cell_below (below_step hb7 hb8) dx0, pw_cell_below (below_step hb7 hb8) dx1, pw_cell_below (below_step hb7 hb8) dy0, pw_cell_below (below_step hb7 hb8) dy1⟩
      | fail)
    (first
      | (go_at_call 73; with_reducible refine (impl_height_calls y w6.drew (HT.out.below HDB.out) HYO.out).mono ?_; rintro e w7 ⟨rfl, hb7⟩)
      | (go_at_call 73; with_reducible refine (impl_height_calls x w7 (HT.out.below (below_step HDB.out hb7)) HXO.out).mono ?_; rintro e w8 ⟨rfl, hb8⟩)
      | fail)
  have HB8 := Aside0.mk (below_step HDB.out (below_step hb7 hb8))
  clear dx0 dx1 dy0 dy1 hb7 hb8
  go_wp2
  go_ret2
  exact ⟨by rw [show semD x y = IntKind.i64.wrap (hgt y - hgt x) from (i64_w _).symm]; rfl, HB8.out⟩
set_option maxHeartbeats 4000000 in
set_option maxRecDepth 100000 in
theorem impl_MelodySemis_calls (m : List S29) (A0 : Option Addr) (c0 : Nat) (w : World) (ht : HTab w) (hr0 : Kd.C k29 w A0 m.length m) (hc0 : m.length ≤ c0) (hm : m.length ≤ 1000000000000) :
    Calls Tryd.prog 80 #[.slice A0 m.length c0] w fun e w' => ∃ v, e = .returned v ∧ Kd.R (Kd.int .i64) 3 w' w.heap.size (fun _ => True) v (mdiffs semD m) ∧ Below w.heap.size w w' := by
  have HR0 := Aside0.mk hr0
  have HC0 := Aside0.mk hc0
  have HT := Aside0.mk ht
  clear hr0 hc0 ht
  go_enter Tryd.func80, Tryd.ntmps80
  go_wp2_with (go_at_call 100; refine (impl_differencesSemis_calls semD HTab (fun _ _ h hb => h.below hb) (fun x y w hx hy h => impl_ToneSemis_good x y w hx hy h) m A0 c0 _ HT.out HR0.out HC0.out hm).mono ?_; rintro e w1 ⟨v, rfl, ho, hb⟩; obtain ⟨A1, c1, rfl⟩ := Kd.R_slice ho)
  go_ret
  exact ⟨_, rfl, ho, hb⟩

end Go.Proofs.YtclpnaaagajhiaaDoor.Pure
