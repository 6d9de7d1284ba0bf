/- Lemmas on the printed functions for the law FnMelodySame. -/
import Derived.Test.YtclpnaaagajhiaaDoorQFnMelodySameq0
import Derived.Test.YtclpnaaagajhiaaDoorQFnMelodySameq1
import Derived.Test.YtclpnaaagajhiaaDoorQFnMelodySameq2
import Derived.Deep.RegionHeld3
import Derived.BigRegion
import Derived.Deep.Slices
import Derived.Laws.CopyOwn
namespace Go.Proofs.YtclpnaaagajhiaaDoor.Pure
set_option linter.unusedVariables false
set_option linter.unusedSimpArgs false
open Go Go.RowKit Go.Proofs.YtclpnaaagajhiaaDoor.PFnMelodySame Go.Proofs.YtclpnaaagajhiaaDoorW.PrintWords Go.Proofs.YtclpnaaagajhiaaDoorW.PrintLast Go.Proofs.YtclpnaaagajhiaaDoorW.PrintMore

set_option maxHeartbeats 4000000 in
set_option maxRecDepth 100000 in
theorem impl_differencesSteps_calls (g : S29 → S29 → Int) (I : World → Prop) (hI : ∀ w w' : World, I w → Below w.heap.size w w' → I w')
    (hC : ∀ (x y : S29) (w : World), toneOk x = true → toneOk y = true → I w → Calls Tryd.prog 101 #[.agg #[.int .i64 x.f0, .bool x.f1], .agg #[.int .i64 y.f0, .bool y.f1]] w fun e w' => e = .returned (.tuple #[.int .i64 (g x y), .bool true]) ∧ Below w.heap.size w w')
    (m : List S29) (A0 : Option Addr) (c0 : Nat) (w : World) (h0 : I w) (hr0 : Kd.C k29 w A0 m.length m) (hc0 : m.length ≤ c0) (hm : m.length ≤ 1000000000000) :
    Calls Tryd.prog 100 #[.slice A0 m.length c0, .func (.func 101) #[] #[]] w fun e w' => ∃ v, e = .returned v ∧ Kd.R (Kd.int .i64) 3 w' w.heap.size (fun _ => True) v (mdiffs g m) ∧ Below w.heap.size w w' := by
  obtain ⟨kk, hv⟩ := Ev.rounds (impl_MelodyValid_ev m)
  have hu := Tryd.underlying103
  have hu1 := Tryd.underlying29
  have HI := Aside0.mk info3
  have HII := Aside0.mk hI
  have HCC := Aside0.mk hC
  have H0 := Aside0.mk h0
  have HR0 := Aside0.mk hr0
  have HC0 := Aside0.mk hc0
  have HV := Aside0.mk hv
  clear hr0 hc0 hv hI hC h0
  cases hok : melOk m
  · have e : mdiffs g m = [] := by unfold mdiffs; rw [hok]; rfl
    rw [e]
    rw [hok] at HV
    clear hok e
    go_enter Tryd.func100, Tryd.ntmps100
    go_wp2_with (first
      | ((with_reducible refine gate_dst (N := 9) rfl ?_); refine Kd.R_lit (Kd.int .i64) _ 3 ?hg (N := 9) ?hd (xs := ([] : List Int)) (inner := []) (ok := fun _ => True) (okp := fun _ => True) ?hr (Reps.none _ _) (fun _ hk => hk) trivial (Below.refl _ _) (Nat.le_refl _) (by simp) ?_; (case hd => rfl); (case hg => rfl); (case hr => first | (go_simp; done) | (go_simp; rfl)); intro v1 w1 ho1 hb1 _ _; obtain ⟨A1, c1, rfl⟩ := Kd.R_slice ho1; have HO1 := Aside0.mk ho1; have HB1 := Aside0.mk hb1; clear ho1 hb1)
      | (go_at_call 71; refine (impl_MelodyValid.calls kk _ _ m false _ (Kd.C_below HR0.out HB1.out) HC0.out HV.out).mono ?_; rintro e w2 ⟨rfl, hb2⟩))
    go_ret
    exact ⟨_, rfl, Kd.R_below HO1.out hb2, below_step HB1.out hb2⟩
  rw [hok] at HV
  have e : mdiffs g m = diffs g m := by unfold mdiffs; rw [hok]; rfl
  rw [e]
  have hall := melOk_all hok
  have hlen := melOk_len hok
  cases m with
  | nil =>
    clear hok e
    go_enter Tryd.func100, Tryd.ntmps100
    go_wp2_with (first
      | ((with_reducible refine gate_dst (N := 9) rfl ?_); refine Kd.R_lit (Kd.int .i64) _ 3 ?hg (N := 9) ?hd (xs := ([] : List Int)) (inner := []) (ok := fun _ => True) (okp := fun _ => True) ?hr (Reps.none _ _) (fun _ hk => hk) trivial (Below.refl _ _) (Nat.le_refl _) (by simp) ?_; (case hd => rfl); (case hg => rfl); (case hr => first | (go_simp; done) | (go_simp; rfl)); intro v1 w1 ho1 hb1 _ _; obtain ⟨A1, c1, rfl⟩ := Kd.R_slice ho1; have HO1 := Aside0.mk ho1; have HB1 := Aside0.mk hb1; clear ho1 hb1)
      | (go_at_call 71; refine (impl_MelodyValid.calls kk _ _ [] true _ (Kd.C_below HR0.out HB1.out) HC0.out HV.out).mono ?_; rintro e w2 ⟨rfl, hb2⟩))
    go_ret
    exact ⟨_, rfl, Kd.R_below HO1.out hb2, below_step HB1.out hb2⟩
  | cons x0 l0 =>
    obtain ⟨m, hmm⟩ : ∃ m, m = x0 :: l0 := ⟨_, rfl⟩
    have hne : ((m.length : Int) == 0) = false := by rw [beq_eq_false_iff_ne, hmm]; simp; omega
    have hne' : (m.length == 0) = false := by rw [beq_eq_false_iff_ne, hmm]; simp
    obtain ⟨D, hD⟩ : ∃ D, D = diffs g (x0 :: l0) := ⟨_, rfl⟩
    rw [← hD]
    have HD := Aside0.mk hD
    rw [List.all_cons, Bool.and_eq_true] at hall
    have HALL := Aside0.mk (And.intro hall.1 (And.intro hall.2 (show l0.length ≤ 23 by simp only [List.length_cons] at hlen; omega)))
    rw [← hmm] at HR0 HC0 HV hm ⊢
    have HMM := Aside0.mk hmm
    clear hok e hD hall hlen hmm
    go_enter Tryd.func100, Tryd.ntmps100
    go_wp2_with (first
      | ((with_reducible refine gate_dst (N := 9) rfl ?_); refine Kd.R_lit (Kd.int .i64) _ 3 ?hg (N := 9) ?hd (xs := ([] : List Int)) (inner := []) (ok := fun _ => True) (okp := fun _ => True) ?hr (Reps.none _ _) (fun _ hk => hk) trivial (Below.refl _ _) (Nat.le_refl _) (by simp) ?_; (case hd => rfl); (case hg => rfl); (case hr => first | (go_simp; done) | (go_simp; rfl)); intro v1 w1 ho1 hb1 _ _; have HO1 := Aside0.mk ho1; have HB1 := Aside0.mk hb1; clear ho1 hb1)
      | (go_at_call 71; refine (impl_MelodyValid.calls kk _ _ m true _ (Kd.C_below HR0.out HB1.out) HC0.out HV.out).mono ?_; rintro e w2 ⟨rfl, hb2⟩; have HO2 := Aside0.mk (Kd.R_below HO1.out hb2); have HB2 := Aside0.mk (below_step HB1.out hb2); clear hb2)
      | (go_at_call 96; refine (impl_linked_calls m _ _ w2 (Kd.C_below HR0.out HB2.out) HC0.out hm).mono ?_; rintro e w3 ⟨v3, rfl, hl3, hb3⟩; have HL3 := Aside0.mk hl3; have HO3 := Aside0.mk (Kd.R_below HO2.out hb3); have HB3 := Aside0.mk (below_step HB2.out hb3); clear hl3 hb3))
    go_loopg [5, 6] l0.length (fun kq v5 v6 w' => ∃ (X : List Int) (x : S29) (l : List S29), Aside0 (kq = l.length ∧ X ++ diffs g (x :: l) = D ∧ toneOk x = true ∧ l.all toneOk = true ∧ X.length + l.length ≤ 23) ∧ Aside0 (Kd.R (Kd.int .i64) 3 w' w.heap.size (fun _ => True) v5 X) ∧ Aside0 (Lk w' w2.heap.size v6 (x :: l)) ∧ Aside0 (Below w.heap.size w w'))
    case atStart => exact ⟨[], x0, l0, ⟨rfl, HD.out.symm, HALL.out.1, HALL.out.2.1, by simpa using HALL.out.2.2⟩, HO3, ⟨by rw [← HMM.out]; exact HL3.out⟩, HB3⟩
    case round =>
      clear HO3 HL3 HB3
      obtain ⟨X, x, l, HX, HO, HL, HB⟩ := hrel
      obtain ⟨b, nx, e1, hbw, hbx, hnx⟩ := HL.out
      subst e1
      have hx0 : wr.cell? ⟨b, 0, none⟩ = some (.int .i64 x.f0) := (blk_cell hbx 0).trans rfl
      have hx1 : wr.cell? ⟨b, 1, none⟩ = some (.bool x.f1) := (blk_cell hbx 1).trans rfl
      have hx2 : wr.cell? ⟨b, 2, none⟩ = some nx := (blk_cell hbx 2).trans rfl
      have HBX := Aside0.mk hbx
      cases l with
      | nil =>
        obtain rfl : nx = .pointer none := hnx
        obtain ⟨A5, c5, e5⟩ := Kd.R_slice HO.out
        subst e5
        have hXD : X = D := by have := HX.out.2.1; simpa [diffs] using this
        subst hXD
        clear hbx
        go_wp2
        go_ret
        exact ⟨_, rfl, HO.out, HB.out⟩
      | cons y l =>
        have HNX := Aside0.mk hnx
        obtain ⟨b', nx', e2, hbw', hby, hny⟩ := hnx
        subst e2
        have hy0 : wr.cell? ⟨b', 0, none⟩ = some (.int .i64 y.f0) := (blk_cell hby 0).trans rfl
        have hy1 : wr.cell? ⟨b', 1, none⟩ = some (.bool y.f1) := (blk_cell hby 1).trans rfl
        have dx0 : wr.drew.cell? ⟨b, 0, none⟩ = some (.int .i64 x.f0) := hx0
        have dx1 : wr.drew.cell? ⟨b, 1, none⟩ = some (.bool x.f1) := hx1
        have dx2 : wr.drew.cell? ⟨b, 2, none⟩ = some (.pointer (some ⟨b', 0, none⟩)) := hx2
        have dy0 : wr.drew.cell? ⟨b', 0, none⟩ = some (.int .i64 y.f0) := hy0
        have dy1 : wr.drew.cell? ⟨b', 1, none⟩ = some (.bool y.f1) := hy1
        have hall := HX.out.2.2.2.1
        rw [List.all_cons, Bool.and_eq_true] at hall
        have NX : Aside0 (l.length < gk ∧ X ++ [g x y] ++ diffs g (y :: l) = D ∧ toneOk y = true ∧ l.all toneOk = true ∧ (X ++ [g x y]).length + l.length ≤ 23) := ⟨by have := HX.out.1; simp only [List.length_cons] at this; omega, by have := HX.out.2.1; simp only [diffs] at this; rw [List.append_assoc]; exact this, hall.1, hall.2, by have := HX.out.2.2.2.2; simp only [List.length_append, List.length_cons, List.length_nil] at this ⊢; omega⟩
        have HXT := Aside0.mk HX.out.2.2.1
        have bx : X.length ≤ 23 := by have := HX.out.2.2.2.2; omega
        have HDB := Aside0.mk (below_drew1 HB.out)
        have HID := Aside0.mk (HII.out _ _ H0.out HDB.out)
        clear hall hbx hby hny
        go_wp2
        go_region_held3 (fun w' => w'.cell? ⟨b, 0, none⟩ = some (.int .i64 x.f0) ∧ w'.cell? ⟨b, 1, none⟩ = some (.bool x.f1) ∧ w'.cell? ⟨b, 2, none⟩ = some (.pointer (some ⟨b', 0, none⟩)) ∧ w'.cell? ⟨b', 0, none⟩ = some (.int .i64 y.f0) ∧ w'.cell? ⟨b', 1, none⟩ = some (.bool y.f1))
          (first
            | exact ⟨dx0, dx1, dx2, dy0, dy1⟩
            | go_keep
            | exact ⟨pw_cell_below hb4 dx0, pw_cell_below hb4 dx1, pw_cell_below hb4 dx2, pw_cell_below hb4 dy0, pw_cell_below hb4 dy1⟩
            | fail)
          (first
            | (go_at_call 101; refine (HCC.out x y wr.drew HXT.out NX.out.2.2.1 HID.out).mono ?_; rintro e w4 ⟨rfl, hb4⟩)
            | fail)
        have HO4 := Aside0.mk (Kd.R_below (show Kd.R (Kd.int .i64) 3 wr.drew w.heap.size (fun _ => True) _ X from Kd.R_drew HO.out) hb4)
        have HB4 := Aside0.mk (below_step HDB.out hb4)
        have HBX4 := Aside0.mk (blk_below (show wr.drew.heap[b]? = _ from HBX.out) hb4)
        have HNX4 := Aside0.mk (Lk.below hb4 (show Lk wr.drew w2.heap.size _ (y :: l) from HNX.out.below (below_drew1 (Below.refl _ _))))
        clear hx0 hx1 hx2 hy0 hy1 dx0 dx1 dx2 dy0 dy1 hb4
        go_wp2_with ((with_reducible refine gate_builtin (b := .append) (xs := #[.tmp 47, .tmp 49]) rfl ?_); at_builtin; go_loud (refine Kd.R_append (Kd.int .i64) (w0 := w) w.heap.size rfl (.tmp 47) (.tmp 49) 42 3 (.int .i64 0) 8 rfl Tryd.underlying42 HI.out rfl (by decide) (by omega) _ X (g x y) [.int .i64 (g x y)] (fun _ => True) (fun _ => False) rfl rfl ?aP (fun _ hk => hk.elim) (fun _ _ => trivial) HO4.out HB4.out HB4.out.size (by omega) ?_); (case aP => exact rfl); intro v9 wC ho9 hb9 hg9 hat9; have HO9 := Aside0.mk ho9; have HB9 := Aside0.mk hb9; have HNX9 := Aside0.mk (Lk.grown HO4.out hg9 HNX4.out); have cx2 : wC.cell? ⟨b, 2, none⟩ = some (.pointer (some ⟨b', 0, none⟩)) := (blk_cell (blk_grown HBX4.out hg9 (Kd.R_ne HO4.out HBX4.out (by decide))) 2).trans rfl; clear ho9 hb9 hg9 hat9)
        go_roundg l.length
        case measure => exact NX.out.1
        case rel => exact ⟨X ++ [g x y], y, l, ⟨rfl, NX.out.2⟩, HO9, HNX9, HB9⟩

def stepD (x y : S29) : Int := wrap64 (y.f0 - x.f0)
theorem impl_ToneSteps_good (x y : S29) (w : World) (hx : toneOk x = true) (hy : toneOk y = true) : Calls Tryd.prog 101 #[.agg #[.int .i64 x.f0, .bool x.f1], .agg #[.int .i64 y.f0, .bool y.f1]] w fun e w' => e = .returned (.tuple #[.int .i64 (stepD x y), .bool true]) ∧ Below w.heap.size w w' := by
  refine impl_ToneSteps.calls x.f0 x.f1 y.f0 y.f1 _ _ w ?_
  unfold impl_ToneSteps.f
  have h1 : impl_Tone_valid.f x.f0 x.f1 = some true := by rw [impl_Tone_valid_eq]; exact congrArg some hx
  have h2 : impl_Tone_valid.f y.f0 y.f1 = some true := by rw [impl_Tone_valid_eq]; exact congrArg some hy
  rw [h1, h2]; rfl
set_option maxHeartbeats 4000000 in
set_option maxRecDepth 100000 in
theorem impl_MelodySteps_calls (m : List S29) (A0 : Option Addr) (c0 : Nat) (w : World) (hr0 : Kd.C k29 w A0 m.length m) (hc0 : m.length ≤ c0) (hm : m.length ≤ 1000000000000) :
    Calls Tryd.prog 81 #[.slice A0 m.length c0] w fun e w' => ∃ v, e = .returned v ∧ Kd.R (Kd.int .i64) 3 w' w.heap.size (fun _ => True) v (mdiffs stepD m) ∧ Below w.heap.size w w' := by
  have HR0 := Aside0.mk hr0
  have HC0 := Aside0.mk hc0
  clear hr0 hc0
  go_enter Tryd.func81, Tryd.ntmps81
  go_wp2_with (go_at_call 100; refine (impl_differencesSteps_calls stepD (fun _ => True) (fun _ _ _ _ => trivial) (fun x y w hx hy _ => impl_ToneSteps_good x y w hx hy) m A0 c0 _ trivial HR0.out HC0.out hm).mono ?_; rintro e w1 ⟨v, rfl, ho, hb⟩; obtain ⟨A1, c1, rfl⟩ := Kd.R_slice ho)
  go_ret
  exact ⟨_, rfl, ho, hb⟩

/-! MelodySame -/
def msame (a b : List S29) : Bool := melOk a && (melOk b && (decide (a.length = b.length) && ((mdiffs semD a == mdiffs semD b) && (mdiffs stepD a == mdiffs stepD b))))
theorem mdiffs_len (g : S29 → S29 → Int) (m : List S29) : (mdiffs g m).length ≤ m.length := by
  unfold mdiffs
  split
  · rw [diffs_len]; omega
  · exact Nat.zero_le _
set_option maxHeartbeats 8000000 in
set_option maxRecDepth 100000 in
theorem impl_MelodySame_calls (a b : List S29) (A0 : Option Addr) (c0 : Nat) (A1 : Option Addr) (c1 : Nat) (w : World) (ht : HTab w) (hr0 : Kd.C k29 w A0 a.length a) (hc0 : a.length ≤ c0) (hr1 : Kd.C k29 w A1 b.length b) (hc1 : b.length ≤ c1) (ha : a.length ≤ 1000000000000) (hb : b.length ≤ 1000000000000) :
    Calls Tryd.prog 32 #[.slice A0 a.length c0, .slice A1 b.length c1] w fun e w' => e = .returned (.bool (msame a b)) ∧ Below w.heap.size w w' := by
  obtain ⟨ka, hva⟩ := Ev.rounds (impl_MelodyValid_ev a)
  obtain ⟨kb, hvb⟩ := Ev.rounds (impl_MelodyValid_ev b)
  have HR0 := Aside0.mk hr0
  have HC0 := Aside0.mk hc0
  have HR1 := Aside0.mk hr1
  have HC1 := Aside0.mk hc1
  have HVA := Aside0.mk hva
  have HVB := Aside0.mk hvb
  have HT := Aside0.mk ht
  clear hr0 hc0 hr1 hc1 hva hvb ht
  unfold msame
  cases h1 : melOk a
  · rw [h1] at HVA
    clear h1
    go_enter Tryd.func32, Tryd.ntmps32
    go_wp2_with (go_at_call 71; with_reducible refine (impl_MelodyValid.calls ka _ _ a false w HR0.out HC0.out HVA.out).mono ?_; rintro e w1 ⟨rfl, hb1⟩)
    go_ret
    exact ⟨rfl, hb1⟩
  rw [h1] at HVA
  clear h1
  cases h2 : melOk b
  · rw [h2] at HVB
    clear h2
    go_enter Tryd.func32, Tryd.ntmps32
    go_wp2_with (first
      | (go_at_call 71; with_reducible refine (impl_MelodyValid.calls ka _ _ a true w HR0.out HC0.out HVA.out).mono ?_; rintro e w1 ⟨rfl, hb1⟩; have HB1 := Aside0.mk hb1; clear hb1)
      | (go_at_call 71; with_reducible refine (impl_MelodyValid.calls kb _ _ b false w1 (Kd.C_below HR1.out HB1.out) HC1.out HVB.out).mono ?_; rintro e w2 ⟨rfl, hb2⟩; have HB2 := Aside0.mk (below_step HB1.out hb2); clear hb2))
    go_ret
    exact ⟨rfl, HB2.out⟩
  rw [h2] at HVB
  clear h2
  by_cases h3 : a.length = b.length
  case neg =>
    rw [decide_eq_false h3]
    have d1 : ((a.length : Int) == (b.length : Int)) = false := by rw [beq_eq_false_iff_ne]; omega
    have d2 : (a.length == b.length) = false := by rw [beq_eq_false_iff_ne]; exact h3
    clear h3
    go_enter Tryd.func32, Tryd.ntmps32
    go_wp2_with (first
      | (go_at_call 71; with_reducible refine (impl_MelodyValid.calls ka _ _ a true w HR0.out HC0.out HVA.out).mono ?_; rintro e w1 ⟨rfl, hb1⟩; have HB1 := Aside0.mk hb1; clear hb1)
      | (go_at_call 71; with_reducible refine (impl_MelodyValid.calls kb _ _ b true w1 (Kd.C_below HR1.out HB1.out) HC1.out HVB.out).mono ?_; rintro e w2 ⟨rfl, hb2⟩; have HB2 := Aside0.mk (below_step HB1.out hb2); clear hb2))
    go_ret
    exact ⟨rfl, HB2.out⟩
  rw [decide_eq_true h3]
  have d1 : ((a.length : Int) == (b.length : Int)) = true := by rw [beq_iff_eq]; omega
  have d2 : (a.length == b.length) = true := by rw [beq_iff_eq]; exact h3
  clear h3
  obtain ⟨ke, hve⟩ := Ev.rounds (impl_equalNumbers_ev (mdiffs semD a) (mdiffs semD b) (by have := mdiffs_len semD a; omega))
  have HVE := Aside0.mk hve
  clear hve
  cases h4 : mdiffs semD a == mdiffs semD b
  · rw [h4] at HVE
    clear h4
    go_enter Tryd.func32, Tryd.ntmps32
    go_wp2_with (first
      | (go_at_call 71; with_reducible refine (impl_MelodyValid.calls ka _ _ a true w HR0.out HC0.out HVA.out).mono ?_; rintro e w1 ⟨rfl, hb1⟩; have HB1 := Aside0.mk hb1; clear hb1)
      | (go_at_call 71; with_reducible refine (impl_MelodyValid.calls kb _ _ b true w1 (Kd.C_below HR1.out HB1.out) HC1.out HVB.out).mono ?_; rintro e w2 ⟨rfl, hb2⟩; have HB2 := Aside0.mk (below_step HB1.out hb2); clear hb2)
      | (go_at_call 80; with_reducible refine (impl_MelodySemis_calls a _ _ w2 (HT.out.below HB2.out) (Kd.C_below HR0.out HB2.out) HC0.out ha).mono ?_; rintro e w3 ⟨v3, rfl, ho3, hb3⟩; obtain ⟨A3, c3, rfl⟩ := Kd.R_slice ho3; have HO3 := Aside0.mk ho3; have HB3 := Aside0.mk (below_step HB2.out hb3); clear ho3 hb3)
      | (go_at_call 80; with_reducible refine (impl_MelodySemis_calls b _ _ w3 (HT.out.below HB3.out) (Kd.C_below HR1.out HB3.out) HC1.out hb).mono ?_; rintro e w4 ⟨v4, rfl, ho4, hb4⟩; obtain ⟨A4, c4, rfl⟩ := Kd.R_slice ho4; have HO34 := Aside0.mk (Kd.R_below HO3.out hb4); have HO4 := Aside0.mk ho4; have HB4 := Aside0.mk (below_step HB3.out hb4); clear ho4 hb4)
      | (go_at_call 79; with_reducible refine (impl_equalNumbers.calls ke _ _ _ _ _ _ false w4 (Kd.R_reads' HO34.out).2.2 (Kd.R_reads' HO34.out).2.1 (Kd.R_reads' HO4.out).2.2 (Kd.R_reads' HO4.out).2.1 HVE.out).mono ?_; rintro e w5 ⟨rfl, hb5⟩; have HB5 := Aside0.mk (below_step HB4.out hb5.below); clear hb5))
    go_ret
    exact ⟨rfl, HB5.out⟩
  rw [h4] at HVE
  clear h4
  obtain ⟨kf, hvf⟩ := Ev.rounds (impl_equalNumbers_ev (mdiffs stepD a) (mdiffs stepD b) (by have := mdiffs_len stepD a; omega))
  obtain ⟨R, hR⟩ : ∃ R, R = (mdiffs stepD a == mdiffs stepD b) := ⟨_, rfl⟩
  rw [← hR] at hvf
  rw [← hR]
  have HVF := Aside0.mk hvf
  clear hvf hR
  go_enter Tryd.func32, Tryd.ntmps32
  go_wp2_with (first
    | (go_at_call 71; with_reducible refine (impl_MelodyValid.calls ka _ _ a true w HR0.out HC0.out HVA.out).mono ?_; rintro e w1 ⟨rfl, hb1⟩; have HB1 := Aside0.mk hb1; clear hb1)
    | (go_at_call 71; with_reducible refine (impl_MelodyValid.calls kb _ _ b true w1 (Kd.C_below HR1.out HB1.out) HC1.out HVB.out).mono ?_; rintro e w2 ⟨rfl, hb2⟩; have HB2 := Aside0.mk (below_step HB1.out hb2); clear hb2)
    | (go_at_call 80; with_reducible refine (impl_MelodySemis_calls a _ _ w2 (HT.out.below HB2.out) (Kd.C_below HR0.out HB2.out) HC0.out ha).mono ?_; rintro e w3 ⟨v3, rfl, ho3, hb3⟩; obtain ⟨A3, c3, rfl⟩ := Kd.R_slice ho3; have HO3 := Aside0.mk ho3; have HB3 := Aside0.mk (below_step HB2.out hb3); clear ho3 hb3)
    | (go_at_call 80; with_reducible refine (impl_MelodySemis_calls b _ _ w3 (HT.out.below HB3.out) (Kd.C_below HR1.out HB3.out) HC1.out hb).mono ?_; rintro e w4 ⟨v4, rfl, ho4, hb4⟩; obtain ⟨A4, c4, rfl⟩ := Kd.R_slice ho4; have HO34 := Aside0.mk (Kd.R_below HO3.out hb4); have HO4 := Aside0.mk ho4; have HB4 := Aside0.mk (below_step HB3.out hb4); clear ho4 hb4)
    | (go_at_call 79; with_reducible refine (impl_equalNumbers.calls ke _ _ _ _ _ _ true w4 (Kd.R_reads' HO34.out).2.2 (Kd.R_reads' HO34.out).2.1 (Kd.R_reads' HO4.out).2.2 (Kd.R_reads' HO4.out).2.1 HVE.out).mono ?_; rintro e w5 ⟨rfl, hb5⟩; have HB5 := Aside0.mk (below_step HB4.out hb5.below); clear hb5)
    | (go_at_call 81; with_reducible refine (impl_MelodySteps_calls a _ _ w5 (Kd.C_below HR0.out HB5.out) HC0.out ha).mono ?_; rintro e w6 ⟨v6, rfl, ho6, hb6⟩; obtain ⟨A6, c6, rfl⟩ := Kd.R_slice ho6; have HO6 := Aside0.mk ho6; have HB6 := Aside0.mk (below_step HB5.out hb6); clear ho6 hb6)
    | (go_at_call 81; with_reducible refine (impl_MelodySteps_calls b _ _ w6 (Kd.C_below HR1.out HB6.out) HC1.out hb).mono ?_; rintro e w7 ⟨v7, rfl, ho7, hb7⟩; obtain ⟨A7, c7, rfl⟩ := Kd.R_slice ho7; have HO67 := Aside0.mk (Kd.R_below HO6.out hb7); have HO7 := Aside0.mk ho7; have HB7 := Aside0.mk (below_step HB6.out hb7); clear ho7 hb7)
    | (go_at_call 79; with_reducible refine (impl_equalNumbers.calls kf _ _ _ _ _ _ R w7 (Kd.R_reads' HO67.out).2.2 (Kd.R_reads' HO67.out).2.1 (Kd.R_reads' HO7.out).2.2 (Kd.R_reads' HO7.out).2.1 HVF.out).mono ?_; rintro e w8 ⟨rfl, hb8⟩; have HB8 := Aside0.mk (below_step HB7.out hb8.below); clear hb8))
  go_ret
  exact ⟨by simp, HB8.out⟩

end Go.Proofs.YtclpnaaagajhiaaDoor.Pure
