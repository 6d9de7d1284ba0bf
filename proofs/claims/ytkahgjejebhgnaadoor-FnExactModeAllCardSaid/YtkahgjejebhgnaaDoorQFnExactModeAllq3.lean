/- Lemmas on the printed functions for the law FnExactModeAll. -/
import Derived.Test.YtkahgjejebhgnaaDoorQFnExactModeAllq0
import Derived.Test.YtkahgjejebhgnaaDoorQFnExactModeAllq1
import Derived.Test.YtkahgjejebhgnaaDoorQFnExactModeAllq2
import Derived.Deep.RegionHeld3
import Derived.BigRegion
import Derived.Deep.Slices
import Derived.Laws.CopyOwn
namespace Go.Proofs.YtkahgjejebhgnaaDoor.Pure
set_option linter.unusedVariables false
set_option linter.unusedSimpArgs false
open Go Go.RowKit Go.Proofs.YtkahgjejebhgnaaDoor.PFnExactModeAll Go.Proofs.YtkahgjejebhgnaaDoorW.PrintWords Go.Proofs.YtkahgjejebhgnaaDoorW.PrintLast Go.Proofs.YtkahgjejebhgnaaDoorW.PrintMore

theorem mlo_step {a v : Int} {x : S55} {xs : List S55} {r : Int} (h : mlo a (x :: xs) = r) (hv : (v = a ∧ a ≤ x.f0) ∨ (v = x.f0 ∧ x.f0 ≤ a)) : mlo v xs = r := by
  have := mn_le a x.f0
  have e : v = mn a x.f0 := by omega
  rw [e]; exact h
theorem mhi_step {a v : Int} {x : S55} {xs : List S55} {r : Int} (h : mhi a (x :: xs) = r) (hv : (v = a ∧ x.f0 ≤ a) ∨ (v = x.f0 ∧ a ≤ x.f0)) : mhi v xs = r := by
  have := mx_le a x.f0
  have e : v = mx a x.f0 := by omega
  rw [e]; exact h
attribute [local go_sem] max2_int min2_int max_two min_two max_three min_three max_four min_four
set_option maxHeartbeats 4000000 in
set_option maxRecDepth 100000 in
theorem impl_MelodyRange_calls (m : List S55) (A0 : Option Addr) (c0 : Nat) (w : World) (hr0 : Kd.C k55 w A0 m.length m) (hc0 : m.length ≤ c0) (hm : m.length ≤ 1000000000000) :
    Calls Tryd.prog 93 #[.slice A0 m.length c0] w fun e w' => e = .returned (.tuple #[.int .i64 (mrange m).1, .int .i64 (mrange m).2.1, .bool (mrange m).2.2]) ∧ Below w.heap.size w w' := by
  obtain ⟨kk, hv⟩ := Ev.rounds (impl_MelodyValid_ev m)
  have HR0 := Aside0.mk hr0
  have HC0 := Aside0.mk hc0
  have HV := Aside0.mk hv
  clear hr0 hc0 hv
  cases hok : melOk m
  · have e : mrange m = (0, 0, false) := by unfold mrange mSome; rw [hok]; rfl
    rw [e]
    rw [hok] at HV
    clear hok e
    go_enter Tryd.func93, Tryd.ntmps93
    go_wp2_with (go_at_call 44; refine (impl_MelodyValid.calls kk _ _ m false _ HR0.out HC0.out HV.out).mono ?_; rintro e w1 ⟨rfl, hb1⟩)
    go_ret3
    exact ⟨rfl, hb1⟩
  rw [hok] at HV
  by_cases h0 : 0 < m.length
  · have e : mrange m = (mlo (rd_T55 m 0).f0 m, mhi (rd_T55 m 0).f0 m, true) := by unfold mrange mSome; rw [hok, decide_eq_true h0]; rfl
    rw [e]
    have hne : ((m.length : Int) == 0) = false := by rw [beq_eq_false_iff_ne]; omega
    have hne' : (m.length == 0) = false := by rw [beq_eq_false_iff_ne]; omega
    obtain ⟨LO, hLO⟩ : ∃ x, x = mlo (rd_T55 m 0).f0 m := ⟨_, rfl⟩
    obtain ⟨HI, hHI⟩ : ∃ x, x = mhi (rd_T55 m 0).f0 m := ⟨_, rfl⟩
    rw [← hLO, ← hHI]
    have HX := Aside0.mk (And.intro hLO hHI)
    obtain ⟨ad, e1, ux0, ux1⟩ := at_T55 HR0.out 0 (by omega) (by omega)
    subst e1
    obtain ⟨X, hX⟩ : ∃ X, X = (rd_T55 m 0).f0 := ⟨_, rfl⟩
    have HXX := Aside0.mk hX
    rw [← hX] at ux0
    have UX := Aside0.mk ux0
    have i1 := eq_true (show 0 < (m.length : Int) by omega)
    have i2 := eq_true h0
    clear hok e hLO hHI h0 ux0 ux1 hX
    go_enter Tryd.func93, Tryd.ntmps93
    have UY : Aside0 (w.cell? ad = some (.int .i64 X)) := ⟨UX.out⟩
    go_upto_region 3 with (go_at_call 44; refine (impl_MelodyValid.calls kk _ _ m true _ HR0.out HC0.out HV.out).mono ?_; rintro e w1 ⟨rfl, hb1⟩; have hx0 := pw_cell_below hb1 UY.out)
    go_region
    go_wp2_with (go_at_call 80; refine (impl_linked_calls m _ _ w1.drew (Kd.C_below HR0.out (below_drew1 hb1)) HC0.out hm).mono ?_; rintro e w2 ⟨v, rfl, hl2, hb2⟩; have HL := Aside0.mk hl2; have HB := Aside0.mk (below_step (below_drew1 hb1) hb2); clear hl2)
    go_loopg [5, 6, 7] m.length (fun kq v5 v6 v7 w' => ∃ (a b : Int) (l : List S55), v5 = .int .i64 a ∧ v6 = .int .i64 b ∧ Aside0 (kq = l.length ∧ mlo a l = LO ∧ mhi b l = HI) ∧ Aside0 (Lk w' w1.drew.heap.size v7 l) ∧ Aside0 (Below w.heap.size w w'))
    case atStart => exact ⟨X, X, m, rfl, rfl, ⟨rfl, by rw [HX.out.1, HXX.out], by rw [HX.out.2, HXX.out]⟩, ⟨HL.out⟩, ⟨HB.out⟩⟩
    case round =>
      obtain ⟨a, b, l, rfl, rfl, HY, HL1, HB1⟩ := hrel
      obtain ⟨hk, hlo, hhi⟩ := HY.out
      cases l with
      | nil =>
        obtain rfl := HL1.out
        simp only [mlo] at hlo
        simp only [mhi] at hhi
        subst hlo; subst hhi
        go_wp2
        go_ret3
        exact ⟨rfl, HB1.out⟩
      | cons x xs =>
        obtain ⟨g, nx, e1, _, hbx, hnx⟩ := HL1.out
        subst e1
        have hx1 : wr.cell? ⟨g, 0, none⟩ = some (.int .i64 x.f0) := (blk_cell hbx 0).trans rfl
        have hx2 : wr.cell? ⟨g, 2, none⟩ = some nx := (blk_cell hbx 2).trans rfl
        obtain ⟨p, rfl⟩ := hnx.ptr
        have HN := Aside0.mk hnx
        have HK := Aside0.mk hk
        have HZ := Aside0.mk (And.intro hlo hhi)
        clear hk hlo hhi hbx hnx
        go_wp2
        all_goals
          go_roundg xs.length
          case measure => rw [HK.out]; simp
          case rel => exact ⟨_, _, xs, rfl, rfl, ⟨rfl, mlo_step HZ.out.1 (by omega), mhi_step HZ.out.2 (by omega)⟩, HN, HB1⟩
  · have e : mrange m = (0, 0, false) := by unfold mrange mSome; rw [hok, decide_eq_false h0]; rfl
    rw [e]
    have e2 : m = [] := List.eq_nil_of_length_eq_zero (by omega)
    subst e2
    clear hok e h0
    go_enter Tryd.func93, Tryd.ntmps93
    go_wp2_with (go_at_call 44; refine (impl_MelodyValid.calls kk _ _ [] true _ HR0.out HC0.out HV.out).mono ?_; rintro e w1 ⟨rfl, hb1⟩)
    go_ret3
    exact ⟨rfl, hb1⟩

end Go.Proofs.YtkahgjejebhgnaaDoor.Pure
