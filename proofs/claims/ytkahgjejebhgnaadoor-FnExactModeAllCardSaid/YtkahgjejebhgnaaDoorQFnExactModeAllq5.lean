/- Lemmas on the printed functions for the law FnExactModeAll. -/
import Derived.Test.YtkahgjejebhgnaaDoorQFnExactModeAllq0
import Derived.Test.YtkahgjejebhgnaaDoorQFnExactModeAllq1
import Derived.Test.YtkahgjejebhgnaaDoorQFnExactModeAllq2
import Derived.Test.YtkahgjejebhgnaaDoorQFnExactModeAllq3
import Derived.Test.YtkahgjejebhgnaaDoorQFnExactModeAllq4
import Derived.Deep.RegionHeld3
import Derived.BigRegion
import Derived.Deep.Slices
import Derived.Laws.CopyOwn
namespace Go.Proofs.YtkahgjejebhgnaaDoor.Pure
set_option linter.unusedVariables false
set_option linter.unusedSimpArgs false
open Go Go.RowKit Go.Proofs.YtkahgjejebhgnaaDoor.PFnExactModeAll Go.Proofs.YtkahgjejebhgnaaDoorW.PrintWords Go.Proofs.YtkahgjejebhgnaaDoorW.PrintLast Go.Proofs.YtkahgjejebhgnaaDoorW.PrintMore

set_option maxHeartbeats 4000000 in
set_option maxRecDepth 100000 in
theorem impl_ModeAll_calls (m : List S55) (A0 : Option Addr) (c0 : Nat) (w : World) (ht : MTab w) (hr0 : Kd.C k55 w A0 m.length m) (hc0 : m.length ≤ c0) (hm : m.length ≤ 1000000000000) :
    Calls Tryd.prog 24 #[.slice A0 m.length c0] w fun e w' => ∃ v, e = .returned v ∧ Kd.R (Kd.int .i64) 3 w' w.heap.size (fun _ => True) v (mUp m 8) ∧ Below w.heap.size w w' := by
  have HT := Aside0.mk ht
  have HR0 := Aside0.mk hr0
  have HC0 := Aside0.mk hc0
  clear ht hr0 hc0
  have hinf : (Tryd.prog.info? 3).map (fun i => (i.zero, i.size, i.bytes)) = some (some (.int .i64 0), 1, 8) := by kernel_rfl
  have HI := Aside0.mk hinf
  clear hinf
  go_enter Tryd.func24, Tryd.ntmps24
  go_wp2_with ((with_reducible refine gate_dst (N := 5) rfl ?_); refine Kd.R_lit (Kd.int .i64) _ 3 ?hg (N := 5) ?hd (xs := ([] : List Int)) (inner := []) (ok := fun _ => True) (okp := fun _ => True) ?hr (Reps.none _ _) (fun _ hk => hk) trivial (Below.refl _ _) (Nat.le_refl _) (by simp) ?_; (case hd => rfl); (case hg => rfl); (case hr => first | (go_simp; done) | (go_simp; rfl)); intro v2 w2 ho2 hb2 _ _; have HO := Aside0.mk ho2; have HB := Aside0.mk hb2; clear ho2 hb2)
  go_loopg [3, 4] 8 (fun kq v3 v4 w' => ∃ (i : Int), v4 = .int .i64 i ∧ Aside0 (kq = (9 - i).toNat ∧ 1 ≤ i ∧ i ≤ 9) ∧ Aside0 (Kd.R (Kd.int .i64) 3 w' w.heap.size (fun _ => True) v3 (mUp m (i - 1).toNat)) ∧ Aside0 (Below w.heap.size w w'))
  case atStart => exact ⟨1, rfl, ⟨by decide⟩, ⟨HO.out⟩, ⟨HB.out⟩⟩
  case round =>
    clear HO HB
    obtain ⟨i, rfl, HX, HO, HB⟩ := hrel
    obtain ⟨hk, h1, h9⟩ := HX.out
    by_cases h : i ≤ 8
    · have d1 : decide (i ≤ 8) = true := decide_eq_true h
      have NX : Aside0 ((9 - (i + 1)).toNat < gk ∧ 1 ≤ i + 1 ∧ i + 1 ≤ 9) := ⟨by omega, by omega, by omega⟩
      have hu : mUp m (i + 1 - 1).toNat = if mIn m i = true then mUp m (i - 1).toNat ++ [i] else mUp m (i - 1).toNat := by
        have e1 : (i + 1 - 1).toNat = (i - 1).toNat + 1 := by omega
        have e2 : (((i - 1).toNat : Nat) : Int) + 1 = i := by omega
        rw [e1]
        simp only [mUp]
        rw [e2]
      have hl := mUp_len m (i - 1).toNat
      obtain ⟨J, hJ⟩ : ∃ J, J = mUp m (i - 1).toNat := ⟨_, rfl⟩
      rw [← hJ] at hu hl HO
      have hl2 : J.length ≤ 8 := by omega
      clear hJ hl hk
      cases hin : mIn m i
      · rw [hin] at hu
        have HU := Aside0.mk hu
        clear hu
        go_wp2_with (go_at_call 63; refine (impl_ModeIn_calls m i _ _ wr (HT.out.below HB.out) (Kd.C_below HR0.out HB.out) HC0.out hm).mono ?_; rw [hin]; rintro e w3 ⟨rfl, hb3⟩)
        go_roundg ((9 - (i + 1)).toNat)
        case measure => exact NX.out.1
        case rel => exact ⟨i + 1, rfl, ⟨rfl, NX.out.2⟩, ⟨by rw [HU.out]; exact Kd.R_below HO.out hb3⟩, ⟨below_step HB.out hb3⟩⟩
      · rw [hin] at hu
        have HU := Aside0.mk hu
        clear hu
        go_wp2_with (first
          | (go_at_call 63; refine (impl_ModeIn_calls m i _ _ wr (HT.out.below HB.out) (Kd.C_below HR0.out HB.out) HC0.out hm).mono ?_; rw [hin]; rintro e w3 ⟨rfl, hb3⟩; have HO3 := Aside0.mk (Kd.R_below HO.out hb3); have HB3 := Aside0.mk (below_step HB.out hb3))
          | ((with_reducible refine gate_builtin (b := .append) (xs := #[.tmp 13, .tmp 15]) rfl ?_); at_builtin; refine Kd.R_append (Kd.int .i64) (w0 := w) w.heap.size rfl (.tmp 13) (.tmp 15) 40 3 (.int .i64 0) 8 rfl Tryd.underlying40 HI.out rfl (by decide) (by omega) _ J i [.int .i64 i] (fun _ => True) (fun _ => False) rfl rfl ?aP (fun _ hk => hk.elim) (fun _ _ => trivial) HO3.out HB3.out HB3.out.size (by omega) ?_; (case aP => exact rfl); intro v4 w4 ho4 hb4 hg4 hat4))
        go_roundg ((9 - (i + 1)).toNat)
        case measure => exact NX.out.1
        case rel => exact ⟨i + 1, rfl, ⟨rfl, NX.out.2⟩, ⟨by rw [HU.out]; exact ho4⟩, ⟨hb4⟩⟩
    · have d1 : decide (i ≤ 8) = false := decide_eq_false h
      obtain rfl : i = 9 := by omega
      go_wp2
      go_ret
      exact ⟨_, rfl, HO.out, HB.out⟩
theorem spec_ModeAll_calls (m : List S55) (A0 : Option Addr) (c0 : Nat) (w : World) (hr0 : Kd.C k55 w A0 m.length m) (hc0 : m.length ≤ c0) (hm : m.length ≤ 1000000000000) :
    Calls Tryd.prog 23 #[.slice A0 m.length c0] w fun e w' => ∃ v, e = .returned v ∧ Kd.R (Kd.int .i64) 3 w' w.heap.size (fun _ => True) v (mUp m 8) ∧ Below w.heap.size w w' := by
  obtain ⟨kk, h⟩ := Ev.rounds (spec_ModeAll_ev m hm)
  exact spec_ModeAll.calls kk _ _ m _ w hr0 hc0 h

end Go.Proofs.YtkahgjejebhgnaaDoor.Pure
