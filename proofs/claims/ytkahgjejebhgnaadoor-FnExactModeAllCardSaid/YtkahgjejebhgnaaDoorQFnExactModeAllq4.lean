/- Lemmas on the printed functions for the law FnExactModeAll. -/
import Derived.Test.YtkahgjejebhgnaaDoorQFnExactModeAllq0
import Derived.Test.YtkahgjejebhgnaaDoorQFnExactModeAllq1
import Derived.Test.YtkahgjejebhgnaaDoorQFnExactModeAllq2
import Derived.Test.YtkahgjejebhgnaaDoorQFnExactModeAllq3
import Derived.Deep.RegionHeld3
import Derived.BigRegion
import Derived.Deep.Slices
import Derived.Laws.CopyOwn
namespace Go.Proofs.YtkahgjejebhgnaaDoor.Pure
set_option linter.unusedVariables false
set_option linter.unusedSimpArgs false
open Go Go.RowKit Go.Proofs.YtkahgjejebhgnaaDoor.PFnExactModeAll Go.Proofs.YtkahgjejebhgnaaDoorW.PrintWords Go.Proofs.YtkahgjejebhgnaaDoorW.PrintLast Go.Proofs.YtkahgjejebhgnaaDoorW.PrintMore

set_option maxHeartbeats 8000000 in
set_option maxRecDepth 100000 in
theorem impl_ModeIn_calls (m : List S55) (mode : Int) (A0 : Option Addr) (c0 : Nat) (w : World) (ht : MTab w) (hr0 : Kd.C k55 w A0 m.length m) (hc0 : m.length ≤ c0) (hm : m.length ≤ 1000000000000) :
    Calls Tryd.prog 63 #[.slice A0 m.length c0, .int .i64 mode] w fun e w' => e = .returned (.bool (mIn m mode)) ∧ Below w.heap.size w w' := by
  have HT := Aside0.mk ht
  have HR0 := Aside0.mk hr0
  have HC0 := Aside0.mk hc0
  clear ht hr0 hc0
  have hu := Tryd.underlying112
  have hu1 := Tryd.underlying55
  have hout : mIn m mode = (mSome m && (mOk mode && ((rd_T55 m ((m.length : Int) - 1)).f0 == (mRz mode).1 && (!(rd_T55 m ((m.length : Int) - 1)).f1 && (decide ((mRz mode).2.2.1 ≤ mlo (rd_T55 m 0).f0 m) && decide (mhi (rd_T55 m 0).f0 m ≤ (mRz mode).2.2.2)))))) := by
    unfold mIn mRz
    cases mOk mode <;> simp
  have hrange : mrange m = if mSome m = true then (mlo (rd_T55 m 0).f0 m, mhi (rd_T55 m 0).f0 m, true) else (0, 0, false) := rfl
  obtain ⟨a, b, c, d, hz⟩ : ∃ a b c d, mRz mode = (a, b, c, d) := ⟨_, _, _, _, rfl⟩
  rw [hz] at hout
  simp only [] at hout
  obtain ⟨lo, hi, so, hg⟩ : ∃ lo hi so, mrange m = (lo, hi, so) := ⟨_, _, _, rfl⟩
  have HA := Aside0.mk (show ∀ w, MTab w → Calls Tryd.prog 92 #[.int .i64 mode] w fun e w' => e = .returned (.tuple #[.agg #[.int .i64 a, .int .i64 b, .int .i64 c, .int .i64 d], .bool (mOk mode)]) ∧ Below w.heap.size w w' from fun w h => by have := impl_modeAt_calls mode w h; rw [hz] at this; exact this)
  have HM := Aside0.mk (show ∀ w, Kd.C k55 w A0 m.length m → Calls Tryd.prog 93 #[.slice A0 m.length c0] w fun e w' => e = .returned (.tuple #[.int .i64 lo, .int .i64 hi, .bool so]) ∧ Below w.heap.size w w' from fun w h => by have := impl_MelodyRange_calls m A0 c0 w h HC0.out hm; rw [hg] at this; exact this)
  obtain ⟨ok, hok⟩ : ∃ ok, ok = mOk mode := ⟨_, rfl⟩
  rw [← hok] at hout HA
  clear hok hz
  cases hs : mSome m
  · rw [hs] at hout hrange
    rw [hout]
    rw [hg] at hrange
    simp only [Bool.false_eq_true, if_false, Prod.mk.injEq] at hrange
    obtain ⟨rfl, rfl, rfl⟩ := hrange
    clear hout hs hg
    cases ok
    · go_enter Tryd.func63, Tryd.ntmps63
      go_wp2_with (first
        | (go_at_call 92; refine (HA.out _ HT.out).mono ?_; rintro e w1 ⟨rfl, hb1⟩)
        | (go_at_call 93; refine (HM.out _ (Kd.C_below HR0.out (below_alloc hb1 _))).mono ?_; rintro e w2 ⟨rfl, hb2⟩))
      go_ret
      exact ⟨rfl, below_step (below_alloc hb1 _) hb2⟩
    · go_enter Tryd.func63, Tryd.ntmps63
      go_wp2_with (first
        | (go_at_call 92; refine (HA.out _ HT.out).mono ?_; rintro e w1 ⟨rfl, hb1⟩)
        | (go_at_call 93; refine (HM.out _ (Kd.C_below HR0.out (below_alloc hb1 _))).mono ?_; rintro e w2 ⟨rfl, hb2⟩))
      go_ret
      exact ⟨rfl, below_step (below_alloc hb1 _) hb2⟩
  rw [hs] at hout hrange
  rw [hg] at hrange
  simp only [if_true, Prod.mk.injEq] at hrange
  obtain ⟨h1, h2, rfl⟩ := hrange
  rw [← h1, ← h2] at hout
  have h0 : 0 < m.length := by unfold mSome at hs; simp at hs; exact hs.2
  clear hs hg h1 h2
  cases ok
  · rw [hout]
    clear hout
    go_enter Tryd.func63, Tryd.ntmps63
    go_wp2_with (first
      | (go_at_call 92; refine (HA.out _ HT.out).mono ?_; rintro e w1 ⟨rfl, hb1⟩)
      | (go_at_call 93; refine (HM.out _ (Kd.C_below HR0.out (below_alloc hb1 _))).mono ?_; rintro e w2 ⟨rfl, hb2⟩))
    go_ret
    exact ⟨rfl, below_step (below_alloc hb1 _) hb2⟩
  obtain ⟨ad, e1, ux0, ux1⟩ := at_T55 HR0.out ((m.length : Int) - 1) (by omega) (by omega)
  subst e1
  obtain ⟨X, hX⟩ : ∃ X, X = rd_T55 m ((m.length : Int) - 1) := ⟨_, rfl⟩
  rw [← hX] at ux0 ux1 hout
  have en : ((m.length : Int) - 1).toNat = m.length - 1 := by omega
  rw [en] at ux0 ux1
  have U0 := Aside0.mk ux0
  have U1 := Aside0.mk ux1
  simp only [Bool.true_and] at hout
  have i1 := eq_true (show (m.length : Int) - 1 < (m.length : Int) by omega)
  have i2 := eq_true (show 0 ≤ (m.length : Int) - 1 by omega)
  clear hX ux0 ux1
  cases h1 : (X.f0 == a)
  · rw [hout, h1]
    clear hout
    simp only [Bool.false_and]
    go_enter Tryd.func63, Tryd.ntmps63
    go_wp2_with (first
      | (go_at_call 92; refine (HA.out _ HT.out).mono ?_; rintro e w1 ⟨rfl, hb1⟩)
      | (go_at_call 93; refine (HM.out _ (Kd.C_below HR0.out (below_alloc hb1 _))).mono ?_; rintro e w2 ⟨rfl, hb2⟩; have hq0 : (w2.alloc (Obj.cells #[.int .i64 X.f0, .bool X.f1] 55)).cell? ⟨w1.heap.size, 0, none⟩ = some (.int .i64 a) := pw_cell_below (below_alloc (Below.refl _ _) _) (pw_cell_below hb2 ((blk_cell (blk_new w1 _) 0).trans rfl)); have hq2 : (w2.alloc (Obj.cells #[.int .i64 X.f0, .bool X.f1] 55)).cell? ⟨w1.heap.size, 2, none⟩ = some (.int .i64 c) := pw_cell_below (below_alloc (Below.refl _ _) _) (pw_cell_below hb2 ((blk_cell (blk_new w1 _) 2).trans rfl)); have hq3 : (w2.alloc (Obj.cells #[.int .i64 X.f0, .bool X.f1] 55)).cell? ⟨w1.heap.size, 3, none⟩ = some (.int .i64 d) := pw_cell_below (below_alloc (Below.refl _ _) _) (pw_cell_below hb2 ((blk_cell (blk_new w1 _) 3).trans rfl)); have HB := Aside0.mk (below_step (below_alloc hb1 _) hb2); have hx0 := pw_cell_below (below_step (below_alloc hb1 _) hb2) U0.out; have hx1 := pw_cell_below (below_step (below_alloc hb1 _) hb2) U1.out))
    go_ret
    exact ⟨rfl, below_alloc HB.out _⟩
  cases h2 : X.f1
  · rw [h2] at U1
    by_cases h3 : c ≤ lo
    · have d3 : decide (c ≤ lo) = true := decide_eq_true h3
      by_cases h4 : hi ≤ d
      · have d4 : decide (hi ≤ d) = true := decide_eq_true h4
        have e : mIn m mode = true := by rw [hout, h1, h2, d3, d4]; rfl
        rw [e]
        clear hout h3 h4 e
        go_enter Tryd.func63, Tryd.ntmps63
        go_wp2_with (first
          | (go_at_call 92; refine (HA.out _ HT.out).mono ?_; rintro e w1 ⟨rfl, hb1⟩)
          | (go_at_call 93; refine (HM.out _ (Kd.C_below HR0.out (below_alloc hb1 _))).mono ?_; rintro e w2 ⟨rfl, hb2⟩; have hq0 : (w2.alloc (Obj.cells #[.int .i64 X.f0, .bool false] 55)).cell? ⟨w1.heap.size, 0, none⟩ = some (.int .i64 a) := pw_cell_below (below_alloc (Below.refl _ _) _) (pw_cell_below hb2 ((blk_cell (blk_new w1 _) 0).trans rfl)); have hq2 : (w2.alloc (Obj.cells #[.int .i64 X.f0, .bool false] 55)).cell? ⟨w1.heap.size, 2, none⟩ = some (.int .i64 c) := pw_cell_below (below_alloc (Below.refl _ _) _) (pw_cell_below hb2 ((blk_cell (blk_new w1 _) 2).trans rfl)); have hq3 : (w2.alloc (Obj.cells #[.int .i64 X.f0, .bool false] 55)).cell? ⟨w1.heap.size, 3, none⟩ = some (.int .i64 d) := pw_cell_below (below_alloc (Below.refl _ _) _) (pw_cell_below hb2 ((blk_cell (blk_new w1 _) 3).trans rfl)); have HB := Aside0.mk (below_step (below_alloc hb1 _) hb2); have hx0 := pw_cell_below (below_step (below_alloc hb1 _) hb2) U0.out; have hx1 := pw_cell_below (below_step (below_alloc hb1 _) hb2) U1.out))
        go_ret
        exact ⟨rfl, below_alloc HB.out _⟩
      · have d4 : decide (hi ≤ d) = false := decide_eq_false h4
        have e : mIn m mode = false := by rw [hout, h1, h2, d3, d4]; rfl
        rw [e]
        clear hout h3 h4 e
        go_enter Tryd.func63, Tryd.ntmps63
        go_wp2_with (first
          | (go_at_call 92; refine (HA.out _ HT.out).mono ?_; rintro e w1 ⟨rfl, hb1⟩)
          | (go_at_call 93; refine (HM.out _ (Kd.C_below HR0.out (below_alloc hb1 _))).mono ?_; rintro e w2 ⟨rfl, hb2⟩; have hq0 : (w2.alloc (Obj.cells #[.int .i64 X.f0, .bool false] 55)).cell? ⟨w1.heap.size, 0, none⟩ = some (.int .i64 a) := pw_cell_below (below_alloc (Below.refl _ _) _) (pw_cell_below hb2 ((blk_cell (blk_new w1 _) 0).trans rfl)); have hq2 : (w2.alloc (Obj.cells #[.int .i64 X.f0, .bool false] 55)).cell? ⟨w1.heap.size, 2, none⟩ = some (.int .i64 c) := pw_cell_below (below_alloc (Below.refl _ _) _) (pw_cell_below hb2 ((blk_cell (blk_new w1 _) 2).trans rfl)); have hq3 : (w2.alloc (Obj.cells #[.int .i64 X.f0, .bool false] 55)).cell? ⟨w1.heap.size, 3, none⟩ = some (.int .i64 d) := pw_cell_below (below_alloc (Below.refl _ _) _) (pw_cell_below hb2 ((blk_cell (blk_new w1 _) 3).trans rfl)); have HB := Aside0.mk (below_step (below_alloc hb1 _) hb2); have hx0 := pw_cell_below (below_step (below_alloc hb1 _) hb2) U0.out; have hx1 := pw_cell_below (below_step (below_alloc hb1 _) hb2) U1.out))
        go_ret
        exact ⟨rfl, below_alloc HB.out _⟩
    · have d3 : decide (c ≤ lo) = false := decide_eq_false h3
      have e : mIn m mode = false := by rw [hout, h1, h2, d3]; rfl
      rw [e]
      clear hout h3 e
      go_enter Tryd.func63, Tryd.ntmps63
      go_wp2_with (first
        | (go_at_call 92; refine (HA.out _ HT.out).mono ?_; rintro e w1 ⟨rfl, hb1⟩)
        | (go_at_call 93; refine (HM.out _ (Kd.C_below HR0.out (below_alloc hb1 _))).mono ?_; rintro e w2 ⟨rfl, hb2⟩; have hq0 : (w2.alloc (Obj.cells #[.int .i64 X.f0, .bool false] 55)).cell? ⟨w1.heap.size, 0, none⟩ = some (.int .i64 a) := pw_cell_below (below_alloc (Below.refl _ _) _) (pw_cell_below hb2 ((blk_cell (blk_new w1 _) 0).trans rfl)); have hq2 : (w2.alloc (Obj.cells #[.int .i64 X.f0, .bool false] 55)).cell? ⟨w1.heap.size, 2, none⟩ = some (.int .i64 c) := pw_cell_below (below_alloc (Below.refl _ _) _) (pw_cell_below hb2 ((blk_cell (blk_new w1 _) 2).trans rfl)); have hq3 : (w2.alloc (Obj.cells #[.int .i64 X.f0, .bool false] 55)).cell? ⟨w1.heap.size, 3, none⟩ = some (.int .i64 d) := pw_cell_below (below_alloc (Below.refl _ _) _) (pw_cell_below hb2 ((blk_cell (blk_new w1 _) 3).trans rfl)); have HB := Aside0.mk (below_step (below_alloc hb1 _) hb2); have hx0 := pw_cell_below (below_step (below_alloc hb1 _) hb2) U0.out; have hx1 := pw_cell_below (below_step (below_alloc hb1 _) hb2) U1.out))
      go_ret
      exact ⟨rfl, below_alloc HB.out _⟩
  · rw [h2] at U1
    have e : mIn m mode = false := by rw [hout, h1, h2]; rfl
    rw [e]
    clear hout e
    go_enter Tryd.func63, Tryd.ntmps63
    go_wp2_with (first
      | (go_at_call 92; refine (HA.out _ HT.out).mono ?_; rintro e w1 ⟨rfl, hb1⟩)
      | (go_at_call 93; refine (HM.out _ (Kd.C_below HR0.out (below_alloc hb1 _))).mono ?_; rintro e w2 ⟨rfl, hb2⟩; have hq0 : (w2.alloc (Obj.cells #[.int .i64 X.f0, .bool true] 55)).cell? ⟨w1.heap.size, 0, none⟩ = some (.int .i64 a) := pw_cell_below (below_alloc (Below.refl _ _) _) (pw_cell_below hb2 ((blk_cell (blk_new w1 _) 0).trans rfl)); have hq2 : (w2.alloc (Obj.cells #[.int .i64 X.f0, .bool true] 55)).cell? ⟨w1.heap.size, 2, none⟩ = some (.int .i64 c) := pw_cell_below (below_alloc (Below.refl _ _) _) (pw_cell_below hb2 ((blk_cell (blk_new w1 _) 2).trans rfl)); have hq3 : (w2.alloc (Obj.cells #[.int .i64 X.f0, .bool true] 55)).cell? ⟨w1.heap.size, 3, none⟩ = some (.int .i64 d) := pw_cell_below (below_alloc (Below.refl _ _) _) (pw_cell_below hb2 ((blk_cell (blk_new w1 _) 3).trans rfl)); have HB := Aside0.mk (below_step (below_alloc hb1 _) hb2); have hx0 := pw_cell_below (below_step (below_alloc hb1 _) hb2) U0.out; have hx1 := pw_cell_below (below_step (below_alloc hb1 _) hb2) U1.out))
    go_ret
    exact ⟨rfl, below_alloc HB.out _⟩

end Go.Proofs.YtkahgjejebhgnaaDoor.Pure
