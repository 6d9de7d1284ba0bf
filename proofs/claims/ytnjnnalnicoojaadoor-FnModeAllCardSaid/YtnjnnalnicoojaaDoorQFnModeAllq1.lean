/- Lemmas on the printed functions for the law FnModeAll. -/
import Derived.Test.YtnjnnalnicoojaaDoorQFnModeAllq0
import Derived.Deep.RegionHeld3
import Derived.BigRegion
import Derived.Deep.Slices
import Derived.Laws.CopyOwn
namespace Go.Proofs.YtnjnnalnicoojaaDoor.Pure
set_option linter.unusedVariables false
set_option linter.unusedSimpArgs false
open Go Go.RowKit Go.Proofs.YtnjnnalnicoojaaDoor.PFnModeAll Go.Proofs.YtnjnnalnicoojaaDoorW.PrintWords Go.Proofs.YtnjnnalnicoojaaDoorW.PrintLast Go.Proofs.YtnjnnalnicoojaaDoorW.PrintMore

theorem drawModeAll_ev (l0 : List Int) (hw : ∀ x ∈ l0, (Lit.int .u8 x).wf = true) :
    Evx (fun k => spec_DrawModeAll.f k l0) (fun r => r.length ≤ 1000) := by
  obtain ⟨s, hs, hc⟩ := open_ev l0 hw
  unfold spec_DrawModeAll.f
  refine Evx.conb hs (Evx.bind (drawChant_ev hc 0 (by omega) (by omega)) ?_)
  rintro ⟨m, q⟩ ⟨h1, _, _⟩
  have h1 : (m.length : Int) ≤ 8 := h1
  exact Evx.now (by show m.length ≤ 1000; omega)
theorem sameInts_ev (l : List Int) (hl : l.length ≤ 1000000000000000) : Ev (fun k => laws_sameInts.f k l l) true := by
  unfold laws_sameInts.f
  refine Ev.pos rfl ?_
  have := Ev.over (0 : Int) l (fun k (_ : Unit) i => laws_sameInts.l0 k l l i) (fun _ _ => true) (fun _ _ => True) (by
    intro s _
    refine Ev.succ ?_
    simp only [laws_sameInts.l0]
    exact Ev.neg (by omega) (Ev.now _)) (by
    intro s i rest _ hi _ ih
    refine Ev.succ ?_
    simp only [laws_sameInts.l0]
    refine Ev.pos (by omega) (Ev.pos (by omega) (Ev.pos (by omega) (Ev.pos (by simp) ?_)))
    rw [w64 (by omega) (by omega)]
    exact ih () trivial) 0 () (Nat.zero_le _) trivial
  simpa using this
theorem mIn_final {m : List S29} {mode : Int} (h : mIn m mode = true) : mOk mode = true ∧ (rd_T29 m ((m.length : Int) - 1)).f0 = (mRow mode).1 := by
  unfold mIn at h
  simp only [Bool.and_eq_true, beq_iff_eq] at h
  exact ⟨h.2.1, h.2.2.1⟩
theorem mUp_shape (m : List S29) : mUp m 8 = [] ∨ (∃ x, mUp m 8 = [x] ∧ 1 ≤ x ∧ x ≤ 8) ∨ (∃ x, mUp m 8 = [x, x + 1] ∧ (x = 1 ∨ x = 3 ∨ x = 5 ∨ x = 7)) := by
  have hf : ∀ i : Int, mIn m i = true → (rd_T29 m ((m.length : Int) - 1)).f0 = (mRow i).1 := fun i h => (mIn_final h).2
  generalize (rd_T29 m ((m.length : Int) - 1)).f0 = F at hf
  have f1 := hf 1; have f2 := hf 2; have f3 := hf 3; have f4 := hf 4; have f5 := hf 5; have f6 := hf 6; have f7 := hf 7; have f8 := hf 8
  have e1 : (mRow 1).1 = 4 := rfl
  have e2 : (mRow 2).1 = 4 := rfl
  have e3 : (mRow 3).1 = 5 := rfl
  have e4 : (mRow 4).1 = 5 := rfl
  have e5 : (mRow 5).1 = 6 := rfl
  have e6 : (mRow 6).1 = 6 := rfl
  have e7 : (mRow 7).1 = 7 := rfl
  have e8 : (mRow 8).1 = 7 := rfl
  rw [e1] at f1; rw [e2] at f2; rw [e3] at f3; rw [e4] at f4; rw [e5] at f5; rw [e6] at f6; rw [e7] at f7; rw [e8] at f8
  have eu : mUp m 8 = (((((((([] ++ if mIn m 1 then [1] else []) ++ if mIn m 2 then [2] else []) ++ if mIn m 3 then [3] else []) ++ if mIn m 4 then [4] else []) ++ if mIn m 5 then [5] else []) ++ if mIn m 6 then [6] else []) ++ if mIn m 7 then [7] else []) ++ if mIn m 8 then [8] else []) := by
    have st : ∀ n : Nat, mUp m (n + 1) = mUp m n ++ if mIn m ((n : Int) + 1) = true then [(n : Int) + 1] else [] := fun n => by
      simp only [mUp]
      split <;> simp
    rw [st 7, st 6, st 5, st 4, st 3, st 2, st 1, st 0]
    rfl
  rw [eu]
  clear hf eu
  by_cases h4 : F = 4
  · have g3 : mIn m 3 = false := Bool.eq_false_iff.2 (fun h => by have := f3 h; omega)
    have g4 : mIn m 4 = false := Bool.eq_false_iff.2 (fun h => by have := f4 h; omega)
    have g5 : mIn m 5 = false := Bool.eq_false_iff.2 (fun h => by have := f5 h; omega)
    have g6 : mIn m 6 = false := Bool.eq_false_iff.2 (fun h => by have := f6 h; omega)
    have g7 : mIn m 7 = false := Bool.eq_false_iff.2 (fun h => by have := f7 h; omega)
    have g8 : mIn m 8 = false := Bool.eq_false_iff.2 (fun h => by have := f8 h; omega)
    rw [g3, g4, g5, g6, g7, g8]
    cases mIn m 1 <;> cases mIn m 2
    · exact .inl rfl
    · exact .inr (.inl ⟨2, rfl, by omega, by omega⟩)
    · exact .inr (.inl ⟨1, rfl, by omega, by omega⟩)
    · exact .inr (.inr ⟨1, rfl, by omega⟩)
  have g1 : mIn m 1 = false := Bool.eq_false_iff.2 (fun h => by have := f1 h; omega)
  have g2 : mIn m 2 = false := Bool.eq_false_iff.2 (fun h => by have := f2 h; omega)
  rw [g1, g2]
  by_cases h5 : F = 5
  · have g5 : mIn m 5 = false := Bool.eq_false_iff.2 (fun h => by have := f5 h; omega)
    have g6 : mIn m 6 = false := Bool.eq_false_iff.2 (fun h => by have := f6 h; omega)
    have g7 : mIn m 7 = false := Bool.eq_false_iff.2 (fun h => by have := f7 h; omega)
    have g8 : mIn m 8 = false := Bool.eq_false_iff.2 (fun h => by have := f8 h; omega)
    rw [g5, g6, g7, g8]
    cases mIn m 3 <;> cases mIn m 4
    · exact .inl rfl
    · exact .inr (.inl ⟨4, rfl, by omega, by omega⟩)
    · exact .inr (.inl ⟨3, rfl, by omega, by omega⟩)
    · exact .inr (.inr ⟨3, rfl, by omega⟩)
  have g3 : mIn m 3 = false := Bool.eq_false_iff.2 (fun h => by have := f3 h; omega)
  have g4 : mIn m 4 = false := Bool.eq_false_iff.2 (fun h => by have := f4 h; omega)
  rw [g3, g4]
  by_cases h6 : F = 6
  · have g7 : mIn m 7 = false := Bool.eq_false_iff.2 (fun h => by have := f7 h; omega)
    have g8 : mIn m 8 = false := Bool.eq_false_iff.2 (fun h => by have := f8 h; omega)
    rw [g7, g8]
    cases mIn m 5 <;> cases mIn m 6
    · exact .inl rfl
    · exact .inr (.inl ⟨6, rfl, by omega, by omega⟩)
    · exact .inr (.inl ⟨5, rfl, by omega, by omega⟩)
    · exact .inr (.inr ⟨5, rfl, by omega⟩)
  have g5 : mIn m 5 = false := Bool.eq_false_iff.2 (fun h => by have := f5 h; omega)
  have g6 : mIn m 6 = false := Bool.eq_false_iff.2 (fun h => by have := f6 h; omega)
  rw [g5, g6]
  cases mIn m 7 <;> cases mIn m 8
  · exact .inl rfl
  · exact .inr (.inl ⟨8, rfl, by omega, by omega⟩)
  · exact .inr (.inl ⟨7, rfl, by omega, by omega⟩)
  · exact .inr (.inr ⟨7, rfl, by omega⟩)
theorem mUp_pre (m : List S29) : ∀ d n : Nat, ∃ t, mUp m (n + d) = mUp m n ++ t
  | 0, n => ⟨[], by simp⟩
  | d + 1, n => by
    obtain ⟨t, ht⟩ := mUp_pre m d n
    show ∃ t, mUp m (n + d + 1) = _
    simp only [mUp]
    split
    · exact ⟨t ++ [((n + d : Nat) : Int) + 1], by rw [ht, List.append_assoc]⟩
    · exact ⟨t, ht⟩
/-- Where mode i is in, it stands in the list behind those before it. -/
theorem mUp_at (m : List S29) {i : Nat} (hi : i < 8) (h : mIn m ((i : Int) + 1) = true) : (mUp m i).length < (mUp m 8).length ∧ rd (mUp m 8) ((mUp m i).length : Int) = (i : Int) + 1 := by
  obtain ⟨t, ht⟩ := mUp_pre m (8 - (i + 1)) (i + 1)
  have e : i + 1 + (8 - (i + 1)) = 8 := by omega
  rw [e] at ht
  have hs : mUp m (i + 1) = mUp m i ++ [(i : Int) + 1] := by simp only [mUp]; rw [if_pos h]
  rw [hs] at ht
  rw [ht]
  refine ⟨by simp, ?_⟩
  simp [rd]
def mPair (mode : Int) : Int := if mOk mode = true then (if Int.tmod mode 2 = 1 then mode + 1 else mode - 1) else -1

/-! the table of the modes, and modeAt -/
def mCells : Array Value := #[.int .i64 4, .int .i64 8, .int .i64 3, .int .i64 12, .int .i64 4, .int .i64 6, .int .i64 0, .int .i64 9, .int .i64 5, .int .i64 10, .int .i64 4, .int .i64 13, .int .i64 5, .int .i64 8, .int .i64 1, .int .i64 10, .int .i64 6, .int .i64 10, .int .i64 5, .int .i64 14, .int .i64 6, .int .i64 8, .int .i64 2, .int .i64 11, .int .i64 7, .int .i64 11, .int .i64 6, .int .i64 15, .int .i64 7, .int .i64 10, .int .i64 3, .int .i64 12]
def MTab (w : World) : Prop := ∃ t fz, w.heap[0]? = some (.cells mCells t fz)
theorem MTab.below {w w' : World} (h : MTab w) (hb : Below w.heap.size w w') : MTab w' := by
  obtain ⟨t, fz, h⟩ := h
  exact ⟨t, fz, (hb.block _ (blk_lt h)).trans h⟩
theorem MTab.cell {w : World} (h : MTab w) (i : Nat) : w.cell? ⟨0, i, none⟩ = mCells[i]? := by
  obtain ⟨t, fz, h⟩ := h
  exact cell_of_row w _ i mCells t fz h
def mRz (mode : Int) : Int × Int × Int × Int := if mOk mode = true then mRow mode else (0, 0, 0, 0)
set_option maxHeartbeats 4000000 in
set_option maxRecDepth 100000 in
theorem impl_modeAt_calls (mode : Int) (w : World) (ht : MTab w) :
    Calls Tryd.prog 18 #[.int .i64 mode] w fun e w' => e = .returned (.tuple #[.agg #[.int .i64 (mRz mode).1, .int .i64 (mRz mode).2.1, .int .i64 (mRz mode).2.2.1, .int .i64 (mRz mode).2.2.2], .bool (mOk mode)]) ∧ Below w.heap.size w w' := by
  have hu := Tryd.underlying40
  by_cases h1 : mode < 1
  · have d1 : decide (mode < 1) = true := decide_eq_true h1
    have e : mOk mode = false := decide_eq_false (by omega)
    have ez : mRz mode = (0, 0, 0, 0) := by unfold mRz; rw [e]; rfl
    rw [e, ez]
    clear h1 e ez
    go_enter Tryd.func18, Tryd.ntmps18
    go_wp2
    (try simp only [Exit.inBlock, Exit.then])
    refine bodyPost_ret (results_ct rfl _ _ w.heap.size 40 #[.int .i64 0, .int .i64 0, .int .i64 0, .int .i64 0] (0, 0) _ rfl (blk_new w _) Tryd.underlying40 rfl (by kernel_rfl)) rfl ?_
    exact ⟨rfl, below_alloc (Below.refl _ _) _⟩
  have d1 : decide (mode < 1) = false := decide_eq_false h1
  by_cases h2 : mode > 8
  · have d2 : decide (8 < mode) = true := decide_eq_true h2
    have e : mOk mode = false := decide_eq_false (by omega)
    have ez : mRz mode = (0, 0, 0, 0) := by unfold mRz; rw [e]; rfl
    rw [e, ez]
    clear h1 h2 e ez
    go_enter Tryd.func18, Tryd.ntmps18
    go_wp2
    (try simp only [Exit.inBlock, Exit.then])
    refine bodyPost_ret (results_ct rfl _ _ w.heap.size 40 #[.int .i64 0, .int .i64 0, .int .i64 0, .int .i64 0] (0, 0) _ rfl (blk_new w _) Tryd.underlying40 rfl (by kernel_rfl)) rfl ?_
    exact ⟨rfl, below_alloc (Below.refl _ _) _⟩
  have e : mOk mode = true := decide_eq_true (by omega)
  have hc := mOk_cases e
  have ez : mRz mode = mRow mode := by unfold mRz; rw [e]; rfl
  rw [e, ez]
  clear h1 h2 d1 e ez
  have hn := fun (i : Nat) (v : Value) (h : w.cell? ⟨0, i, none⟩ = some v) => pw_cell_below (below_alloc (Below.refl w.heap.size w) (.cells #[.int .i64 0, .int .i64 0, .int .i64 0, .int .i64 0] 40 (0, 0))) h
  rcases hc with rfl | rfl | rfl | rfl | rfl | rfl | rfl | rfl
  · have c0 := hn 0 (.int .i64 4) ((ht.cell 0).trans rfl)
    have c1 := hn 1 (.int .i64 8) ((ht.cell 1).trans rfl)
    have c2 := hn 2 (.int .i64 3) ((ht.cell 2).trans rfl)
    have c3 := hn 3 (.int .i64 12) ((ht.cell 3).trans rfl)
    clear hn
    go_enter Tryd.func18, Tryd.ntmps18
    go_wp2
    (try simp only [Exit.inBlock, Exit.then])
    refine bodyPost_ret (results_ct rfl _ _ w.heap.size 40 #[.int .i64 4, .int .i64 8, .int .i64 3, .int .i64 12] (0, 0) _ rfl (blk_new w _) Tryd.underlying40 rfl (by kernel_rfl)) rfl ?_
    exact ⟨rfl, below_alloc (Below.refl _ _) _⟩
  · have c0 := hn 4 (.int .i64 4) ((ht.cell 4).trans rfl)
    have c1 := hn 5 (.int .i64 6) ((ht.cell 5).trans rfl)
    have c2 := hn 6 (.int .i64 0) ((ht.cell 6).trans rfl)
    have c3 := hn 7 (.int .i64 9) ((ht.cell 7).trans rfl)
    clear hn
    go_enter Tryd.func18, Tryd.ntmps18
    go_wp2
    (try simp only [Exit.inBlock, Exit.then])
    refine bodyPost_ret (results_ct rfl _ _ w.heap.size 40 #[.int .i64 4, .int .i64 6, .int .i64 0, .int .i64 9] (0, 0) _ rfl (blk_new w _) Tryd.underlying40 rfl (by kernel_rfl)) rfl ?_
    exact ⟨rfl, below_alloc (Below.refl _ _) _⟩
  · have c0 := hn 8 (.int .i64 5) ((ht.cell 8).trans rfl)
    have c1 := hn 9 (.int .i64 10) ((ht.cell 9).trans rfl)
    have c2 := hn 10 (.int .i64 4) ((ht.cell 10).trans rfl)
    have c3 := hn 11 (.int .i64 13) ((ht.cell 11).trans rfl)
    clear hn
    go_enter Tryd.func18, Tryd.ntmps18
    go_wp2
    (try simp only [Exit.inBlock, Exit.then])
    refine bodyPost_ret (results_ct rfl _ _ w.heap.size 40 #[.int .i64 5, .int .i64 10, .int .i64 4, .int .i64 13] (0, 0) _ rfl (blk_new w _) Tryd.underlying40 rfl (by kernel_rfl)) rfl ?_
    exact ⟨rfl, below_alloc (Below.refl _ _) _⟩
  · have c0 := hn 12 (.int .i64 5) ((ht.cell 12).trans rfl)
    have c1 := hn 13 (.int .i64 8) ((ht.cell 13).trans rfl)
    have c2 := hn 14 (.int .i64 1) ((ht.cell 14).trans rfl)
    have c3 := hn 15 (.int .i64 10) ((ht.cell 15).trans rfl)
    clear hn
    go_enter Tryd.func18, Tryd.ntmps18
    go_wp2
    (try simp only [Exit.inBlock, Exit.then])
    refine bodyPost_ret (results_ct rfl _ _ w.heap.size 40 #[.int .i64 5, .int .i64 8, .int .i64 1, .int .i64 10] (0, 0) _ rfl (blk_new w _) Tryd.underlying40 rfl (by kernel_rfl)) rfl ?_
    exact ⟨rfl, below_alloc (Below.refl _ _) _⟩
  · have c0 := hn 16 (.int .i64 6) ((ht.cell 16).trans rfl)
    have c1 := hn 17 (.int .i64 10) ((ht.cell 17).trans rfl)
    have c2 := hn 18 (.int .i64 5) ((ht.cell 18).trans rfl)
    have c3 := hn 19 (.int .i64 14) ((ht.cell 19).trans rfl)
    clear hn
    go_enter Tryd.func18, Tryd.ntmps18
    go_wp2
    (try simp only [Exit.inBlock, Exit.then])
    refine bodyPost_ret (results_ct rfl _ _ w.heap.size 40 #[.int .i64 6, .int .i64 10, .int .i64 5, .int .i64 14] (0, 0) _ rfl (blk_new w _) Tryd.underlying40 rfl (by kernel_rfl)) rfl ?_
    exact ⟨rfl, below_alloc (Below.refl _ _) _⟩
  · have c0 := hn 20 (.int .i64 6) ((ht.cell 20).trans rfl)
    have c1 := hn 21 (.int .i64 8) ((ht.cell 21).trans rfl)
    have c2 := hn 22 (.int .i64 2) ((ht.cell 22).trans rfl)
    have c3 := hn 23 (.int .i64 11) ((ht.cell 23).trans rfl)
    clear hn
    go_enter Tryd.func18, Tryd.ntmps18
    go_wp2
    (try simp only [Exit.inBlock, Exit.then])
    refine bodyPost_ret (results_ct rfl _ _ w.heap.size 40 #[.int .i64 6, .int .i64 8, .int .i64 2, .int .i64 11] (0, 0) _ rfl (blk_new w _) Tryd.underlying40 rfl (by kernel_rfl)) rfl ?_
    exact ⟨rfl, below_alloc (Below.refl _ _) _⟩
  · have c0 := hn 24 (.int .i64 7) ((ht.cell 24).trans rfl)
    have c1 := hn 25 (.int .i64 11) ((ht.cell 25).trans rfl)
    have c2 := hn 26 (.int .i64 6) ((ht.cell 26).trans rfl)
    have c3 := hn 27 (.int .i64 15) ((ht.cell 27).trans rfl)
    clear hn
    go_enter Tryd.func18, Tryd.ntmps18
    go_wp2
    (try simp only [Exit.inBlock, Exit.then])
    refine bodyPost_ret (results_ct rfl _ _ w.heap.size 40 #[.int .i64 7, .int .i64 11, .int .i64 6, .int .i64 15] (0, 0) _ rfl (blk_new w _) Tryd.underlying40 rfl (by kernel_rfl)) rfl ?_
    exact ⟨rfl, below_alloc (Below.refl _ _) _⟩
  · have c0 := hn 28 (.int .i64 7) ((ht.cell 28).trans rfl)
    have c1 := hn 29 (.int .i64 10) ((ht.cell 29).trans rfl)
    have c2 := hn 30 (.int .i64 3) ((ht.cell 30).trans rfl)
    have c3 := hn 31 (.int .i64 12) ((ht.cell 31).trans rfl)
    clear hn
    go_enter Tryd.func18, Tryd.ntmps18
    go_wp2
    (try simp only [Exit.inBlock, Exit.then])
    refine bodyPost_ret (results_ct rfl _ _ w.heap.size 40 #[.int .i64 7, .int .i64 10, .int .i64 3, .int .i64 12] (0, 0) _ rfl (blk_new w _) Tryd.underlying40 rfl (by kernel_rfl)) rfl ?_
    exact ⟨rfl, below_alloc (Below.refl _ _) _⟩

set_option maxHeartbeats 4000000 in
set_option maxRecDepth 100000 in
theorem impl_ModePair_calls (mode : Int) (w : World) (ht : MTab w) :
    Calls Tryd.prog 13 #[.int .i64 mode] w fun e w' => e = .returned (.int .i64 (mPair mode)) ∧ Below w.heap.size w w' := by
  have HT := Aside0.mk ht
  clear ht
  have hu := Tryd.underlying40
  obtain ⟨a, b, c, d, hz⟩ : ∃ a b c d, mRz mode = (a, b, c, d) := ⟨_, _, _, _, rfl⟩
  have HA := Aside0.mk (show ∀ w, MTab w → Calls Tryd.prog 18 #[.int .i64 mode] w fun e w' => e = .returned (.tuple #[.agg #[.int .i64 a, .int .i64 b, .int .i64 c, .int .i64 d], .bool (mOk mode)]) ∧ Below w.heap.size w w' from fun w h => by have := impl_modeAt_calls mode w h; rw [hz] at this; exact this)
  clear hz
  cases hok : mOk mode
  · have e : mPair mode = -1 := by unfold mPair; rw [hok]; rfl
    rw [e]
    rw [hok] at HA
    clear e hok
    go_enter Tryd.func13, Tryd.ntmps13
    go_wp2_with (go_at_call 18; refine (HA.out _ HT.out).mono ?_; rintro e w1 ⟨rfl, hb1⟩)
    go_ret
    exact ⟨rfl, below_alloc hb1 _⟩
  · rw [hok] at HA
    rcases mOk_cases hok with rfl | rfl | rfl | rfl | rfl | rfl | rfl | rfl
    all_goals
      clear hok
      go_enter Tryd.func13, Tryd.ntmps13
      go_wp2_with (go_at_call 18; refine (HA.out _ HT.out).mono ?_; rintro e w1 ⟨rfl, hb1⟩)
      go_ret
      exact ⟨rfl, below_alloc hb1 _⟩

/-! a linked melody -/
def Lk (w : World) (B : Nat) : Value → List S29 → Prop
  | v, [] => v = .pointer none
  | v, x :: xs => ∃ b nx, v = .pointer (some ⟨b, 0, none⟩) ∧ B ≤ b ∧ w.heap[b]? = some (.cells #[.int .i64 x.f0, .bool x.f1, nx] 54 (0, 0)) ∧ Lk w B nx xs
theorem Lk.below {w w' : World} {B : Nat} (hb : Below w.heap.size w w') : ∀ {xs : List S29} {v : Value}, Lk w B v xs → Lk w' B v xs
  | [], _, h => h
  | x :: xs, _, ⟨b, nx, h1, h2, h3, h4⟩ => ⟨b, nx, h1, h2, (hb.block _ (blk_lt h3)).trans h3, Lk.below hb h4⟩
theorem Lk.ptr {w : World} {B : Nat} : ∀ {xs : List S29} {v : Value}, Lk w B v xs → ∃ p, v = .pointer p
  | [], _, h => ⟨_, h⟩
  | x :: xs, _, ⟨b, nx, h1, _⟩ => ⟨_, h1⟩
set_option maxHeartbeats 4000000 in
set_option maxRecDepth 100000 in
theorem impl_linked_calls (m : List S29) (A0 : Option Addr) (c0 : Nat) (w : World) (hr0 : Kd.C k29 w A0 m.length m) (hc0 : m.length ≤ c0) (hm : m.length ≤ 1000000000000) :
    Calls Tryd.prog 26 #[.slice A0 m.length c0] w fun e w' => ∃ v, e = .returned v ∧ Lk w' w.heap.size v m ∧ Below w.heap.size w w' := by
  have HR0 := Aside0.mk hr0
  have HC0 := Aside0.mk hc0
  clear hr0 hc0
  have hu := Tryd.underlying54
  have hu1 := Tryd.underlying29
  go_enter Tryd.func26, Tryd.ntmps26
  go_wp2
  go_loopg [3, 4] m.length (fun kq v3 v4 w' => ∃ (i : Int), v4 = .int .i64 i ∧ Aside0 (kq = (i + 1).toNat ∧ -1 ≤ i ∧ i < (m.length : Int)) ∧ Aside0 (Lk w' w.heap.size v3 (m.drop (i + 1).toNat)) ∧ Aside0 (Below w.heap.size w w'))
  case atStart =>
    have e : ((m.length : Int) - 1 + 1).toNat = m.length := by omega
    have hL : Lk w w.heap.size (.pointer none) (m.drop ((m.length : Int) - 1 + 1).toNat) := by rw [e, List.drop_length]; rfl
    exact ⟨(m.length : Int) - 1, rfl, ⟨by omega, by omega, by omega⟩, ⟨hL⟩, ⟨by repeat (first | exact Below.refl _ _ | apply below_alloc | apply pw_below_drewN | apply below_drew1)⟩⟩
  case round =>
    obtain ⟨i, rfl, HX, HL, HB⟩ := hrel
    obtain ⟨hk, hi0, hi1⟩ := HX.out
    obtain ⟨p, rfl⟩ := HL.out.ptr
    by_cases h : 0 ≤ i
    · have d1 : decide (0 ≤ i) = true := decide_eq_true h
      obtain ⟨ad, e1, ux0, ux1⟩ := at_T29 HR0.out i h hi1
      subst e1
      have hx0 := (HB.out.cell (World.block_lt_of_cell? w _ ux0)).trans ux0
      have hx1 := (HB.out.cell (World.block_lt_of_cell? w _ ux1)).trans ux1
      obtain ⟨X, hX⟩ : ∃ X, X = rd_T29 m i := ⟨_, rfl⟩
      rw [← hX] at hx0 hx1
      have hdr : Aside0 (m.drop (i - 1 + 1).toNat = X :: m.drop (i + 1).toNat) := by
        have e0 : (i - 1 + 1).toNat = i.toNat := by omega
        have e1 : (i + 1).toNat = i.toNat + 1 := by omega
        refine ⟨?_⟩
        rw [e0, e1, List.drop_eq_getElem_cons (by omega), hX]
        unfold rd_T29
        rw [List.getD_eq_getElem?_getD, List.getElem?_eq_getElem (by omega)]; rfl
      have NX : Aside0 ((i - 1 + 1).toNat < gk ∧ -1 ≤ i - 1 ∧ i - 1 < (m.length : Int)) := ⟨by omega, by omega, by omega⟩
      have j0 := eq_true h
      have j1 := eq_true hi1
      clear hX ux0 ux1 hk
      go_wp2_with ((with_reducible refine gate_dst (N := 18) rfl ?_); refine box_event ?hg (N := 18) ?hd (cs := #[.int .i64 X.f0, .bool X.f1, .pointer p]) (t := 54) ?hr ?_; (case hd => rfl); (case hg => rfl); (case hr => first | (go_simp; done) | (go_simp; rfl)); intro gb hg w3 hbox hb3; have HBX := Aside0.mk hbox; have HL3 := Aside0.mk (HL.out.below hb3); have HB3 := Aside0.mk (below_step HB.out hb3); have GW := Aside0.mk (show w.heap.size ≤ gb from (by rw [hg]; exact HB.out.size)); clear hg hbox hb3)
      go_roundg ((i - 1 + 1).toNat)
      case measure => exact NX.out.1
      case rel => exact ⟨i - 1, rfl, ⟨rfl, NX.out.2⟩, ⟨by rw [hdr.out]; exact ⟨gb, _, rfl, GW.out, HBX.out, HL3.out⟩⟩, HB3⟩
    · have d1 : decide (0 ≤ i) = false := decide_eq_false h
      obtain rfl : i = -1 := by omega
      have HL' := HL.out
      go_wp2
      go_ret
      exact ⟨_, rfl, HL', HB.out⟩

theorem mlo_step {a v : Int} {x : S29} {xs : List S29} {r : Int} (h : mlo a (x :: xs) = r) (hv : (v = a ∧ a ≤ x.f0) ∨ (v = x.f0 ∧ x.f0 ≤ a)) : mlo v xs = r := by
  have := mn_le a x.f0
  have e : v = mn a x.f0 := by omega
  rw [e]; exact h
theorem mhi_step {a v : Int} {x : S29} {xs : List S29} {r : Int} (h : mhi a (x :: xs) = r) (hv : (v = a ∧ x.f0 ≤ a) ∨ (v = x.f0 ∧ a ≤ x.f0)) : mhi v xs = r := by
  have := mx_le a x.f0
  have e : v = mx a x.f0 := by omega
  rw [e]; exact h
attribute [local go_sem] max2_int min2_int max_two min_two max_three min_three max_four min_four
set_option maxHeartbeats 4000000 in
set_option maxRecDepth 100000 in
theorem impl_MelodyRange_calls (m : List S29) (A0 : Option Addr) (c0 : Nat) (w : World) (hr0 : Kd.C k29 w A0 m.length m) (hc0 : m.length ≤ c0) (hm : m.length ≤ 1000000000000) :
    Calls Tryd.prog 19 #[.slice A0 m.length c0] w fun e w' => e = .returned (.tuple #[.int .i64 (mrange m).1, .int .i64 (mrange m).2.1, .bool (mrange m).2.2]) ∧ Below w.heap.size w w' := by
  obtain ⟨kk, hv⟩ := Ev.rounds (impl_MelodyValid_ev m)
  have HR0 := Aside0.mk hr0
  have HC0 := Aside0.mk hc0
  have HV := Aside0.mk hv
  clear hr0 hc0 hv
  cases hok : melOk m
  · have e : mrange m = (0, 0, false) := by unfold mrange mSome; rw [hok]; rfl
    rw [e]
    rw [hok] at HV
    clear hok e
    go_enter Tryd.func19, Tryd.ntmps19
    go_wp2_with (go_at_call 25; refine (impl_MelodyValid.calls kk _ _ m false _ HR0.out HC0.out HV.out).mono ?_; rintro e w1 ⟨rfl, hb1⟩)
    go_ret3
    exact ⟨rfl, hb1⟩
  rw [hok] at HV
  by_cases h0 : 0 < m.length
  · have e : mrange m = (mlo (rd_T29 m 0).f0 m, mhi (rd_T29 m 0).f0 m, true) := by unfold mrange mSome; rw [hok, decide_eq_true h0]; rfl
    rw [e]
    have hne : ((m.length : Int) == 0) = false := by rw [beq_eq_false_iff_ne]; omega
    have hne' : (m.length == 0) = false := by rw [beq_eq_false_iff_ne]; omega
    obtain ⟨LO, hLO⟩ : ∃ x, x = mlo (rd_T29 m 0).f0 m := ⟨_, rfl⟩
    obtain ⟨HI, hHI⟩ : ∃ x, x = mhi (rd_T29 m 0).f0 m := ⟨_, rfl⟩
    rw [← hLO, ← hHI]
    have HX := Aside0.mk (And.intro hLO hHI)
    obtain ⟨ad, e1, ux0, ux1⟩ := at_T29 HR0.out 0 (by omega) (by omega)
    subst e1
    obtain ⟨X, hX⟩ : ∃ X, X = (rd_T29 m 0).f0 := ⟨_, rfl⟩
    have HXX := Aside0.mk hX
    rw [← hX] at ux0
    have UX := Aside0.mk ux0
    have i1 := eq_true (show 0 < (m.length : Int) by omega)
    have i2 := eq_true h0
    clear hok e hLO hHI h0 ux0 ux1 hX
    go_enter Tryd.func19, Tryd.ntmps19
    have UY : Aside0 (w.cell? ad = some (.int .i64 X)) := ⟨UX.out⟩
    go_upto_region 3 with (go_at_call 25; refine (impl_MelodyValid.calls kk _ _ m true _ HR0.out HC0.out HV.out).mono ?_; rintro e w1 ⟨rfl, hb1⟩; have hx0 := pw_cell_below hb1 UY.out)
    go_region
    go_wp2_with (go_at_call 26; refine (impl_linked_calls m _ _ w1.drew (Kd.C_below HR0.out (below_drew1 hb1)) HC0.out hm).mono ?_; rintro e w2 ⟨v, rfl, hl2, hb2⟩; have HL := Aside0.mk hl2; have HB := Aside0.mk (below_step (below_drew1 hb1) hb2); clear hl2)
    go_loopg [5, 6, 7] m.length (fun kq v5 v6 v7 w' => ∃ (a b : Int) (l : List S29), v5 = .int .i64 a ∧ v6 = .int .i64 b ∧ Aside0 (kq = l.length ∧ mlo a l = LO ∧ mhi b l = HI) ∧ Aside0 (Lk w' w1.drew.heap.size v7 l) ∧ Aside0 (Below w.heap.size w w'))
    case atStart => exact ⟨X, X, m, rfl, rfl, ⟨rfl, by rw [HX.out.1, HXX.out], by rw [HX.out.2, HXX.out]⟩, ⟨HL.out⟩, ⟨HB.out⟩⟩
    case round =>
      obtain ⟨a, b, l, rfl, rfl, HY, HL1, HB1⟩ := hrel
      obtain ⟨hk, hlo, hhi⟩ := HY.out
      cases l with
      | nil =>
        obtain rfl := HL1.out
        simp only [mlo] at hlo
        simp only [mhi] at hhi
        subst hlo; subst hhi
        go_wp2
        go_ret3
        exact ⟨rfl, HB1.out⟩
      | cons x xs =>
        obtain ⟨g, nx, e1, _, hbx, hnx⟩ := HL1.out
        subst e1
        have hx1 : wr.cell? ⟨g, 0, none⟩ = some (.int .i64 x.f0) := (blk_cell hbx 0).trans rfl
        have hx2 : wr.cell? ⟨g, 2, none⟩ = some nx := (blk_cell hbx 2).trans rfl
        obtain ⟨p, rfl⟩ := hnx.ptr
        have HN := Aside0.mk hnx
        have HK := Aside0.mk hk
        have HZ := Aside0.mk (And.intro hlo hhi)
        clear hk hlo hhi hbx hnx
        go_wp2
        all_goals
          go_roundg xs.length
          case measure => rw [HK.out]; simp
          case rel => exact ⟨_, _, xs, rfl, rfl, ⟨rfl, mlo_step HZ.out.1 (by omega), mhi_step HZ.out.2 (by omega)⟩, HN, HB1⟩
  · have e : mrange m = (0, 0, false) := by unfold mrange mSome; rw [hok, decide_eq_false h0]; rfl
    rw [e]
    have e2 : m = [] := List.eq_nil_of_length_eq_zero (by omega)
    subst e2
    clear hok e h0
    go_enter Tryd.func19, Tryd.ntmps19
    go_wp2_with (go_at_call 25; refine (impl_MelodyValid.calls kk _ _ [] true _ HR0.out HC0.out HV.out).mono ?_; rintro e w1 ⟨rfl, hb1⟩)
    go_ret3
    exact ⟨rfl, hb1⟩

set_option maxHeartbeats 8000000 in
set_option maxRecDepth 100000 in
theorem impl_ModeIn_calls (m : List S29) (mode : Int) (A0 : Option Addr) (c0 : Nat) (w : World) (ht : MTab w) (hr0 : Kd.C k29 w A0 m.length m) (hc0 : m.length ≤ c0) (hm : m.length ≤ 1000000000000) :
    Calls Tryd.prog 6 #[.slice A0 m.length c0, .int .i64 mode] w fun e w' => e = .returned (.bool (mIn m mode)) ∧ Below w.heap.size w w' := by
  have HT := Aside0.mk ht
  have HR0 := Aside0.mk hr0
  have HC0 := Aside0.mk hc0
  clear ht hr0 hc0
  have hu := Tryd.underlying40
  have hu1 := Tryd.underlying29
  have hout : mIn m mode = (mSome m && (mOk mode && ((rd_T29 m ((m.length : Int) - 1)).f0 == (mRz mode).1 && (!(rd_T29 m ((m.length : Int) - 1)).f1 && (decide ((mRz mode).2.2.1 ≤ mlo (rd_T29 m 0).f0 m) && decide (mhi (rd_T29 m 0).f0 m ≤ (mRz mode).2.2.2)))))) := by
    unfold mIn mRz
    cases mOk mode <;> simp
  have hrange : mrange m = if mSome m = true then (mlo (rd_T29 m 0).f0 m, mhi (rd_T29 m 0).f0 m, true) else (0, 0, false) := rfl
  obtain ⟨a, b, c, d, hz⟩ : ∃ a b c d, mRz mode = (a, b, c, d) := ⟨_, _, _, _, rfl⟩
  rw [hz] at hout
  simp only [] at hout
  obtain ⟨lo, hi, so, hg⟩ : ∃ lo hi so, mrange m = (lo, hi, so) := ⟨_, _, _, rfl⟩
  have HA := Aside0.mk (show ∀ w, MTab w → Calls Tryd.prog 18 #[.int .i64 mode] w fun e w' => e = .returned (.tuple #[.agg #[.int .i64 a, .int .i64 b, .int .i64 c, .int .i64 d], .bool (mOk mode)]) ∧ Below w.heap.size w w' from fun w h => by have := impl_modeAt_calls mode w h; rw [hz] at this; exact this)
  have HM := Aside0.mk (show ∀ w, Kd.C k29 w A0 m.length m → Calls Tryd.prog 19 #[.slice A0 m.length c0] w fun e w' => e = .returned (.tuple #[.int .i64 lo, .int .i64 hi, .bool so]) ∧ Below w.heap.size w w' from fun w h => by have := impl_MelodyRange_calls m A0 c0 w h HC0.out hm; rw [hg] at this; exact this)
  obtain ⟨ok, hok⟩ : ∃ ok, ok = mOk mode := ⟨_, rfl⟩
  rw [← hok] at hout HA
  clear hok hz
  cases hs : mSome m
  · rw [hs] at hout hrange
    rw [hout]
    rw [hg] at hrange
    simp only [Bool.false_eq_true, if_false, Prod.mk.injEq] at hrange
    obtain ⟨rfl, rfl, rfl⟩ := hrange
    clear hout hs hg
    cases ok
    · go_enter Tryd.func6, Tryd.ntmps6
      go_wp2_with (first
        | (go_at_call 18; refine (HA.out _ HT.out).mono ?_; rintro e w1 ⟨rfl, hb1⟩)
        | (go_at_call 19; refine (HM.out _ (Kd.C_below HR0.out (below_alloc hb1 _))).mono ?_; rintro e w2 ⟨rfl, hb2⟩))
      go_ret
      exact ⟨rfl, below_step (below_alloc hb1 _) hb2⟩
    · go_enter Tryd.func6, Tryd.ntmps6
      go_wp2_with (first
        | (go_at_call 18; refine (HA.out _ HT.out).mono ?_; rintro e w1 ⟨rfl, hb1⟩)
        | (go_at_call 19; refine (HM.out _ (Kd.C_below HR0.out (below_alloc hb1 _))).mono ?_; rintro e w2 ⟨rfl, hb2⟩))
      go_ret
      exact ⟨rfl, below_step (below_alloc hb1 _) hb2⟩
  rw [hs] at hout hrange
  rw [hg] at hrange
  simp only [if_true, Prod.mk.injEq] at hrange
  obtain ⟨h1, h2, rfl⟩ := hrange
  rw [← h1, ← h2] at hout
  have h0 : 0 < m.length := by unfold mSome at hs; simp at hs; exact hs.2
  clear hs hg h1 h2
  cases ok
  · rw [hout]
    clear hout
    go_enter Tryd.func6, Tryd.ntmps6
    go_wp2_with (first
      | (go_at_call 18; refine (HA.out _ HT.out).mono ?_; rintro e w1 ⟨rfl, hb1⟩)
      | (go_at_call 19; refine (HM.out _ (Kd.C_below HR0.out (below_alloc hb1 _))).mono ?_; rintro e w2 ⟨rfl, hb2⟩))
    go_ret
    exact ⟨rfl, below_step (below_alloc hb1 _) hb2⟩
  obtain ⟨ad, e1, ux0, ux1⟩ := at_T29 HR0.out ((m.length : Int) - 1) (by omega) (by omega)
  subst e1
  obtain ⟨X, hX⟩ : ∃ X, X = rd_T29 m ((m.length : Int) - 1) := ⟨_, rfl⟩
  rw [← hX] at ux0 ux1 hout
  have en : ((m.length : Int) - 1).toNat = m.length - 1 := by omega
  rw [en] at ux0 ux1
  have U0 := Aside0.mk ux0
  have U1 := Aside0.mk ux1
  simp only [Bool.true_and] at hout
  have i1 := eq_true (show (m.length : Int) - 1 < (m.length : Int) by omega)
  have i2 := eq_true (show 0 ≤ (m.length : Int) - 1 by omega)
  clear hX ux0 ux1
  cases h1 : (X.f0 == a)
  · rw [hout, h1]
    clear hout
    simp only [Bool.false_and]
    go_enter Tryd.func6, Tryd.ntmps6
    go_wp2_with (first
      | (go_at_call 18; refine (HA.out _ HT.out).mono ?_; rintro e w1 ⟨rfl, hb1⟩)
      | (go_at_call 19; refine (HM.out _ (Kd.C_below HR0.out (below_alloc hb1 _))).mono ?_; rintro e w2 ⟨rfl, hb2⟩; have hq0 : (w2.alloc (Obj.cells #[.int .i64 X.f0, .bool X.f1] 29)).cell? ⟨w1.heap.size, 0, none⟩ = some (.int .i64 a) := pw_cell_below (below_alloc (Below.refl _ _) _) (pw_cell_below hb2 ((blk_cell (blk_new w1 _) 0).trans rfl)); have hq2 : (w2.alloc (Obj.cells #[.int .i64 X.f0, .bool X.f1] 29)).cell? ⟨w1.heap.size, 2, none⟩ = some (.int .i64 c) := pw_cell_below (below_alloc (Below.refl _ _) _) (pw_cell_below hb2 ((blk_cell (blk_new w1 _) 2).trans rfl)); have hq3 : (w2.alloc (Obj.cells #[.int .i64 X.f0, .bool X.f1] 29)).cell? ⟨w1.heap.size, 3, none⟩ = some (.int .i64 d) := pw_cell_below (below_alloc (Below.refl _ _) _) (pw_cell_below hb2 ((blk_cell (blk_new w1 _) 3).trans rfl)); have HB := Aside0.mk (below_step (below_alloc hb1 _) hb2); have hx0 := pw_cell_below (below_step (below_alloc hb1 _) hb2) U0.out; have hx1 := pw_cell_below (below_step (below_alloc hb1 _) hb2) U1.out))
    go_ret
    exact ⟨rfl, below_alloc HB.out _⟩
  cases h2 : X.f1
  · rw [h2] at U1
    by_cases h3 : c ≤ lo
    · have d3 : decide (c ≤ lo) = true := decide_eq_true h3
      by_cases h4 : hi ≤ d
      · have d4 : decide (hi ≤ d) = true := decide_eq_true h4
        have e : mIn m mode = true := by rw [hout, h1, h2, d3, d4]; rfl
        rw [e]
        clear hout h3 h4 e
        go_enter Tryd.func6, Tryd.ntmps6
        go_wp2_with (first
          | (go_at_call 18; refine (HA.out _ HT.out).mono ?_; rintro e w1 ⟨rfl, hb1⟩)
          | (go_at_call 19; refine (HM.out _ (Kd.C_below HR0.out (below_alloc hb1 _))).mono ?_; rintro e w2 ⟨rfl, hb2⟩; have hq0 : (w2.alloc (Obj.cells #[.int .i64 X.f0, .bool false] 29)).cell? ⟨w1.heap.size, 0, none⟩ = some (.int .i64 a) := pw_cell_below (below_alloc (Below.refl _ _) _) (pw_cell_below hb2 ((blk_cell (blk_new w1 _) 0).trans rfl)); have hq2 : (w2.alloc (Obj.cells #[.int .i64 X.f0, .bool false] 29)).cell? ⟨w1.heap.size, 2, none⟩ = some (.int .i64 c) := pw_cell_below (below_alloc (Below.refl _ _) _) (pw_cell_below hb2 ((blk_cell (blk_new w1 _) 2).trans rfl)); have hq3 : (w2.alloc (Obj.cells #[.int .i64 X.f0, .bool false] 29)).cell? ⟨w1.heap.size, 3, none⟩ = some (.int .i64 d) := pw_cell_below (below_alloc (Below.refl _ _) _) (pw_cell_below hb2 ((blk_cell (blk_new w1 _) 3).trans rfl)); have HB := Aside0.mk (below_step (below_alloc hb1 _) hb2); have hx0 := pw_cell_below (below_step (below_alloc hb1 _) hb2) U0.out; have hx1 := pw_cell_below (below_step (below_alloc hb1 _) hb2) U1.out))
        go_ret
        exact ⟨rfl, below_alloc HB.out _⟩
      · have d4 : decide (hi ≤ d) = false := decide_eq_false h4
        have e : mIn m mode = false := by rw [hout, h1, h2, d3, d4]; rfl
        rw [e]
        clear hout h3 h4 e
        go_enter Tryd.func6, Tryd.ntmps6
        go_wp2_with (first
          | (go_at_call 18; refine (HA.out _ HT.out).mono ?_; rintro e w1 ⟨rfl, hb1⟩)
          | (go_at_call 19; refine (HM.out _ (Kd.C_below HR0.out (below_alloc hb1 _))).mono ?_; rintro e w2 ⟨rfl, hb2⟩; have hq0 : (w2.alloc (Obj.cells #[.int .i64 X.f0, .bool false] 29)).cell? ⟨w1.heap.size, 0, none⟩ = some (.int .i64 a) := pw_cell_below (below_alloc (Below.refl _ _) _) (pw_cell_below hb2 ((blk_cell (blk_new w1 _) 0).trans rfl)); have hq2 : (w2.alloc (Obj.cells #[.int .i64 X.f0, .bool false] 29)).cell? ⟨w1.heap.size, 2, none⟩ = some (.int .i64 c) := pw_cell_below (below_alloc (Below.refl _ _) _) (pw_cell_below hb2 ((blk_cell (blk_new w1 _) 2).trans rfl)); have hq3 : (w2.alloc (Obj.cells #[.int .i64 X.f0, .bool false] 29)).cell? ⟨w1.heap.size, 3, none⟩ = some (.int .i64 d) := pw_cell_below (below_alloc (Below.refl _ _) _) (pw_cell_below hb2 ((blk_cell (blk_new w1 _) 3).trans rfl)); have HB := Aside0.mk (below_step (below_alloc hb1 _) hb2); have hx0 := pw_cell_below (below_step (below_alloc hb1 _) hb2) U0.out; have hx1 := pw_cell_below (below_step (below_alloc hb1 _) hb2) U1.out))
        go_ret
        exact ⟨rfl, below_alloc HB.out _⟩
    · have d3 : decide (c ≤ lo) = false := decide_eq_false h3
      have e : mIn m mode = false := by rw [hout, h1, h2, d3]; rfl
      rw [e]
      clear hout h3 e
      go_enter Tryd.func6, Tryd.ntmps6
      go_wp2_with (first
        | (go_at_call 18; refine (HA.out _ HT.out).mono ?_; rintro e w1 ⟨rfl, hb1⟩)
        | (go_at_call 19; refine (HM.out _ (Kd.C_below HR0.out (below_alloc hb1 _))).mono ?_; rintro e w2 ⟨rfl, hb2⟩; have hq0 : (w2.alloc (Obj.cells #[.int .i64 X.f0, .bool false] 29)).cell? ⟨w1.heap.size, 0, none⟩ = some (.int .i64 a) := pw_cell_below (below_alloc (Below.refl _ _) _) (pw_cell_below hb2 ((blk_cell (blk_new w1 _) 0).trans rfl)); have hq2 : (w2.alloc (Obj.cells #[.int .i64 X.f0, .bool false] 29)).cell? ⟨w1.heap.size, 2, none⟩ = some (.int .i64 c) := pw_cell_below (below_alloc (Below.refl _ _) _) (pw_cell_below hb2 ((blk_cell (blk_new w1 _) 2).trans rfl)); have hq3 : (w2.alloc (Obj.cells #[.int .i64 X.f0, .bool false] 29)).cell? ⟨w1.heap.size, 3, none⟩ = some (.int .i64 d) := pw_cell_below (below_alloc (Below.refl _ _) _) (pw_cell_below hb2 ((blk_cell (blk_new w1 _) 3).trans rfl)); have HB := Aside0.mk (below_step (below_alloc hb1 _) hb2); have hx0 := pw_cell_below (below_step (below_alloc hb1 _) hb2) U0.out; have hx1 := pw_cell_below (below_step (below_alloc hb1 _) hb2) U1.out))
      go_ret
      exact ⟨rfl, below_alloc HB.out _⟩
  · rw [h2] at U1
    have e : mIn m mode = false := by rw [hout, h1, h2]; rfl
    rw [e]
    clear hout e
    go_enter Tryd.func6, Tryd.ntmps6
    go_wp2_with (first
      | (go_at_call 18; refine (HA.out _ HT.out).mono ?_; rintro e w1 ⟨rfl, hb1⟩)
      | (go_at_call 19; refine (HM.out _ (Kd.C_below HR0.out (below_alloc hb1 _))).mono ?_; rintro e w2 ⟨rfl, hb2⟩; have hq0 : (w2.alloc (Obj.cells #[.int .i64 X.f0, .bool true] 29)).cell? ⟨w1.heap.size, 0, none⟩ = some (.int .i64 a) := pw_cell_below (below_alloc (Below.refl _ _) _) (pw_cell_below hb2 ((blk_cell (blk_new w1 _) 0).trans rfl)); have hq2 : (w2.alloc (Obj.cells #[.int .i64 X.f0, .bool true] 29)).cell? ⟨w1.heap.size, 2, none⟩ = some (.int .i64 c) := pw_cell_below (below_alloc (Below.refl _ _) _) (pw_cell_below hb2 ((blk_cell (blk_new w1 _) 2).trans rfl)); have hq3 : (w2.alloc (Obj.cells #[.int .i64 X.f0, .bool true] 29)).cell? ⟨w1.heap.size, 3, none⟩ = some (.int .i64 d) := pw_cell_below (below_alloc (Below.refl _ _) _) (pw_cell_below hb2 ((blk_cell (blk_new w1 _) 3).trans rfl)); have HB := Aside0.mk (below_step (below_alloc hb1 _) hb2); have hx0 := pw_cell_below (below_step (below_alloc hb1 _) hb2) U0.out; have hx1 := pw_cell_below (below_step (below_alloc hb1 _) hb2) U1.out))
    go_ret
    exact ⟨rfl, below_alloc HB.out _⟩

set_option maxHeartbeats 4000000 in
set_option maxRecDepth 100000 in
theorem impl_ModeAll_calls (m : List S29) (A0 : Option Addr) (c0 : Nat) (w : World) (ht : MTab w) (hr0 : Kd.C k29 w A0 m.length m) (hc0 : m.length ≤ c0) (hm : m.length ≤ 1000000000000) :
    Calls Tryd.prog 10 #[.slice A0 m.length c0] w fun e w' => ∃ v, e = .returned v ∧ Kd.R (Kd.int .i64) 3 w' w.heap.size (fun _ => True) v (mUp m 8) ∧ Below w.heap.size w w' := by
  have HT := Aside0.mk ht
  have HR0 := Aside0.mk hr0
  have HC0 := Aside0.mk hc0
  clear ht hr0 hc0
  have hinf : (Tryd.prog.info? 3).map (fun i => (i.zero, i.size, i.bytes)) = some (some (.int .i64 0), 1, 8) := by kernel_rfl
  have HI := Aside0.mk hinf
  clear hinf
  go_enter Tryd.func10, Tryd.ntmps10
  go_wp2_with ((with_reducible refine gate_dst (N := 5) rfl ?_); refine Kd.R_lit (Kd.int .i64) _ 3 ?hg (N := 5) ?hd (xs := ([] : List Int)) (inner := []) (ok := fun _ => True) (okp := fun _ => True) ?hr (Reps.none _ _) (fun _ hk => hk) trivial (Below.refl _ _) (Nat.le_refl _) (by simp) ?_; (case hd => rfl); (case hg => rfl); (case hr => first | (go_simp; done) | (go_simp; rfl)); intro v2 w2 ho2 hb2 _ _; have HO := Aside0.mk ho2; have HB := Aside0.mk hb2; clear ho2 hb2)
  go_loopg [3, 4] 8 (fun kq v3 v4 w' => ∃ (i : Int), v4 = .int .i64 i ∧ Aside0 (kq = (9 - i).toNat ∧ 1 ≤ i ∧ i ≤ 9) ∧ Aside0 (Kd.R (Kd.int .i64) 3 w' w.heap.size (fun _ => True) v3 (mUp m (i - 1).toNat)) ∧ Aside0 (Below w.heap.size w w'))
  case atStart => exact ⟨1, rfl, ⟨by decide⟩, ⟨HO.out⟩, ⟨HB.out⟩⟩
  case round =>
    clear HO HB
    obtain ⟨i, rfl, HX, HO, HB⟩ := hrel
    obtain ⟨hk, h1, h9⟩ := HX.out
    by_cases h : i ≤ 8
    · have d1 : decide (i ≤ 8) = true := decide_eq_true h
      have NX : Aside0 ((9 - (i + 1)).toNat < gk ∧ 1 ≤ i + 1 ∧ i + 1 ≤ 9) := ⟨by omega, by omega, by omega⟩
      have hu : mUp m (i + 1 - 1).toNat = if mIn m i = true then mUp m (i - 1).toNat ++ [i] else mUp m (i - 1).toNat := by
        have e1 : (i + 1 - 1).toNat = (i - 1).toNat + 1 := by omega
        have e2 : (((i - 1).toNat : Nat) : Int) + 1 = i := by omega
        rw [e1]
        simp only [mUp]
        rw [e2]
      have hl := mUp_len m (i - 1).toNat
      obtain ⟨J, hJ⟩ : ∃ J, J = mUp m (i - 1).toNat := ⟨_, rfl⟩
      rw [← hJ] at hu hl HO
      have hl2 : J.length ≤ 8 := by omega
      clear hJ hl hk
      cases hin : mIn m i
      · rw [hin] at hu
        have HU := Aside0.mk hu
        clear hu
        go_wp2_with (go_at_call 6; refine (impl_ModeIn_calls m i _ _ wr (HT.out.below HB.out) (Kd.C_below HR0.out HB.out) HC0.out hm).mono ?_; rw [hin]; rintro e w3 ⟨rfl, hb3⟩)
        go_roundg ((9 - (i + 1)).toNat)
        case measure => exact NX.out.1
        case rel => exact ⟨i + 1, rfl, ⟨rfl, NX.out.2⟩, ⟨by rw [HU.out]; exact Kd.R_below HO.out hb3⟩, ⟨below_step HB.out hb3⟩⟩
      · rw [hin] at hu
        have HU := Aside0.mk hu
        clear hu
        go_wp2_with (first
          | (go_at_call 6; refine (impl_ModeIn_calls m i _ _ wr (HT.out.below HB.out) (Kd.C_below HR0.out HB.out) HC0.out hm).mono ?_; rw [hin]; rintro e w3 ⟨rfl, hb3⟩; have HO3 := Aside0.mk (Kd.R_below HO.out hb3); have HB3 := Aside0.mk (below_step HB.out hb3))
          | ((with_reducible refine gate_builtin (b := .append) (xs := #[.tmp 13, .tmp 15]) rfl ?_); at_builtin; refine Kd.R_append (Kd.int .i64) (w0 := w) w.heap.size rfl (.tmp 13) (.tmp 15) 32 3 (.int .i64 0) 8 rfl Tryd.underlying32 HI.out rfl (by decide) (by omega) _ J i [.int .i64 i] (fun _ => True) (fun _ => False) rfl rfl ?aP (fun _ hk => hk.elim) (fun _ _ => trivial) HO3.out HB3.out HB3.out.size (by omega) ?_; (case aP => exact rfl); intro v4 w4 ho4 hb4 hg4 hat4))
        go_roundg ((9 - (i + 1)).toNat)
        case measure => exact NX.out.1
        case rel => exact ⟨i + 1, rfl, ⟨rfl, NX.out.2⟩, ⟨by rw [HU.out]; exact ho4⟩, ⟨hb4⟩⟩
    · have d1 : decide (i ≤ 8) = false := decide_eq_false h
      obtain rfl : i = 9 := by omega
      go_wp2
      go_ret
      exact ⟨_, rfl, HO.out, HB.out⟩

theorem spec_ModeAll_calls (m : List S29) (A0 : Option Addr) (c0 : Nat) (w : World) (hr0 : Kd.C k29 w A0 m.length m) (hc0 : m.length ≤ c0) (hm : m.length ≤ 1000000000000) :
    Calls Tryd.prog 11 #[.slice A0 m.length c0] w fun e w' => ∃ v, e = .returned v ∧ Kd.R (Kd.int .i64) 3 w' w.heap.size (fun _ => True) v (mUp m 8) ∧ Below w.heap.size w w' := by
  obtain ⟨kk, h⟩ := Ev.rounds (spec_ModeAll_ev m hm)
  exact spec_ModeAll.calls kk _ _ m _ w hr0 hc0 h

end Go.Proofs.YtnjnnalnicoojaaDoor.Pure
