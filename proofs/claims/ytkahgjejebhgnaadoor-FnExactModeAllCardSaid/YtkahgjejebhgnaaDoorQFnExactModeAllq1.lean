/- Lemmas on the printed functions for the law FnExactModeAll. -/
import Derived.Test.YtkahgjejebhgnaaDoorQFnExactModeAllq0
import Derived.Deep.RegionHeld3
import Derived.BigRegion
import Derived.Deep.Slices
import Derived.Laws.CopyOwn
namespace Go.Proofs.YtkahgjejebhgnaaDoor.Pure
set_option linter.unusedVariables false
set_option linter.unusedSimpArgs false
open Go Go.RowKit Go.Proofs.YtkahgjejebhgnaaDoor.PFnExactModeAll Go.Proofs.YtkahgjejebhgnaaDoorW.PrintWords Go.Proofs.YtkahgjejebhgnaaDoorW.PrintLast Go.Proofs.YtkahgjejebhgnaaDoorW.PrintMore

/-! the table of the modes, and modeAt -/
def mCells : Array Value := #[.int .i64 4, .int .i64 8, .int .i64 3, .int .i64 12, .int .i64 4, .int .i64 6, .int .i64 0, .int .i64 9, .int .i64 5, .int .i64 10, .int .i64 4, .int .i64 13, .int .i64 5, .int .i64 8, .int .i64 1, .int .i64 10, .int .i64 6, .int .i64 10, .int .i64 5, .int .i64 14, .int .i64 6, .int .i64 8, .int .i64 2, .int .i64 11, .int .i64 7, .int .i64 11, .int .i64 6, .int .i64 15, .int .i64 7, .int .i64 10, .int .i64 3, .int .i64 12]
def MTab (w : World) : Prop := ∃ t fz, w.heap[1]? = some (.cells mCells t fz)
theorem MTab.below {w w' : World} (h : MTab w) (hb : Below w.heap.size w w') : MTab w' := by
  obtain ⟨t, fz, h⟩ := h
  exact ⟨t, fz, (hb.block _ (blk_lt h)).trans h⟩
theorem MTab.cell {w : World} (h : MTab w) (i : Nat) : w.cell? ⟨1, i, none⟩ = mCells[i]? := by
  obtain ⟨t, fz, h⟩ := h
  exact cell_of_row w _ i mCells t fz h
def mRz (mode : Int) : Int × Int × Int × Int := if mOk mode = true then mRow mode else (0, 0, 0, 0)
set_option maxHeartbeats 4000000 in
set_option maxRecDepth 100000 in
theorem impl_modeAt_calls (mode : Int) (w : World) (ht : MTab w) :
    Calls Tryd.prog 92 #[.int .i64 mode] w fun e w' => e = .returned (.tuple #[.agg #[.int .i64 (mRz mode).1, .int .i64 (mRz mode).2.1, .int .i64 (mRz mode).2.2.1, .int .i64 (mRz mode).2.2.2], .bool (mOk mode)]) ∧ Below w.heap.size w w' := by
  have hu := Tryd.underlying112
  by_cases h1 : mode < 1
  · have d1 : decide (mode < 1) = true := decide_eq_true h1
    have e : mOk mode = false := decide_eq_false (by omega)
    have ez : mRz mode = (0, 0, 0, 0) := by unfold mRz; rw [e]; rfl
    rw [e, ez]
    clear h1 e ez
    go_enter Tryd.func92, Tryd.ntmps92
    go_wp2
    (try simp only [Exit.inBlock, Exit.then])
    refine bodyPost_ret (results_ct rfl _ _ w.heap.size 112 #[.int .i64 0, .int .i64 0, .int .i64 0, .int .i64 0] (0, 0) _ rfl (blk_new w _) Tryd.underlying112 rfl (by kernel_rfl)) rfl ?_
    exact ⟨rfl, below_alloc (Below.refl _ _) _⟩
  have d1 : decide (mode < 1) = false := decide_eq_false h1
  by_cases h2 : mode > 8
  · have d2 : decide (8 < mode) = true := decide_eq_true h2
    have e : mOk mode = false := decide_eq_false (by omega)
    have ez : mRz mode = (0, 0, 0, 0) := by unfold mRz; rw [e]; rfl
    rw [e, ez]
    clear h1 h2 e ez
    go_enter Tryd.func92, Tryd.ntmps92
    go_wp2
    (try simp only [Exit.inBlock, Exit.then])
    refine bodyPost_ret (results_ct rfl _ _ w.heap.size 112 #[.int .i64 0, .int .i64 0, .int .i64 0, .int .i64 0] (0, 0) _ rfl (blk_new w _) Tryd.underlying112 rfl (by kernel_rfl)) rfl ?_
    exact ⟨rfl, below_alloc (Below.refl _ _) _⟩
  have e : mOk mode = true := decide_eq_true (by omega)
  have hc := mOk_cases e
  have ez : mRz mode = mRow mode := by unfold mRz; rw [e]; rfl
  rw [e, ez]
  clear h1 h2 d1 e ez
  have hn := fun (i : Nat) (v : Value) (h : w.cell? ⟨1, i, none⟩ = some v) => pw_cell_below (below_alloc (Below.refl w.heap.size w) (.cells #[.int .i64 0, .int .i64 0, .int .i64 0, .int .i64 0] 112 (0, 0))) h
  rcases hc with rfl | rfl | rfl | rfl | rfl | rfl | rfl | rfl
  · have c0 := hn 0 (.int .i64 4) ((ht.cell 0).trans rfl)
    have c1 := hn 1 (.int .i64 8) ((ht.cell 1).trans rfl)
    have c2 := hn 2 (.int .i64 3) ((ht.cell 2).trans rfl)
    have c3 := hn 3 (.int .i64 12) ((ht.cell 3).trans rfl)
    clear hn
    go_enter Tryd.func92, Tryd.ntmps92
    go_wp2
    (try simp only [Exit.inBlock, Exit.then])
    refine bodyPost_ret (results_ct rfl _ _ w.heap.size 112 #[.int .i64 4, .int .i64 8, .int .i64 3, .int .i64 12] (0, 0) _ rfl (blk_new w _) Tryd.underlying112 rfl (by kernel_rfl)) rfl ?_
    exact ⟨rfl, below_alloc (Below.refl _ _) _⟩
  · have c0 := hn 4 (.int .i64 4) ((ht.cell 4).trans rfl)
    have c1 := hn 5 (.int .i64 6) ((ht.cell 5).trans rfl)
    have c2 := hn 6 (.int .i64 0) ((ht.cell 6).trans rfl)
    have c3 := hn 7 (.int .i64 9) ((ht.cell 7).trans rfl)
    clear hn
    go_enter Tryd.func92, Tryd.ntmps92
    go_wp2
    (try simp only [Exit.inBlock, Exit.then])
    refine bodyPost_ret (results_ct rfl _ _ w.heap.size 112 #[.int .i64 4, .int .i64 6, .int .i64 0, .int .i64 9] (0, 0) _ rfl (blk_new w _) Tryd.underlying112 rfl (by kernel_rfl)) rfl ?_
    exact ⟨rfl, below_alloc (Below.refl _ _) _⟩
  · have c0 := hn 8 (.int .i64 5) ((ht.cell 8).trans rfl)
    have c1 := hn 9 (.int .i64 10) ((ht.cell 9).trans rfl)
    have c2 := hn 10 (.int .i64 4) ((ht.cell 10).trans rfl)
    have c3 := hn 11 (.int .i64 13) ((ht.cell 11).trans rfl)
    clear hn
    go_enter Tryd.func92, Tryd.ntmps92
    go_wp2
    (try simp only [Exit.inBlock, Exit.then])
    refine bodyPost_ret (results_ct rfl _ _ w.heap.size 112 #[.int .i64 5, .int .i64 10, .int .i64 4, .int .i64 13] (0, 0) _ rfl (blk_new w _) Tryd.underlying112 rfl (by kernel_rfl)) rfl ?_
    exact ⟨rfl, below_alloc (Below.refl _ _) _⟩
  · have c0 := hn 12 (.int .i64 5) ((ht.cell 12).trans rfl)
    have c1 := hn 13 (.int .i64 8) ((ht.cell 13).trans rfl)
    have c2 := hn 14 (.int .i64 1) ((ht.cell 14).trans rfl)
    have c3 := hn 15 (.int .i64 10) ((ht.cell 15).trans rfl)
    clear hn
    go_enter Tryd.func92, Tryd.ntmps92
    go_wp2
    (try simp only [Exit.inBlock, Exit.then])
    refine bodyPost_ret (results_ct rfl _ _ w.heap.size 112 #[.int .i64 5, .int .i64 8, .int .i64 1, .int .i64 10] (0, 0) _ rfl (blk_new w _) Tryd.underlying112 rfl (by kernel_rfl)) rfl ?_
    exact ⟨rfl, below_alloc (Below.refl _ _) _⟩
  · have c0 := hn 16 (.int .i64 6) ((ht.cell 16).trans rfl)
    have c1 := hn 17 (.int .i64 10) ((ht.cell 17).trans rfl)
    have c2 := hn 18 (.int .i64 5) ((ht.cell 18).trans rfl)
    have c3 := hn 19 (.int .i64 14) ((ht.cell 19).trans rfl)
    clear hn
    go_enter Tryd.func92, Tryd.ntmps92
    go_wp2
    (try simp only [Exit.inBlock, Exit.then])
    refine bodyPost_ret (results_ct rfl _ _ w.heap.size 112 #[.int .i64 6, .int .i64 10, .int .i64 5, .int .i64 14] (0, 0) _ rfl (blk_new w _) Tryd.underlying112 rfl (by kernel_rfl)) rfl ?_
    exact ⟨rfl, below_alloc (Below.refl _ _) _⟩
  · have c0 := hn 20 (.int .i64 6) ((ht.cell 20).trans rfl)
    have c1 := hn 21 (.int .i64 8) ((ht.cell 21).trans rfl)
    have c2 := hn 22 (.int .i64 2) ((ht.cell 22).trans rfl)
    have c3 := hn 23 (.int .i64 11) ((ht.cell 23).trans rfl)
    clear hn
    go_enter Tryd.func92, Tryd.ntmps92
    go_wp2
    (try simp only [Exit.inBlock, Exit.then])
    refine bodyPost_ret (results_ct rfl _ _ w.heap.size 112 #[.int .i64 6, .int .i64 8, .int .i64 2, .int .i64 11] (0, 0) _ rfl (blk_new w _) Tryd.underlying112 rfl (by kernel_rfl)) rfl ?_
    exact ⟨rfl, below_alloc (Below.refl _ _) _⟩
  · have c0 := hn 24 (.int .i64 7) ((ht.cell 24).trans rfl)
    have c1 := hn 25 (.int .i64 11) ((ht.cell 25).trans rfl)
    have c2 := hn 26 (.int .i64 6) ((ht.cell 26).trans rfl)
    have c3 := hn 27 (.int .i64 15) ((ht.cell 27).trans rfl)
    clear hn
    go_enter Tryd.func92, Tryd.ntmps92
    go_wp2
    (try simp only [Exit.inBlock, Exit.then])
    refine bodyPost_ret (results_ct rfl _ _ w.heap.size 112 #[.int .i64 7, .int .i64 11, .int .i64 6, .int .i64 15] (0, 0) _ rfl (blk_new w _) Tryd.underlying112 rfl (by kernel_rfl)) rfl ?_
    exact ⟨rfl, below_alloc (Below.refl _ _) _⟩
  · have c0 := hn 28 (.int .i64 7) ((ht.cell 28).trans rfl)
    have c1 := hn 29 (.int .i64 10) ((ht.cell 29).trans rfl)
    have c2 := hn 30 (.int .i64 3) ((ht.cell 30).trans rfl)
    have c3 := hn 31 (.int .i64 12) ((ht.cell 31).trans rfl)
    clear hn
    go_enter Tryd.func92, Tryd.ntmps92
    go_wp2
    (try simp only [Exit.inBlock, Exit.then])
    refine bodyPost_ret (results_ct rfl _ _ w.heap.size 112 #[.int .i64 7, .int .i64 10, .int .i64 3, .int .i64 12] (0, 0) _ rfl (blk_new w _) Tryd.underlying112 rfl (by kernel_rfl)) rfl ?_
    exact ⟨rfl, below_alloc (Below.refl _ _) _⟩

end Go.Proofs.YtkahgjejebhgnaaDoor.Pure
