/- Lemmas on the printed functions for the law FnMelodyMove. -/
import Derived.Test.YtclpnaaagajhiaaDoorQFnMelodyMoveq0
import Derived.Deep.RegionHeld3
import Derived.BigRegion
import Derived.Deep.Slices
import Derived.Laws.CopyOwn
namespace Go.Proofs.YtclpnaaagajhiaaDoor.Pure
set_option linter.unusedVariables false
set_option linter.unusedSimpArgs false
open Go Go.RowKit Go.Proofs.YtclpnaaagajhiaaDoor.PFnMelodyMove Go.Proofs.YtclpnaaagajhiaaDoorW.PrintWords Go.Proofs.YtclpnaaagajhiaaDoorW.PrintLast Go.Proofs.YtclpnaaagajhiaaDoorW.PrintMore

/-! the table of the heights, and a tone's height -/
def hCells : Array Value := #[.int .i64 0, .int .i64 2, .int .i64 4, .int .i64 5, .int .i64 7, .int .i64 9, .int .i64 10]
def HTab (w : World) : Prop := ∃ t fz, w.heap[1]? = some (.cells hCells t fz)
theorem HTab.below {w w' : World} (h : HTab w) (hb : Below w.heap.size w w') : HTab w' := by
  obtain ⟨t, fz, h⟩ := h
  exact ⟨t, fz, (hb.block _ (blk_lt h)).trans h⟩
theorem HTab.at {w : World} (h : HTab w) (x : Int) (h0 : 0 ≤ x) : w.cell? ⟨1, (Int.tmod x 7).toNat, none⟩ = some (.int .i64 (lh x)) := by
  obtain ⟨t, fz, h⟩ := h
  refine (cell_of_row w _ _ hCells t fz h).trans ?_
  have := mod7 h0
  unfold lh
  obtain ⟨n, hn⟩ : ∃ n, n = (Int.tmod x 7).toNat := ⟨_, rfl⟩
  rw [← hn]
  have hn7 : n < 7 := by omega
  clear hn
  match n, hn7 with
  | 0, _ => rfl
  | 1, _ => rfl
  | 2, _ => rfl
  | 3, _ => rfl
  | 4, _ => rfl
  | 5, _ => rfl
  | 6, _ => rfl
set_option maxHeartbeats 4000000 in
set_option maxRecDepth 100000 in
theorem impl_height_calls (t : S29) (w : World) (ht : HTab w) (hok : toneOk t = true) :
    Calls Tryd.prog 73 #[.agg #[.int .i64 t.f0, .bool t.f1]] w fun e w' => e = .returned (.int .i64 (hgt t)) ∧ Below w.heap.size w w' := by
  have hu1 := Tryd.underlying29
  have hb := toneOk_bd hok
  have h4 := mod7 hb.1
  have h3 := div7 hb.1 hb.2
  have hl := lh_bd t.f0
  have HT := Aside0.mk ht
  have e1 : wrap64 (Int.tdiv t.f0 7) = Int.tdiv t.f0 7 := w64 (by omega) (by omega)
  have e2 : wrap64 (12 * Int.tdiv t.f0 7) = 12 * Int.tdiv t.f0 7 := w64 (by omega) (by omega)
  have e3 : wrap64 (lh t.f0 + 12 * Int.tdiv t.f0 7) = lh t.f0 + 12 * Int.tdiv t.f0 7 := w64 (by omega) (by omega)
  have e4 : wrap64 (lh t.f0 + 12 * Int.tdiv t.f0 7 - 1) = lh t.f0 + 12 * Int.tdiv t.f0 7 - 1 := w64 (by omega) (by omega)
  have i1 := eq_true h4.1
  have i2 := eq_true h4.2
  cases hs : t.f1
  · have eh : hgt t = lh t.f0 + 12 * Int.tdiv t.f0 7 := by unfold hgt; rw [hs]; rfl
    rw [eh]
    clear eh hok ht
    go_enter Tryd.func73, Tryd.ntmps73
    go_wp2_with ((with_reducible refine gate_dst (N := 1) rfl ?_); refine box_event ?hg (N := 1) ?hd (cs := #[.int .i64 t.f0, .bool false]) (t := 29) ?hr ?_; (case hd => rfl); (case hg => rfl); (case hr => first | (go_simp; done) | (go_simp; rfl)); intro gb hg w3 hbox hb3; have HB3 := Aside0.mk hb3; have hx0 : w3.cell? ⟨gb, 0, none⟩ = some (.int .i64 t.f0) := (blk_cell hbox 0).trans rfl; have hx1 : w3.cell? ⟨gb, 1, none⟩ = some (.bool false) := (blk_cell hbox 1).trans rfl; have hgl := (HT.out.below hb3).at t.f0 hb.1; clear hg hbox hb3)
    go_region
    all_goals
      go_wp2
      go_ret
      exact ⟨rfl, below_drew1 HB3.out⟩
  · have eh : hgt t = lh t.f0 + 12 * Int.tdiv t.f0 7 - 1 := by unfold hgt; rw [hs]; rfl
    rw [eh]
    clear eh hok ht
    go_enter Tryd.func73, Tryd.ntmps73
    go_wp2_with ((with_reducible refine gate_dst (N := 1) rfl ?_); refine box_event ?hg (N := 1) ?hd (cs := #[.int .i64 t.f0, .bool true]) (t := 29) ?hr ?_; (case hd => rfl); (case hg => rfl); (case hr => first | (go_simp; done) | (go_simp; rfl)); intro gb hg w3 hbox hb3; have HB3 := Aside0.mk hb3; have hx0 : w3.cell? ⟨gb, 0, none⟩ = some (.int .i64 t.f0) := (blk_cell hbox 0).trans rfl; have hx1 : w3.cell? ⟨gb, 1, none⟩ = some (.bool true) := (blk_cell hbox 1).trans rfl; have hgl := (HT.out.below hb3).at t.f0 hb.1; clear hg hbox hb3)
    go_region
    all_goals
      go_wp2
      go_ret
      exact ⟨rfl, below_drew1 HB3.out⟩
theorem impl_ToneAbove_eq (t : S29) (a : Int) (s : Bool) (ht : toneOk t = true) (ha : -20 ≤ a ∧ a ≤ 20) : impl_ToneAbove.f 1 t.f0 t.f1 a s = some (if toneOk (mvT t a s) = true then (t.f0 + a, s, true) else (0, false, false)) := by
  have hb := toneOk_bd ht
  unfold impl_ToneAbove.f
  rw [impl_Tone_valid_eq]
  have e : (⟨t.f0, t.f1⟩ : S29) = t := rfl
  have d : decide (a > 20) = false := decide_eq_false (by omega)
  rw [e, ht, Option.bind_some, if_pos rfl, if_neg (by omega), d]
  simp only [impl_ToneAbove.j0]
  rw [if_neg (by simp), w64 (x := t.f0 + a) (by omega) (by omega), impl_Tone_valid_eq, Option.bind_some]
  show (if toneOk (mvT t a s) = true then _ else _) = _
  split <;> rfl

end Go.Proofs.YtclpnaaagajhiaaDoor.Pure
