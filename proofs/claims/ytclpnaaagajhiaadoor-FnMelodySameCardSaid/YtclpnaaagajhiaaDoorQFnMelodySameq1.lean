/- Lemmas on the printed functions for the law FnMelodySame. -/
import Derived.Test.YtclpnaaagajhiaaDoorQFnMelodySameq0
import Derived.Deep.RegionHeld3
import Derived.BigRegion
import Derived.Deep.Slices
import Derived.Laws.CopyOwn
namespace Go.Proofs.YtclpnaaagajhiaaDoor.Pure
set_option linter.unusedVariables false
set_option linter.unusedSimpArgs false
open Go Go.RowKit Go.Proofs.YtclpnaaagajhiaaDoor.PFnMelodySame Go.Proofs.YtclpnaaagajhiaaDoorW.PrintWords Go.Proofs.YtclpnaaagajhiaaDoorW.PrintLast Go.Proofs.YtclpnaaagajhiaaDoorW.PrintMore

/-! the table of the heights, and a tone's height -/
def hCells : Array Value := #[.int .i64 0, .int .i64 2, .int .i64 4, .int .i64 5, .int .i64 7, .int .i64 9, .int .i64 10]
def HTab (w : World) : Prop := ∃ t fz, w.heap[1]? = some (.cells hCells t fz)
theorem HTab.below {w w' : World} (h : HTab w) (hb : Below w.heap.size w w') : HTab w' := by
  obtain ⟨t, fz, h⟩ := h
  exact ⟨t, fz, (hb.block _ (blk_lt h)).trans h⟩
theorem HTab.at {w : World} (h : HTab w) (x : Int) (h0 : 0 ≤ x) : w.cell? ⟨1, (Int.tmod x 7).toNat, none⟩ = some (.int .i64 (lh x)) := by
  obtain ⟨t, fz, h⟩ := h
  refine (cell_of_row w _ _ hCells t fz h).trans ?_
  have := mod7 h0
  unfold lh
  obtain ⟨n, hn⟩ : ∃ n, n = (Int.tmod x 7).toNat := ⟨_, rfl⟩
  rw [← hn]
  have hn7 : n < 7 := by omega
  clear hn
  match n, hn7 with
  | 0, _ => rfl
  | 1, _ => rfl
  | 2, _ => rfl
  | 3, _ => rfl
  | 4, _ => rfl
  | 5, _ => rfl
  | 6, _ => rfl
set_option maxHeartbeats 4000000 in
set_option maxRecDepth 100000 in
theorem impl_height_calls (t : S29) (w : World) (ht : HTab w) (hok : toneOk t = true) :
    Calls Tryd.prog 73 #[.agg #[.int .i64 t.f0, .bool t.f1]] w fun e w' => e = .returned (.int .i64 (hgt t)) ∧ Below w.heap.size w w' := by
  have hu1 := Tryd.underlying29
  have hb := toneOk_bd hok
  have h4 := mod7 hb.1
  have h3 := div7 hb.1 hb.2
  have hl := lh_bd t.f0
  have HT := Aside0.mk ht
  have e1 : wrap64 (Int.tdiv t.f0 7) = Int.tdiv t.f0 7 := w64 (by omega) (by omega)
  have e2 : wrap64 (12 * Int.tdiv t.f0 7) = 12 * Int.tdiv t.f0 7 := w64 (by omega) (by omega)
  have e3 : wrap64 (lh t.f0 + 12 * Int.tdiv t.f0 7) = lh t.f0 + 12 * Int.tdiv t.f0 7 := w64 (by omega) (by omega)
  have e4 : wrap64 (lh t.f0 + 12 * Int.tdiv t.f0 7 - 1) = lh t.f0 + 12 * Int.tdiv t.f0 7 - 1 := w64 (by omega) (by omega)
  have i1 := eq_true h4.1
  have i2 := eq_true h4.2
  cases hs : t.f1
  · have eh : hgt t = lh t.f0 + 12 * Int.tdiv t.f0 7 := by unfold hgt; rw [hs]; rfl
    rw [eh]
    clear eh hok ht
    go_enter Tryd.func73, Tryd.ntmps73
    go_wp2_with ((with_reducible refine gate_dst (N := 1) rfl ?_); refine box_event ?hg (N := 1) ?hd (cs := #[.int .i64 t.f0, .bool false]) (t := 29) ?hr ?_; (case hd => rfl); (case hg => rfl); (case hr => first | (go_simp; done) | (go_simp; rfl)); intro gb hg w3 hbox hb3; have HB3 := Aside0.mk hb3; have hx0 : w3.cell? ⟨gb, 0, none⟩ = some (.int .i64 t.f0) := (blk_cell hbox 0).trans rfl; have hx1 : w3.cell? ⟨gb, 1, none⟩ = some (.bool false) := (blk_cell hbox 1).trans rfl; have hgl := (HT.out.below hb3).at t.f0 hb.1; clear hg hbox hb3)
    go_region
    all_goals
      go_wp2
      go_ret
      exact ⟨rfl, below_drew1 HB3.out⟩
  · have eh : hgt t = lh t.f0 + 12 * Int.tdiv t.f0 7 - 1 := by unfold hgt; rw [hs]; rfl
    rw [eh]
    clear eh hok ht
    go_enter Tryd.func73, Tryd.ntmps73
    go_wp2_with ((with_reducible refine gate_dst (N := 1) rfl ?_); refine box_event ?hg (N := 1) ?hd (cs := #[.int .i64 t.f0, .bool true]) (t := 29) ?hr ?_; (case hd => rfl); (case hg => rfl); (case hr => first | (go_simp; done) | (go_simp; rfl)); intro gb hg w3 hbox hb3; have HB3 := Aside0.mk hb3; have hx0 : w3.cell? ⟨gb, 0, none⟩ = some (.int .i64 t.f0) := (blk_cell hbox 0).trans rfl; have hx1 : w3.cell? ⟨gb, 1, none⟩ = some (.bool true) := (blk_cell hbox 1).trans rfl; have hgl := (HT.out.below hb3).at t.f0 hb.1; clear hg hbox hb3)
    go_region
    all_goals
      go_wp2
      go_ret
      exact ⟨rfl, below_drew1 HB3.out⟩
theorem impl_ToneAbove_eq (t : S29) (a : Int) (s : Bool) (ht : toneOk t = true) (ha : -20 ≤ a ∧ a ≤ 20) : impl_ToneAbove.f 1 t.f0 t.f1 a s = some (if toneOk (mvT t a s) = true then (t.f0 + a, s, true) else (0, false, false)) := by
  have hb := toneOk_bd ht
  unfold impl_ToneAbove.f
  rw [impl_Tone_valid_eq]
  have e : (⟨t.f0, t.f1⟩ : S29) = t := rfl
  have d : decide (a > 20) = false := decide_eq_false (by omega)
  rw [e, ht, Option.bind_some, if_pos rfl, if_neg (by omega), d]
  simp only [impl_ToneAbove.j0]
  rw [if_neg (by simp), w64 (x := t.f0 + a) (by omega) (by omega), impl_Tone_valid_eq, Option.bind_some]
  show (if toneOk (mvT t a s) = true then _ else _) = _
  split <;> rfl

/-! movedMelody -/
def mvRes (k semis : Int) (X l : List S29) : List S29 × Bool := match mvAll k semis l with
  | some r => (X ++ r, true)
  | none => ([], false)
theorem mvRes_nil (k semis : Int) (X : List S29) : mvRes k semis X [] = (X, true) := by simp [mvRes, mvAll]
theorem mvRes_yes {k semis : Int} {X l : List S29} {x : S29} {b : Bool} (h : mvGood k semis x b = true) (h' : b = true → ¬ mvGood k semis x false = true) : mvRes k semis X (x :: l) = mvRes k semis (X ++ [mvT x k b]) l := by
  unfold mvRes
  simp only [mvAll]
  cases b
  · rw [if_pos h]; cases mvAll k semis l <;> simp
  · rw [if_neg (h' rfl), if_pos h]; cases mvAll k semis l <;> simp
theorem mvRes_no {k semis : Int} {X l : List S29} {x : S29} (h : ¬ mvGood k semis x true = true) (h' : ¬ mvGood k semis x false = true) : mvRes k semis X (x :: l) = ([], false) := by
  unfold mvRes
  simp only [mvAll]
  rw [if_neg h', if_neg h]
theorem movedP_res (k semis : Int) (m : List S29) : movedP k semis m = mvRes k semis [] m := by unfold movedP mvRes; cases mvAll k semis m <;> simp
theorem LkT.grown {w w1 : World} {B B' : Nat} {ok : Nat → Prop} {v0 : Value} {X : List S29} (hr : Kd.R k29 29 w B' ok v0 X) (hg : w.grownBy w1 v0.ownBlock) : ∀ {xs : List S29} {v : Value}, Lk w B v xs → Lk w1 B v xs
  | [], _, h => h
  | x :: xs, _, ⟨b, nx, h1, h2, h3, h4⟩ => ⟨b, nx, h1, h2, blk_grown h3 hg (Kd.R_ne hr h3 (by decide)), LkT.grown hr hg h4⟩
set_option maxHeartbeats 8000000 in
set_option maxRecDepth 100000 in
theorem impl_movedMelody_calls (m : List S29) (k semis : Int) (A0 : Option Addr) (c0 : Nat) (w : World) (ht : HTab w) (hr0 : Kd.C k29 w A0 m.length m) (hc0 : m.length ≤ c0) (hok : melOk m = true) (hk : -20 ≤ k ∧ k ≤ 20) :
    Calls Tryd.prog 72 #[.slice A0 m.length c0, .int .i64 k, .int .i64 semis] w fun e w' => ∃ v, e = .returned (.tuple #[v, .bool (movedP k semis m).2]) ∧ Kd.R k29 29 w' w.heap.size (fun _ => True) v (movedP k semis m).1 ∧ Below w.heap.size w w' := by
  have hu := Tryd.underlying103
  have hu1 := Tryd.underlying29
  have ix0 : ∀ w, (Instr.index 86 (.agg #[.bool false, .bool true]) (.int .i64 0)).run Tryd.prog w = .ok (.bool false) w := fun _ => by kernel_rfl
  have ix1 : ∀ w, (Instr.index 86 (.agg #[.bool false, .bool true]) (.int .i64 1)).run Tryd.prog w = .ok (.bool true) w := fun _ => by kernel_rfl
  have HT := Aside0.mk ht
  have HR0 := Aside0.mk hr0
  have HC0 := Aside0.mk hc0
  have hall := melOk_all hok
  have hlen := melOk_len hok
  have HKK := Aside0.mk hk
  obtain ⟨⟨R1, R2⟩, hR⟩ : ∃ R, R = movedP k semis m := ⟨_, rfl⟩
  rw [← hR]
  rw [movedP_res] at hR
  have HRR := Aside0.mk hR.symm
  have HALL := Aside0.mk (And.intro hall hlen)
  clear hr0 hc0 ht hR hok hall hk
  go_enter Tryd.func72, Tryd.ntmps72
  go_wp2_with (first
    | ((with_reducible refine gate_dst (N := 15) rfl ?_); refine Kd.R_lit k29 _ 29 ?hg (N := 15) ?hd (xs := ([] : List S29)) (inner := []) (ok := fun _ => True) (okp := fun _ => True) ?hr (Reps.none _ _) (fun _ hk => hk) trivial (Below.refl _ _) (Nat.le_refl _) (by simp) ?_; (case hd => rfl); (case hg => rfl); (case hr => first | (go_simp; done) | (go_simp; rfl)); intro v1 w1 ho1 hb1 _ _; have HO1 := Aside0.mk ho1; have HB1 := Aside0.mk hb1; clear ho1 hb1)
    | (go_at_call 96; refine (impl_linked_calls m _ _ w1 (Kd.C_below HR0.out HB1.out) HC0.out (by omega)).mono ?_; rintro e w3 ⟨v3, rfl, hl3, hb3⟩; have HL3 := Aside0.mk hl3; have HO3 := Aside0.mk (Kd.R_below HO1.out hb3); have HB3 := Aside0.mk (below_step HB1.out hb3); clear hl3 hb3))
  go_loopg [8, 9] m.length (fun kq v8 v9 w' => ∃ (X : List S29) (l : List S29), Aside0 (kq = l.length ∧ mvRes k semis X l = (R1, R2) ∧ l.all toneOk = true ∧ X.length + l.length ≤ 24) ∧ Aside0 (Kd.R k29 29 w' w.heap.size (fun _ => True) v8 X) ∧ Aside0 (Lk w' w1.heap.size v9 l) ∧ Aside0 (Below w.heap.size w w'))
  case atStart => exact ⟨[], m, ⟨rfl, HRR.out, HALL.out.1, by simpa using HALL.out.2⟩, HO3, HL3, HB3⟩
  case round =>
    clear HO3 HL3 HB3
    obtain ⟨X, l, HX, HO, HL, HB⟩ := hrel
    cases l with
    | nil =>
      obtain rfl := HL.out
      obtain ⟨A5, c5, e5⟩ := Kd.R_slice HO.out
      subst e5
      have hXD := HX.out.2.1
      rw [mvRes_nil] at hXD
      cases hXD
      go_wp2
      go_ret2
      exact ⟨_, rfl, HO.out, HB.out⟩
    | cons x l =>
      obtain ⟨b, nx, e1, hbw, hbx, hnx⟩ := HL.out
      subst e1
      obtain ⟨p, rfl⟩ := hnx.ptr
      have NXM : Aside0 (l.length < gk) := ⟨by have := HX.out.1; simp only [List.length_cons] at this; omega⟩
      have HBX := Aside0.mk hbx
      have HNX := Aside0.mk hnx
      have hxl := HX.out.2.2.1
      rw [List.all_cons, Bool.and_eq_true] at hxl
      have HXL := Aside0.mk hxl
      clear hxl hbx hnx HL
      go_wp2
      go_loopg [8, 10, 25] 2 (fun kq v8 v10 v25 w' => ∃ (j : Int), v10 = .bool false ∧ v25 = .int .i64 j ∧ Aside0 (kq = (2 - j).toNat ∧ 0 ≤ j ∧ j ≤ 2 ∧ (1 ≤ j → ¬ mvGood k semis x false = true) ∧ (2 ≤ j → ¬ mvGood k semis x true = true)) ∧ Aside0 (Kd.R k29 29 w' w.heap.size (fun _ => True) v8 X) ∧ Aside0 (w'.heap[b]? = some (.cells #[.int .i64 x.f0, .bool x.f1, .pointer p] 103 (0, 0))) ∧ Aside0 (Lk w' w1.heap.size (.pointer p) l) ∧ Aside0 (Below w.heap.size w w'))
      case atStart => exact ⟨0, rfl, rfl, ⟨rfl, by decide, by decide, by omega, by omega⟩, HO, HBX, HNX, HB⟩
      case round =>
        obtain ⟨j, rfl, rfl, HJ, HO2, HBX2, HNX2, HB2⟩ := hrel
        clear HO HBX HNX HB
        obtain ⟨hk, j0, j2, n0, n1⟩ := HJ.out
        by_cases h2 : j = 2
        · subst h2
          have hR : (R1, R2) = ([], false) := HX.out.2.1.symm.trans (mvRes_no (n1 (by omega)) (n0 (by omega)))
          cases hR
          clear n0 n1 hk j0 j2
          go_wp2
          go_ret2
          exact ⟨_, rfl, Kd.R_nil _ _ _ _ _, HB2.out⟩
        have hj : j = 0 ∨ j = 1 := by omega
        have HY := Aside0.mk (toneOk_bd HXL.out.1)
        rcases hj with rfl | rfl
        · have N0 : Aside0 True := ⟨trivial⟩
          have HK := Aside0.mk hk
          clear n0 n1 hk j0 j2 h2 HJ
          obtain ⟨ok, hv⟩ : ∃ ok, ok = toneOk (mvT x k false) := ⟨_, rfl⟩
          have HV := Aside0.mk hv
          have hta : impl_ToneAbove.f 1 x.f0 x.f1 k false = some (if ok = true then (x.f0 + k, false, true) else (0, false, false)) := by rw [impl_ToneAbove_eq x k false HXL.out.1 HKK.out, hv]
          have HTA := Aside0.mk hta
          clear hta hv
          have hx0 : wr.cell? ⟨b, 0, none⟩ = some (.int .i64 x.f0) := (blk_cell HBX2.out 0).trans rfl
          have hx1 : wr.cell? ⟨b, 1, none⟩ = some (.bool x.f1) := (blk_cell HBX2.out 1).trans rfl
          cases ok
          · have NG : Aside0 (¬ mvGood k semis x false = true) := ⟨by unfold mvGood; rw [← HV.out]; simp⟩
            go_upto_region 10 with (first
              | (go_at_call 53; refine (impl_ToneAbove.calls 1 x.f0 x.f1 k false 0 false false _ (HTA.out.trans rfl)).mono ?_; rintro e w4 ⟨rfl, hb4⟩; have HB4 := Aside0.mk hb4; clear hb4)
              | ((with_reducible refine gate_dst (N := 13) rfl ?_); refine box_event ?hg (N := 13) ?hd (cs := #[.int .i64 0, .bool false]) (t := 29) ?hr ?_; (case hd => rfl); (case hg => rfl); (case hr => first | (go_simp; done) | (go_simp; rfl)); intro gb hg w5 hbox hb5; have HG := Aside0.mk (show w4.heap.size ≤ gb by omega); have HB5 := Aside0.mk hb5; have hcz0 : w5.cell? ⟨gb, 0, none⟩ = some (.int .i64 0) := (blk_cell hbox 0).trans rfl; have hcz1 : w5.cell? ⟨gb, 1, none⟩ = some (.bool false) := (blk_cell hbox 1).trans rfl; have hfz0 := blk_frozen hbox 0; have hfz1 := blk_frozen hbox 1; clear hbox hb5 hg))
            have hbW : Below wr.heap.size wr ((w5.setCell ⟨gb, 0, none⟩ (.int .i64 0)).setCell ⟨gb, 1, none⟩ (.bool false)) := below_step HB4.out (below_set (below_set HB5.out HG.out) HG.out)
            have HBW := Aside0.mk hbW
            clear hbW HB4 HB5 HG hcz0 hcz1 hx0 hx1 hfz0 hfz1
            generalize (w5.setCell ⟨gb, 0, none⟩ (.int .i64 0)).setCell ⟨gb, 1, none⟩ (.bool false) = wx at HBW ⊢
            go_region
            all_goals
              go_wp2
              go_roundg (2 - 1)
              case measure => have := HK.out; omega
              case rel => exact ⟨1, rfl, rfl, ⟨by decide, by decide, by decide, fun _ => NG.out, by omega⟩, ⟨Kd.R_below HO2.out (below_drew1 HBW.out)⟩, ⟨blk_below HBX2.out (below_drew1 HBW.out)⟩, ⟨Lk.below (below_drew1 HBW.out) HNX2.out⟩, ⟨below_step HB2.out (below_drew1 HBW.out)⟩⟩
          · have HB' := Aside0.mk (hgt_bd (t := mvT x k false) HV.out.symm)
            have HB'' := Aside0.mk (hgt_bd HXL.out.1)
            obtain ⟨Y, hY⟩ : ∃ Y, Y = x.f0 + k := ⟨_, rfl⟩
            have hYT : mvT x k false = ⟨Y, false⟩ := by rw [hY]; rfl
            have hgood : mvGood k semis x false = decide (hgt ⟨Y, false⟩ - hgt x = semis) := by unfold mvGood; rw [← HV.out, ← hYT]; rfl
            have HGD := Aside0.mk hgood
            have HYT := Aside0.mk hYT
            have HYO := Aside0.mk (show toneOk ⟨Y, false⟩ = true by rw [← hYT]; exact HV.out.symm)
            have EW : Aside0 (IntKind.i64.wrap (hgt ⟨Y, false⟩ - hgt x) = hgt ⟨Y, false⟩ - hgt x) := ⟨by rw [← hYT, i64_w]; exact w64 (x := hgt (mvT x k false) - hgt x) (by have := HB'.out; have := HB''.out; omega) (by have := HB'.out; have := HB''.out; omega)⟩
            rw [← hY] at HTA
            clear hY hYT hgood HB' HB''
            go_upto_region 10 with (first
              | (go_at_call 53; refine (impl_ToneAbove.calls 1 x.f0 x.f1 k false Y false true _ (HTA.out.trans rfl)).mono ?_; rintro e w4 ⟨rfl, hb4⟩; have HB4 := Aside0.mk hb4; clear hb4)
              | ((with_reducible refine gate_dst (N := 13) rfl ?_); refine box_event ?hg (N := 13) ?hd (cs := #[.int .i64 0, .bool false]) (t := 29) ?hr ?_; (case hd => rfl); (case hg => rfl); (case hr => first | (go_simp; done) | (go_simp; rfl)); intro gb hg w5 hbox hb5; have HG := Aside0.mk (show w4.heap.size ≤ gb by omega); have HB5 := Aside0.mk hb5; have HBK := Aside0.mk hbox; have hcz0 : w5.cell? ⟨gb, 0, none⟩ = some (.int .i64 0) := (blk_cell hbox 0).trans rfl; have hcz1 : w5.cell? ⟨gb, 1, none⟩ = some (.bool false) := (blk_cell hbox 1).trans rfl; have hfz0 := blk_frozen hbox 0; have hfz1 := blk_frozen hbox 1; clear hbox hb5 hg))
            have hbW : Below wr.heap.size wr ((w5.setCell ⟨gb, 0, none⟩ (.int .i64 Y)).setCell ⟨gb, 1, none⟩ (.bool false)) := below_step HB4.out (below_set (below_set HB5.out HG.out) HG.out)
            have hbk : ((w5.setCell ⟨gb, 0, none⟩ (.int .i64 Y)).setCell ⟨gb, 1, none⟩ (.bool false)).heap[gb]? = some (.cells #[.int .i64 Y, .bool false] 29 (0, 0)) := blk_put (cs := #[.int .i64 Y, .bool false]) (blk_put (cs := #[.int .i64 0, .bool false]) HBK.out 0 _ rfl) 1 _ rfl
            have HBW := Aside0.mk hbW
            have HBKW := Aside0.mk hbk
            clear hbW hbk HB4 HB5 HG HBK hcz0 hcz1 hx0 hx1 hfz0 hfz1
            generalize (w5.setCell ⟨gb, 0, none⟩ (.int .i64 Y)).setCell ⟨gb, 1, none⟩ (.bool false) = wx at HBW HBKW ⊢
            have hg0 : wx.drew.cell? ⟨gb, 0, none⟩ = some (.int .i64 Y) := (blk_cell HBKW.out 0).trans rfl
            have hg1 : wx.drew.cell? ⟨gb, 1, none⟩ = some (.bool false) := (blk_cell HBKW.out 1).trans rfl
            have hy0 : wx.drew.cell? ⟨b, 0, none⟩ = some (.int .i64 x.f0) := pw_cell_below (below_drew1 HBW.out) ((blk_cell HBX2.out 0).trans rfl)
            have hy1 : wx.drew.cell? ⟨b, 1, none⟩ = some (.bool x.f1) := pw_cell_below (below_drew1 HBW.out) ((blk_cell HBX2.out 1).trans rfl)
            have HTW := Aside0.mk (HT.out.below (below_step HB2.out (below_drew1 HBW.out)))
            go_region_held3 (fun w' => w'.cell? ⟨gb, 0, none⟩ = some (.int .i64 Y) ∧ w'.cell? ⟨gb, 1, none⟩ = some (.bool false) ∧ w'.cell? ⟨b, 0, none⟩ = some (.int .i64 x.f0) ∧ w'.cell? ⟨b, 1, none⟩ = some (.bool x.f1))
              (first
                | exact ⟨hg0, hg1, hy0, hy1⟩
                | go_keep
                | exact ⟨pw_cell_below hb6 hg0, pw_cell_below hb6 hg1, pw_cell_below hb6 hy0, pw_cell_below hb6 hy1⟩
                | exact ⟨pw_cell_below (below_step hb6 hb7) hg0, pw_cell_below (below_step hb6 hb7) hg1, pw_cell_below (below_step hb6 hb7) hy0, pw_cell_below (below_step hb6 hb7) hy1⟩
                | fail)
              (first
                | (go_at_call 73; with_reducible refine (impl_height_calls ⟨Y, false⟩ wx.drew HTW.out HYO.out).mono ?_; rintro e w6 ⟨rfl, hb6⟩)
                | (go_at_call 73; with_reducible refine (impl_height_calls x w6 (HTW.out.below hb6) HXL.out.1).mono ?_; rintro e w7 ⟨rfl, hb7⟩)
                | fail)
            have HB7 := Aside0.mk (below_step (below_drew1 HBW.out) (below_step hb6 hb7))
            have hz0 := pw_cell_below (below_step hb6 hb7) hg0
            have hz1 := pw_cell_below (below_step hb6 hb7) hg1
            have HO7 := Aside0.mk (Kd.R_below HO2.out HB7.out)
            have HBX7 := Aside0.mk (blk_below HBX2.out HB7.out)
            have HNX7 := Aside0.mk (Lk.below HB7.out HNX2.out)
            have HW7 := Aside0.mk (below_step HB2.out HB7.out)
            clear hg0 hg1 hy0 hy1 hb6 hb7 HBKW HBW HTW
            by_cases hs : hgt ⟨Y, false⟩ - hgt x = semis
            · have d1 : (IntKind.i64.wrap (hgt ⟨Y, false⟩ - hgt x) == semis) = true := beq_iff_eq.2 (EW.out.trans hs)
              have d2 : decide (hgt ⟨Y, false⟩ - hgt x = semis) = true := decide_eq_true hs
              have GO : Aside0 (mvGood k semis x false = true) := ⟨by rw [HGD.out]; exact d2⟩
              have bx := HX.out.2.2.2
              clear hs
              go_wp2_with ((with_reducible refine gate_builtin (b := .append) (xs := #[.tmp 51, .tmp 53]) rfl ?_); at_builtin; go_loud (refine Kd.R_append k29 (w0 := w) w.heap.size rfl (.tmp 51) (.tmp 53) 23 29 (.agg #[(.int .i64 0), (.bool false)]) 16 rfl Tryd.underlying23 info29 rfl (by decide) (by omega) _ X (⟨Y, false⟩ : S29) [.int .i64 Y, .bool false] (fun _ => True) (fun _ => False) rfl rfl (k29_mkM _ _ _ _) (fun _ hk => hk.elim) (fun _ _ => trivial) HO7.out HW7.out HW7.out.size (by omega) ?_); intro v9 w8 ho8 hb8 hg8 hat8; have HO8 := Aside0.mk ho8; have HB8 := Aside0.mk hb8; have HNX8 := Aside0.mk (LkT.grown HO7.out hg8 HNX7.out); have cx2 : w8.cell? ⟨b, 2, none⟩ = some (.pointer p) := (blk_cell (blk_grown HBX7.out hg8 (Kd.R_ne HO7.out HBX7.out (by decide))) 2).trans rfl; clear ho8 hb8 hg8 hat8)
              go_roundg l.length
              case measure => exact NXM.out
              case rel => exact ⟨X ++ [⟨Y, false⟩], l, ⟨rfl, by rw [← HYT.out, ← mvRes_yes GO.out (fun h => by cases h)]; exact HX.out.2.1, HXL.out.2, by simp only [List.length_append, List.length_cons, List.length_nil] at bx ⊢; omega⟩, HO8, HNX8, HB8⟩
            · have d1 : (IntKind.i64.wrap (hgt ⟨Y, false⟩ - hgt x) == semis) = false := beq_eq_false_iff_ne.2 (fun h => hs (EW.out.symm.trans h))
              have d2 : decide (hgt ⟨Y, false⟩ - hgt x = semis) = false := decide_eq_false hs
              have NG : Aside0 (¬ mvGood k semis x false = true) := ⟨by rw [HGD.out, d2]; decide⟩
              clear hs
              go_wp2
              go_roundg (2 - 1)
              case measure => have := HK.out; omega
              case rel => exact ⟨1, rfl, rfl, ⟨by decide, by decide, by decide, fun _ => NG.out, by omega⟩, HO7, HBX7, HNX7, HW7⟩
        · have N0 := Aside0.mk (n0 (by omega))
          have HK := Aside0.mk hk
          clear n0 n1 hk j0 j2 h2 HJ
          obtain ⟨ok, hv⟩ : ∃ ok, ok = toneOk (mvT x k true) := ⟨_, rfl⟩
          have HV := Aside0.mk hv
          have hta : impl_ToneAbove.f 1 x.f0 x.f1 k true = some (if ok = true then (x.f0 + k, true, true) else (0, false, false)) := by rw [impl_ToneAbove_eq x k true HXL.out.1 HKK.out, hv]
          have HTA := Aside0.mk hta
          clear hta hv
          have hx0 : wr.cell? ⟨b, 0, none⟩ = some (.int .i64 x.f0) := (blk_cell HBX2.out 0).trans rfl
          have hx1 : wr.cell? ⟨b, 1, none⟩ = some (.bool x.f1) := (blk_cell HBX2.out 1).trans rfl
          cases ok
          · have NG : Aside0 (¬ mvGood k semis x true = true) := ⟨by unfold mvGood; rw [← HV.out]; simp⟩
            go_upto_region 10 with (first
              | (go_at_call 53; refine (impl_ToneAbove.calls 1 x.f0 x.f1 k true 0 false false _ (HTA.out.trans rfl)).mono ?_; rintro e w4 ⟨rfl, hb4⟩; have HB4 := Aside0.mk hb4; clear hb4)
              | ((with_reducible refine gate_dst (N := 13) rfl ?_); refine box_event ?hg (N := 13) ?hd (cs := #[.int .i64 0, .bool false]) (t := 29) ?hr ?_; (case hd => rfl); (case hg => rfl); (case hr => first | (go_simp; done) | (go_simp; rfl)); intro gb hg w5 hbox hb5; have HG := Aside0.mk (show w4.heap.size ≤ gb by omega); have HB5 := Aside0.mk hb5; have hcz0 : w5.cell? ⟨gb, 0, none⟩ = some (.int .i64 0) := (blk_cell hbox 0).trans rfl; have hcz1 : w5.cell? ⟨gb, 1, none⟩ = some (.bool false) := (blk_cell hbox 1).trans rfl; have hfz0 := blk_frozen hbox 0; have hfz1 := blk_frozen hbox 1; clear hbox hb5 hg))
            have hbW : Below wr.heap.size wr ((w5.setCell ⟨gb, 0, none⟩ (.int .i64 0)).setCell ⟨gb, 1, none⟩ (.bool false)) := below_step HB4.out (below_set (below_set HB5.out HG.out) HG.out)
            have HBW := Aside0.mk hbW
            clear hbW HB4 HB5 HG hcz0 hcz1 hx0 hx1 hfz0 hfz1
            generalize (w5.setCell ⟨gb, 0, none⟩ (.int .i64 0)).setCell ⟨gb, 1, none⟩ (.bool false) = wx at HBW ⊢
            go_region
            all_goals
              go_wp2
              go_roundg (2 - 2)
              case measure => have := HK.out; omega
              case rel => exact ⟨2, rfl, rfl, ⟨by decide, by decide, by decide, fun _ => N0.out, fun _ => NG.out⟩, ⟨Kd.R_below HO2.out (below_drew1 HBW.out)⟩, ⟨blk_below HBX2.out (below_drew1 HBW.out)⟩, ⟨Lk.below (below_drew1 HBW.out) HNX2.out⟩, ⟨below_step HB2.out (below_drew1 HBW.out)⟩⟩
          · have HB' := Aside0.mk (hgt_bd (t := mvT x k true) HV.out.symm)
            have HB'' := Aside0.mk (hgt_bd HXL.out.1)
            obtain ⟨Y, hY⟩ : ∃ Y, Y = x.f0 + k := ⟨_, rfl⟩
            have hYT : mvT x k true = ⟨Y, true⟩ := by rw [hY]; rfl
            have hgood : mvGood k semis x true = decide (hgt ⟨Y, true⟩ - hgt x = semis) := by unfold mvGood; rw [← HV.out, ← hYT]; rfl
            have HGD := Aside0.mk hgood
            have HYT := Aside0.mk hYT
            have HYO := Aside0.mk (show toneOk ⟨Y, true⟩ = true by rw [← hYT]; exact HV.out.symm)
            have EW : Aside0 (IntKind.i64.wrap (hgt ⟨Y, true⟩ - hgt x) = hgt ⟨Y, true⟩ - hgt x) := ⟨by rw [← hYT, i64_w]; exact w64 (x := hgt (mvT x k true) - hgt x) (by have := HB'.out; have := HB''.out; omega) (by have := HB'.out; have := HB''.out; omega)⟩
            rw [← hY] at HTA
            clear hY hYT hgood HB' HB''
            go_upto_region 10 with (first
              | (go_at_call 53; refine (impl_ToneAbove.calls 1 x.f0 x.f1 k true Y true true _ (HTA.out.trans rfl)).mono ?_; rintro e w4 ⟨rfl, hb4⟩; have HB4 := Aside0.mk hb4; clear hb4)
              | ((with_reducible refine gate_dst (N := 13) rfl ?_); refine box_event ?hg (N := 13) ?hd (cs := #[.int .i64 0, .bool false]) (t := 29) ?hr ?_; (case hd => rfl); (case hg => rfl); (case hr => first | (go_simp; done) | (go_simp; rfl)); intro gb hg w5 hbox hb5; have HG := Aside0.mk (show w4.heap.size ≤ gb by omega); have HB5 := Aside0.mk hb5; have HBK := Aside0.mk hbox; have hcz0 : w5.cell? ⟨gb, 0, none⟩ = some (.int .i64 0) := (blk_cell hbox 0).trans rfl; have hcz1 : w5.cell? ⟨gb, 1, none⟩ = some (.bool false) := (blk_cell hbox 1).trans rfl; have hfz0 := blk_frozen hbox 0; have hfz1 := blk_frozen hbox 1; clear hbox hb5 hg))
            have hbW : Below wr.heap.size wr ((w5.setCell ⟨gb, 0, none⟩ (.int .i64 Y)).setCell ⟨gb, 1, none⟩ (.bool true)) := below_step HB4.out (below_set (below_set HB5.out HG.out) HG.out)
            have hbk : ((w5.setCell ⟨gb, 0, none⟩ (.int .i64 Y)).setCell ⟨gb, 1, none⟩ (.bool true)).heap[gb]? = some (.cells #[.int .i64 Y, .bool true] 29 (0, 0)) := blk_put (cs := #[.int .i64 Y, .bool false]) (blk_put (cs := #[.int .i64 0, .bool false]) HBK.out 0 _ rfl) 1 _ rfl
            have HBW := Aside0.mk hbW
            have HBKW := Aside0.mk hbk
            clear hbW hbk HB4 HB5 HG HBK hcz0 hcz1 hx0 hx1 hfz0 hfz1
            generalize (w5.setCell ⟨gb, 0, none⟩ (.int .i64 Y)).setCell ⟨gb, 1, none⟩ (.bool true) = wx at HBW HBKW ⊢
            have hg0 : wx.drew.cell? ⟨gb, 0, none⟩ = some (.int .i64 Y) := (blk_cell HBKW.out 0).trans rfl
            have hg1 : wx.drew.cell? ⟨gb, 1, none⟩ = some (.bool true) := (blk_cell HBKW.out 1).trans rfl
            have hy0 : wx.drew.cell? ⟨b, 0, none⟩ = some (.int .i64 x.f0) := pw_cell_below (below_drew1 HBW.out) ((blk_cell HBX2.out 0).trans rfl)
            have hy1 : wx.drew.cell? ⟨b, 1, none⟩ = some (.bool x.f1) := pw_cell_below (below_drew1 HBW.out) ((blk_cell HBX2.out 1).trans rfl)
            have HTW := Aside0.mk (HT.out.below (below_step HB2.out (below_drew1 HBW.out)))
            go_region_held3 (fun w' => w'.cell? ⟨gb, 0, none⟩ = some (.int .i64 Y) ∧ w'.cell? ⟨gb, 1, none⟩ = some (.bool true) ∧ w'.cell? ⟨b, 0, none⟩ = some (.int .i64 x.f0) ∧ w'.cell? ⟨b, 1, none⟩ = some (.bool x.f1))
              (first
                | exact ⟨hg0, hg1, hy0, hy1⟩
                | go_keep
                | exact ⟨pw_cell_below hb6 hg0, pw_cell_below hb6 hg1, pw_cell_below hb6 hy0, pw_cell_below hb6 hy1⟩
                | exact ⟨pw_cell_below (below_step hb6 hb7) hg0, pw_cell_below (below_step hb6 hb7) hg1, pw_cell_below (below_step hb6 hb7) hy0, pw_cell_below (below_step hb6 hb7) hy1⟩
                | fail)
              (first
                | (go_at_call 73; with_reducible refine (impl_height_calls ⟨Y, true⟩ wx.drew HTW.out HYO.out).mono ?_; rintro e w6 ⟨rfl, hb6⟩)
                | (go_at_call 73; with_reducible refine (impl_height_calls x w6 (HTW.out.below hb6) HXL.out.1).mono ?_; rintro e w7 ⟨rfl, hb7⟩)
                | fail)
            have HB7 := Aside0.mk (below_step (below_drew1 HBW.out) (below_step hb6 hb7))
            have hz0 := pw_cell_below (below_step hb6 hb7) hg0
            have hz1 := pw_cell_below (below_step hb6 hb7) hg1
            have HO7 := Aside0.mk (Kd.R_below HO2.out HB7.out)
            have HBX7 := Aside0.mk (blk_below HBX2.out HB7.out)
            have HNX7 := Aside0.mk (Lk.below HB7.out HNX2.out)
            have HW7 := Aside0.mk (below_step HB2.out HB7.out)
            clear hg0 hg1 hy0 hy1 hb6 hb7 HBKW HBW HTW
            by_cases hs : hgt ⟨Y, true⟩ - hgt x = semis
            · have d1 : (IntKind.i64.wrap (hgt ⟨Y, true⟩ - hgt x) == semis) = true := beq_iff_eq.2 (EW.out.trans hs)
              have d2 : decide (hgt ⟨Y, true⟩ - hgt x = semis) = true := decide_eq_true hs
              have GO : Aside0 (mvGood k semis x true = true) := ⟨by rw [HGD.out]; exact d2⟩
              have bx := HX.out.2.2.2
              clear hs
              go_wp2_with ((with_reducible refine gate_builtin (b := .append) (xs := #[.tmp 51, .tmp 53]) rfl ?_); at_builtin; go_loud (refine Kd.R_append k29 (w0 := w) w.heap.size rfl (.tmp 51) (.tmp 53) 23 29 (.agg #[(.int .i64 0), (.bool false)]) 16 rfl Tryd.underlying23 info29 rfl (by decide) (by omega) _ X (⟨Y, true⟩ : S29) [.int .i64 Y, .bool true] (fun _ => True) (fun _ => False) rfl rfl (k29_mkM _ _ _ _) (fun _ hk => hk.elim) (fun _ _ => trivial) HO7.out HW7.out HW7.out.size (by omega) ?_); intro v9 w8 ho8 hb8 hg8 hat8; have HO8 := Aside0.mk ho8; have HB8 := Aside0.mk hb8; have HNX8 := Aside0.mk (LkT.grown HO7.out hg8 HNX7.out); have cx2 : w8.cell? ⟨b, 2, none⟩ = some (.pointer p) := (blk_cell (blk_grown HBX7.out hg8 (Kd.R_ne HO7.out HBX7.out (by decide))) 2).trans rfl; clear ho8 hb8 hg8 hat8)
              go_roundg l.length
              case measure => exact NXM.out
              case rel => exact ⟨X ++ [⟨Y, true⟩], l, ⟨rfl, by rw [← HYT.out, ← mvRes_yes GO.out (fun _ => N0.out)]; exact HX.out.2.1, HXL.out.2, by simp only [List.length_append, List.length_cons, List.length_nil] at bx ⊢; omega⟩, HO8, HNX8, HB8⟩
            · have d1 : (IntKind.i64.wrap (hgt ⟨Y, true⟩ - hgt x) == semis) = false := beq_eq_false_iff_ne.2 (fun h => hs (EW.out.symm.trans h))
              have d2 : decide (hgt ⟨Y, true⟩ - hgt x = semis) = false := decide_eq_false hs
              have NG : Aside0 (¬ mvGood k semis x true = true) := ⟨by rw [HGD.out, d2]; decide⟩
              clear hs
              go_wp2
              go_roundg (2 - 2)
              case measure => have := HK.out; omega
              case rel => exact ⟨2, rfl, rfl, ⟨by decide, by decide, by decide, fun _ => N0.out, fun _ => NG.out⟩, HO7, HBX7, HNX7, HW7⟩

end Go.Proofs.YtclpnaaagajhiaaDoor.Pure
