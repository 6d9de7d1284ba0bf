/- Lemmas for the law FnExactPsalmMove. -/
import Derived.Test.YtpcohkffbjdmfaaDoorSFnExactPsalmMoves1
namespace Go.Proofs.YtpcohkffbjdmfaaDoor.Pure
set_option linter.unusedVariables false
set_option linter.unusedSimpArgs false
open Go Go.RowKit Go.Proofs.YtpcohkffbjdmfaaDoor.PFnExactPsalmMove Go.Proofs.YtpcohkffbjdmfaaDoorW.PrintWords Go.Proofs.YtpcohkffbjdmfaaDoorW.PrintLast Go.Proofs.YtpcohkffbjdmfaaDoorW.PrintMore

def mvRes (k semis : Int) (X l : List S29) : List S29 × Bool := match mvAll k semis l with
 | some r => (X ++ r, true)
 | none => ([], false)
theorem mvRes_nil (k semis : Int) (X : List S29) : mvRes k semis X [] = (X, true) := by simp [mvRes, mvAll]
theorem mvRes_yes {k semis : Int} {X l : List S29} {x : S29} {b : Bool} (h : mvGood k semis x b = true) (h' : b = true → ¬ mvGood k semis x false = true) : mvRes k semis X (x :: l) = mvRes k semis (X ++ [mvT x k b]) l := by
 unfold mvRes
 simp only [mvAll]
 cases b
 ·
  rw [if_pos h]; cases mvAll k semis l <;> simp
 ·
  rw [if_neg (h' rfl), if_pos h]; cases mvAll k semis l <;> simp
theorem mvRes_no {k semis : Int} {X l : List S29} {x : S29} (h : ¬ mvGood k semis x true = true) (h' : ¬ mvGood k semis x false = true) : mvRes k semis X (x :: l) = ([], false) := by
 unfold mvRes
 simp only [mvAll]
 rw [if_neg h', if_neg h]
theorem movedP_res (k semis : Int) (m : List S29) : movedP k semis m = mvRes k semis [] m := by unfold movedP mvRes; cases mvAll k semis m <;> simp
theorem LkT.grown {w w1 : World} {B B' : Nat} {ok : Nat → Prop} {v0 : Value} {X : List S29} (hr : Kd.R k29 29 w B' ok v0 X) (hg : w.grownBy w1 v0.ownBlock) : ∀ {xs : List S29} {v : Value}, Lk w B v xs → Lk w1 B v xs
 | [], _, h => h
 | x :: xs, _, ⟨b, nx, h1, h2, h3, h4⟩ => ⟨b, nx, h1, h2, blk_grown h3 hg (Kd.R_ne hr h3 (by decide)), LkT.grown hr hg h4⟩
set_option maxHeartbeats 8000000 in
set_option maxRecDepth 100000 in
theorem impl_movedMelody_calls (m : List S29) (k semis : Int) (A0 : Option Addr) (c0 : Nat) (w : World) (ht : HTab w) (hr0 : Kd.C k29 w A0 m.length m) (hc0 : m.length ≤ c0) (hok : melOk m = true) (hk : -20 ≤ k ∧ k ≤ 20) :
 Calls Tryd.prog 70 #[.slice A0 m.length c0, .int .i64 k, .int .i64 semis] w fun e w' => ∃ v, e = .returned (.tuple #[v, .bool (movedP k semis m).2]) ∧ Kd.R k29 29 w' w.heap.size (fun _ => True) v (movedP k semis m).1 ∧ Below w.heap.size w w' := by
 have hu := Tryd.underlying146
 have hu1 := Tryd.underlying29
 have ix0 : ∀ w, (Instr.index 89 (.agg #[.bool false, .bool true]) (.int .i64 0)).run Tryd.prog w = .ok (.bool false) w := fun _ => by kernel_rfl
 have ix1 : ∀ w, (Instr.index 89 (.agg #[.bool false, .bool true]) (.int .i64 1)).run Tryd.prog w = .ok (.bool true) w := fun _ => by kernel_rfl
 have HT := Aside0.mk ht
 have HR0 := Aside0.mk hr0
 have HC0 := Aside0.mk hc0
 have hall := melOk_all hok
 have hlen := melOk_len hok
 have HKK := Aside0.mk hk
 obtain ⟨⟨R1, R2⟩, hR⟩ : ∃ R, R = movedP k semis m := ⟨_, rfl⟩
 rw [← hR]
 rw [movedP_res] at hR
 have HRR := Aside0.mk hR.symm
 have HALL := Aside0.mk (And.intro hall hlen)
 clear hr0 hc0 ht hR hok hall hk
 go_enter Tryd.func70, Tryd.ntmps70
 go_wp2_with (first
  | ((with_reducible refine gate_dst (N := 15) rfl ?_); refine Kd.R_lit k29 _ 29 ?hg (N := 15) ?hd (xs := ([] : List S29)) (inner := []) (ok := fun _ => True) (okp := fun _ => True) ?hr (Reps.none _ _) (fun _ hk => hk) trivial (Below.refl _ _) (Nat.le_refl _) (by simp) ?_; (case hd => rfl); (case hg => rfl); (case hr => first | (go_simp; done) | (go_simp; rfl)); intro v1 w1 ho1 hb1 _ _; have HO1 := Aside0.mk ho1; have HB1 := Aside0.mk hb1; clear ho1 hb1)
  | (go_at_call 104; refine (impl_linked_calls m _ _ w1 (Kd.C_below HR0.out HB1.out) HC0.out (by omega)).mono ?_; rintro e w3 ⟨v3, rfl, hl3, hb3⟩; have HL3 := Aside0.mk hl3; have HO3 := Aside0.mk (Kd.R_below HO1.out hb3); have HB3 := Aside0.mk (below_step HB1.out hb3); clear hl3 hb3))
 go_loopg [8, 9] m.length (fun kq v8 v9 w' => ∃ (X : List S29) (l : List S29), Aside0 (kq = l.length ∧ mvRes k semis X l = (R1, R2) ∧ l.all toneOk = true ∧ X.length + l.length ≤ 24) ∧ Aside0 (Kd.R k29 29 w' w.heap.size (fun _ => True) v8 X) ∧ Aside0 (Lk w' w1.heap.size v9 l) ∧ Aside0 (Below w.heap.size w w'))
 case atStart => exact ⟨[], m, ⟨rfl, HRR.out, HALL.out.1, by simpa using HALL.out.2⟩, HO3, HL3, HB3⟩
 case round =>
  clear HO3 HL3 HB3
  obtain ⟨X, l, HX, HO, HL, HB⟩ := hrel
  cases l with
  | nil =>
   obtain rfl := HL.out
   obtain ⟨A5, c5, e5⟩ := Kd.R_slice HO.out
   subst e5
   have hXD := HX.out.2.1
   rw [mvRes_nil] at hXD
   cases hXD
   go_wp2
   go_ret2
   exact ⟨_, rfl, HO.out, HB.out⟩
  | cons x l =>
   obtain ⟨b, nx, e1, hbw, hbx, hnx⟩ := HL.out
   subst e1
   obtain ⟨p, rfl⟩ := hnx.ptr
   have NXM : Aside0 (l.length < gk) := ⟨by have := HX.out.1; simp only [List.length_cons] at this; omega⟩
   have HBX := Aside0.mk hbx
   have HNX := Aside0.mk hnx
   have hxl := HX.out.2.2.1
   rw [List.all_cons, Bool.and_eq_true] at hxl
   have HXL := Aside0.mk hxl
   clear hxl hbx hnx HL
   go_wp2
   go_loopg [8, 10, 25] 2 (fun kq v8 v10 v25 w' => ∃ (j : Int), v10 = .bool false ∧ v25 = .int .i64 j ∧ Aside0 (kq = (2 - j).toNat ∧ 0 ≤ j ∧ j ≤ 2 ∧ (1 ≤ j → ¬ mvGood k semis x false = true) ∧ (2 ≤ j → ¬ mvGood k semis x true = true)) ∧ Aside0 (Kd.R k29 29 w' w.heap.size (fun _ => True) v8 X) ∧ Aside0 (w'.heap[b]? = some (.cells #[.int .i64 x.f0, .bool x.f1, .pointer p] 146 (0, 0))) ∧ Aside0 (Lk w' w1.heap.size (.pointer p) l) ∧ Aside0 (Below w.heap.size w w'))
   case atStart => exact ⟨0, rfl, rfl, ⟨rfl, by decide, by decide, by omega, by omega⟩, HO, HBX, HNX, HB⟩
   case round =>
    obtain ⟨j, rfl, rfl, HJ, HO2, HBX2, HNX2, HB2⟩ := hrel
    clear HO HBX HNX HB
    obtain ⟨hk, j0, j2, n0, n1⟩ := HJ.out
    by_cases h2 : j = 2
    ·
     subst h2
     have hR : (R1, R2) = ([], false) := HX.out.2.1.symm.trans (mvRes_no (n1 (by omega)) (n0 (by omega)))
     cases hR
     clear n0 n1 hk j0 j2
     go_wp2
     go_ret2
     exact ⟨_, rfl, Kd.R_nil _ _ _ _ _, HB2.out⟩
    have hj : j = 0 ∨ j = 1 := by omega
    have HY := Aside0.mk (toneOk_bd HXL.out.1)
    rcases hj with rfl | rfl
    ·
     have N0 : Aside0 True := ⟨trivial⟩
     have HK := Aside0.mk hk
     clear n0 n1 hk j0 j2 h2 HJ
     obtain ⟨ok, hv⟩ : ∃ ok, ok = toneOk (mvT x k false) := ⟨_, rfl⟩
     have HV := Aside0.mk hv
     have hta : impl_ToneAbove.f 1 x.f0 x.f1 k false = some (if ok = true then (x.f0 + k, false, true) else (0, false, false)) := by rw [impl_ToneAbove_eq x k false HXL.out.1 HKK.out, hv]
     have HTA := Aside0.mk hta
     clear hta hv
     have hx0 : wr.cell? ⟨b, 0, none⟩ = some (.int .i64 x.f0) := (blk_cell HBX2.out 0).trans rfl
     have hx1 : wr.cell? ⟨b, 1, none⟩ = some (.bool x.f1) := (blk_cell HBX2.out 1).trans rfl
     cases ok
     ·
      have NG : Aside0 (¬ mvGood k semis x false = true) := ⟨by unfold mvGood; rw [← HV.out]; simp⟩
      go_upto_region 10 with (first
       | (go_at_call 69; refine (impl_ToneAbove.calls 1 x.f0 x.f1 k false 0 false false _ (HTA.out.trans rfl)).mono ?_; rintro e w4 ⟨rfl, hb4⟩; have HB4 := Aside0.mk hb4; clear hb4)
       | ((with_reducible refine gate_dst (N := 13) rfl ?_); refine box_event ?hg (N := 13) ?hd (cs := #[.int .i64 0, .bool false]) (t := 29) ?hr ?_; (case hd => rfl); (case hg => rfl); (case hr => first | (go_simp; done) | (go_simp; rfl)); intro gb hg w5 hbox hb5; have HG := Aside0.mk (show w4.heap.size ≤ gb by omega); have HB5 := Aside0.mk hb5; have hcz0 : w5.cell? ⟨gb, 0, none⟩ = some (.int .i64 0) := (blk_cell hbox 0).trans rfl; have hcz1 : w5.cell? ⟨gb, 1, none⟩ = some (.bool false) := (blk_cell hbox 1).trans rfl; have hfz0 := blk_frozen hbox 0; have hfz1 := blk_frozen hbox 1; clear hbox hb5 hg))
      have hbW : Below wr.heap.size wr ((w5.setCell ⟨gb, 0, none⟩ (.int .i64 0)).setCell ⟨gb, 1, none⟩ (.bool false)) := below_step HB4.out (below_set (below_set HB5.out HG.out) HG.out)
      have HBW := Aside0.mk hbW
      clear hbW HB4 HB5 HG hcz0 hcz1 hx0 hx1 hfz0 hfz1
      generalize (w5.setCell ⟨gb, 0, none⟩ (.int .i64 0)).setCell ⟨gb, 1, none⟩ (.bool false) = wx at HBW ⊢
      go_region
      all_goals
       go_wp2
       go_roundg (2 - 1)
       case measure => have := HK.out; omega
       case rel => exact ⟨1, rfl, rfl, ⟨by decide, by decide, by decide, fun _ => NG.out, by omega⟩, ⟨Kd.R_below HO2.out (below_drew1 HBW.out)⟩, ⟨blk_below HBX2.out (below_drew1 HBW.out)⟩, ⟨Lk.below (below_drew1 HBW.out) HNX2.out⟩, ⟨below_step HB2.out (below_drew1 HBW.out)⟩⟩
     ·
      have HB' := Aside0.mk (hgt_bd (t := mvT x k false) HV.out.symm)
      have HB'' := Aside0.mk (hgt_bd HXL.out.1)
      obtain ⟨Y, hY⟩ : ∃ Y, Y = x.f0 + k := ⟨_, rfl⟩
      have hYT : mvT x k false = ⟨Y, false⟩ := by rw [hY]; rfl
      have hgood : mvGood k semis x false = decide (hgt ⟨Y, false⟩ - hgt x = semis) := by unfold mvGood; rw [← HV.out, ← hYT]; rfl
      have HGD := Aside0.mk hgood
      have HYT := Aside0.mk hYT
      have HYO := Aside0.mk (show toneOk ⟨Y, false⟩ = true by rw [← hYT]; exact HV.out.symm)
      have EW : Aside0 (IntKind.i64.wrap (hgt ⟨Y, false⟩ - hgt x) = hgt ⟨Y, false⟩ - hgt x) := ⟨by rw [← hYT, i64_w]; exact w64 (x := hgt (mvT x k false) - hgt x) (by have := HB'.out; have := HB''.out; omega) (by have := HB'.out; have := HB''.out; omega)⟩
      rw [← hY] at HTA
      clear hY hYT hgood HB' HB''
      go_upto_region 10 with (first
       | (go_at_call 69; refine (impl_ToneAbove.calls 1 x.f0 x.f1 k false Y false true _ (HTA.out.trans rfl)).mono ?_; rintro e w4 ⟨rfl, hb4⟩; have HB4 := Aside0.mk hb4; clear hb4)
       | ((with_reducible refine gate_dst (N := 13) rfl ?_); refine box_event ?hg (N := 13) ?hd (cs := #[.int .i64 0, .bool false]) (t := 29) ?hr ?_; (case hd => rfl); (case hg => rfl); (case hr => first | (go_simp; done) | (go_simp; rfl)); intro gb hg w5 hbox hb5; have HG := Aside0.mk (show w4.heap.size ≤ gb by omega); have HB5 := Aside0.mk hb5; have HBK := Aside0.mk hbox; have hcz0 : w5.cell? ⟨gb, 0, none⟩ = some (.int .i64 0) := (blk_cell hbox 0).trans rfl; have hcz1 : w5.cell? ⟨gb, 1, none⟩ = some (.bool false) := (blk_cell hbox 1).trans rfl; have hfz0 := blk_frozen hbox 0; have hfz1 := blk_frozen hbox 1; clear hbox hb5 hg))
      have hbW : Below wr.heap.size wr ((w5.setCell ⟨gb, 0, none⟩ (.int .i64 Y)).setCell ⟨gb, 1, none⟩ (.bool false)) := below_step HB4.out (below_set (below_set HB5.out HG.out) HG.out)
      have hbk : ((w5.setCell ⟨gb, 0, none⟩ (.int .i64 Y)).setCell ⟨gb, 1, none⟩ (.bool false)).heap[gb]? = some (.cells #[.int .i64 Y, .bool false] 29 (0, 0)) := blk_put (cs := #[.int .i64 Y, .bool false]) (blk_put (cs := #[.int .i64 0, .bool false]) HBK.out 0 _ rfl) 1 _ rfl
      have HBW := Aside0.mk hbW
      have HBKW := Aside0.mk hbk
      clear hbW hbk HB4 HB5 HG HBK hcz0 hcz1 hx0 hx1 hfz0 hfz1
      generalize (w5.setCell ⟨gb, 0, none⟩ (.int .i64 Y)).setCell ⟨gb, 1, none⟩ (.bool false) = wx at HBW HBKW ⊢
      have hg0 : wx.drew.cell? ⟨gb, 0, none⟩ = some (.int .i64 Y) := (blk_cell HBKW.out 0).trans rfl
      have hg1 : wx.drew.cell? ⟨gb, 1, none⟩ = some (.bool false) := (blk_cell HBKW.out 1).trans rfl
      have hy0 : wx.drew.cell? ⟨b, 0, none⟩ = some (.int .i64 x.f0) := pw_cell_below (below_drew1 HBW.out) ((blk_cell HBX2.out 0).trans rfl)
      have hy1 : wx.drew.cell? ⟨b, 1, none⟩ = some (.bool x.f1) := pw_cell_below (below_drew1 HBW.out) ((blk_cell HBX2.out 1).trans rfl)
      have HTW := Aside0.mk (HT.out.below (below_step HB2.out (below_drew1 HBW.out)))
      go_region_held3 (fun w' => w'.cell? ⟨gb, 0, none⟩ = some (.int .i64 Y) ∧ w'.cell? ⟨gb, 1, none⟩ = some (.bool false) ∧ w'.cell? ⟨b, 0, none⟩ = some (.int .i64 x.f0) ∧ w'.cell? ⟨b, 1, none⟩ = some (.bool x.f1))
       (first
        | exact ⟨hg0, hg1, hy0, hy1⟩
        | go_keep
        | exact ⟨pw_cell_below hb6 hg0, pw_cell_below hb6 hg1, pw_cell_below hb6 hy0, pw_cell_below hb6 hy1⟩
        | exact ⟨pw_cell_below (below_step hb6 hb7) hg0, pw_cell_below (below_step hb6 hb7) hg1, pw_cell_below (below_step hb6 hb7) hy0, pw_cell_below (below_step hb6 hb7) hy1⟩
        | fail)
       (first
        | (go_at_call 71; with_reducible refine (impl_height_calls ⟨Y, false⟩ wx.drew HTW.out HYO.out).mono ?_; rintro e w6 ⟨rfl, hb6⟩)
        | (go_at_call 71; with_reducible refine (impl_height_calls x w6 (HTW.out.below hb6) HXL.out.1).mono ?_; rintro e w7 ⟨rfl, hb7⟩)
        | fail)
      have HB7 := Aside0.mk (below_step (below_drew1 HBW.out) (below_step hb6 hb7))
      have hz0 := pw_cell_below (below_step hb6 hb7) hg0
      have hz1 := pw_cell_below (below_step hb6 hb7) hg1
      have HO7 := Aside0.mk (Kd.R_below HO2.out HB7.out)
      have HBX7 := Aside0.mk (blk_below HBX2.out HB7.out)
      have HNX7 := Aside0.mk (Lk.below HB7.out HNX2.out)
      have HW7 := Aside0.mk (below_step HB2.out HB7.out)
      clear hg0 hg1 hy0 hy1 hb6 hb7 HBKW HBW HTW
      by_cases hs : hgt ⟨Y, false⟩ - hgt x = semis
      ·
       have d1 : (IntKind.i64.wrap (hgt ⟨Y, false⟩ - hgt x) == semis) = true := beq_iff_eq.2 (EW.out.trans hs)
       have d2 : decide (hgt ⟨Y, false⟩ - hgt x = semis) = true := decide_eq_true hs
       have GO : Aside0 (mvGood k semis x false = true) := ⟨by rw [HGD.out]; exact d2⟩
       have bx := HX.out.2.2.2
       clear hs
       go_wp2_with ((with_reducible refine gate_builtin (b := .append) (xs := #[.tmp 51, .tmp 53]) rfl ?_); at_builtin; go_loud (refine Kd.R_append k29 (w0 := w) w.heap.size rfl (.tmp 51) (.tmp 53) 28 29 (.agg #[(.int .i64 0), (.bool false)]) 16 rfl Tryd.underlying28 info29 rfl (by decide) (by omega) _ X (⟨Y, false⟩ : S29) [.int .i64 Y, .bool false] (fun _ => True) (fun _ => False) rfl rfl (k29_mkM _ _ _ _) (fun _ hk => hk.elim) (fun _ _ => trivial) HO7.out HW7.out HW7.out.size (by omega) ?_); intro v9 w8 ho8 hb8 hg8 hat8; have HO8 := Aside0.mk ho8; have HB8 := Aside0.mk hb8; have HNX8 := Aside0.mk (LkT.grown HO7.out hg8 HNX7.out); have cx2 : w8.cell? ⟨b, 2, none⟩ = some (.pointer p) := (blk_cell (blk_grown HBX7.out hg8 (Kd.R_ne HO7.out HBX7.out (by decide))) 2).trans rfl; clear ho8 hb8 hg8 hat8)
       go_roundg l.length
       case measure => exact NXM.out
       case rel => exact ⟨X ++ [⟨Y, false⟩], l, ⟨rfl, by rw [← HYT.out, ← mvRes_yes GO.out (fun h => by cases h)]; exact HX.out.2.1, HXL.out.2, by simp only [List.length_append, List.length_cons, List.length_nil] at bx ⊢; omega⟩, HO8, HNX8, HB8⟩
      ·
       have d1 : (IntKind.i64.wrap (hgt ⟨Y, false⟩ - hgt x) == semis) = false := beq_eq_false_iff_ne.2 (fun h => hs (EW.out.symm.trans h))
       have d2 : decide (hgt ⟨Y, false⟩ - hgt x = semis) = false := decide_eq_false hs
       have NG : Aside0 (¬ mvGood k semis x false = true) := ⟨by rw [HGD.out, d2]; decide⟩
       clear hs
       go_wp2
       go_roundg (2 - 1)
       case measure => have := HK.out; omega
       case rel => exact ⟨1, rfl, rfl, ⟨by decide, by decide, by decide, fun _ => NG.out, by omega⟩, HO7, HBX7, HNX7, HW7⟩
    ·
     have N0 := Aside0.mk (n0 (by omega))
     have HK := Aside0.mk hk
     clear n0 n1 hk j0 j2 h2 HJ
     obtain ⟨ok, hv⟩ : ∃ ok, ok = toneOk (mvT x k true) := ⟨_, rfl⟩
     have HV := Aside0.mk hv
     have hta : impl_ToneAbove.f 1 x.f0 x.f1 k true = some (if ok = true then (x.f0 + k, true, true) else (0, false, false)) := by rw [impl_ToneAbove_eq x k true HXL.out.1 HKK.out, hv]
     have HTA := Aside0.mk hta
     clear hta hv
     have hx0 : wr.cell? ⟨b, 0, none⟩ = some (.int .i64 x.f0) := (blk_cell HBX2.out 0).trans rfl
     have hx1 : wr.cell? ⟨b, 1, none⟩ = some (.bool x.f1) := (blk_cell HBX2.out 1).trans rfl
     cases ok
     ·
      have NG : Aside0 (¬ mvGood k semis x true = true) := ⟨by unfold mvGood; rw [← HV.out]; simp⟩
      go_upto_region 10 with (first
       | (go_at_call 69; refine (impl_ToneAbove.calls 1 x.f0 x.f1 k true 0 false false _ (HTA.out.trans rfl)).mono ?_; rintro e w4 ⟨rfl, hb4⟩; have HB4 := Aside0.mk hb4; clear hb4)
       | ((with_reducible refine gate_dst (N := 13) rfl ?_); refine box_event ?hg (N := 13) ?hd (cs := #[.int .i64 0, .bool false]) (t := 29) ?hr ?_; (case hd => rfl); (case hg => rfl); (case hr => first | (go_simp; done) | (go_simp; rfl)); intro gb hg w5 hbox hb5; have HG := Aside0.mk (show w4.heap.size ≤ gb by omega); have HB5 := Aside0.mk hb5; have hcz0 : w5.cell? ⟨gb, 0, none⟩ = some (.int .i64 0) := (blk_cell hbox 0).trans rfl; have hcz1 : w5.cell? ⟨gb, 1, none⟩ = some (.bool false) := (blk_cell hbox 1).trans rfl; have hfz0 := blk_frozen hbox 0; have hfz1 := blk_frozen hbox 1; clear hbox hb5 hg))
      have hbW : Below wr.heap.size wr ((w5.setCell ⟨gb, 0, none⟩ (.int .i64 0)).setCell ⟨gb, 1, none⟩ (.bool false)) := below_step HB4.out (below_set (below_set HB5.out HG.out) HG.out)
      have HBW := Aside0.mk hbW
      clear hbW HB4 HB5 HG hcz0 hcz1 hx0 hx1 hfz0 hfz1
      generalize (w5.setCell ⟨gb, 0, none⟩ (.int .i64 0)).setCell ⟨gb, 1, none⟩ (.bool false) = wx at HBW ⊢
      go_region
      all_goals
       go_wp2
       go_roundg (2 - 2)
       case measure => have := HK.out; omega
       case rel => exact ⟨2, rfl, rfl, ⟨by decide, by decide, by decide, fun _ => N0.out, fun _ => NG.out⟩, ⟨Kd.R_below HO2.out (below_drew1 HBW.out)⟩, ⟨blk_below HBX2.out (below_drew1 HBW.out)⟩, ⟨Lk.below (below_drew1 HBW.out) HNX2.out⟩, ⟨below_step HB2.out (below_drew1 HBW.out)⟩⟩
     ·
      have HB' := Aside0.mk (hgt_bd (t := mvT x k true) HV.out.symm)
      have HB'' := Aside0.mk (hgt_bd HXL.out.1)
      obtain ⟨Y, hY⟩ : ∃ Y, Y = x.f0 + k := ⟨_, rfl⟩
      have hYT : mvT x k true = ⟨Y, true⟩ := by rw [hY]; rfl
      have hgood : mvGood k semis x true = decide (hgt ⟨Y, true⟩ - hgt x = semis) := by unfold mvGood; rw [← HV.out, ← hYT]; rfl
      have HGD := Aside0.mk hgood
      have HYT := Aside0.mk hYT
      have HYO := Aside0.mk (show toneOk ⟨Y, true⟩ = true by rw [← hYT]; exact HV.out.symm)
      have EW : Aside0 (IntKind.i64.wrap (hgt ⟨Y, true⟩ - hgt x) = hgt ⟨Y, true⟩ - hgt x) := ⟨by rw [← hYT, i64_w]; exact w64 (x := hgt (mvT x k true) - hgt x) (by have := HB'.out; have := HB''.out; omega) (by have := HB'.out; have := HB''.out; omega)⟩
      rw [← hY] at HTA
      clear hY hYT hgood HB' HB''
      go_upto_region 10 with (first
       | (go_at_call 69; refine (impl_ToneAbove.calls 1 x.f0 x.f1 k true Y true true _ (HTA.out.trans rfl)).mono ?_; rintro e w4 ⟨rfl, hb4⟩; have HB4 := Aside0.mk hb4; clear hb4)
       | ((with_reducible refine gate_dst (N := 13) rfl ?_); refine box_event ?hg (N := 13) ?hd (cs := #[.int .i64 0, .bool false]) (t := 29) ?hr ?_; (case hd => rfl); (case hg => rfl); (case hr => first | (go_simp; done) | (go_simp; rfl)); intro gb hg w5 hbox hb5; have HG := Aside0.mk (show w4.heap.size ≤ gb by omega); have HB5 := Aside0.mk hb5; have HBK := Aside0.mk hbox; have hcz0 : w5.cell? ⟨gb, 0, none⟩ = some (.int .i64 0) := (blk_cell hbox 0).trans rfl; have hcz1 : w5.cell? ⟨gb, 1, none⟩ = some (.bool false) := (blk_cell hbox 1).trans rfl; have hfz0 := blk_frozen hbox 0; have hfz1 := blk_frozen hbox 1; clear hbox hb5 hg))
      have hbW : Below wr.heap.size wr ((w5.setCell ⟨gb, 0, none⟩ (.int .i64 Y)).setCell ⟨gb, 1, none⟩ (.bool true)) := below_step HB4.out (below_set (below_set HB5.out HG.out) HG.out)
      have hbk : ((w5.setCell ⟨gb, 0, none⟩ (.int .i64 Y)).setCell ⟨gb, 1, none⟩ (.bool true)).heap[gb]? = some (.cells #[.int .i64 Y, .bool true] 29 (0, 0)) := blk_put (cs := #[.int .i64 Y, .bool false]) (blk_put (cs := #[.int .i64 0, .bool false]) HBK.out 0 _ rfl) 1 _ rfl
      have HBW := Aside0.mk hbW
      have HBKW := Aside0.mk hbk
      clear hbW hbk HB4 HB5 HG HBK hcz0 hcz1 hx0 hx1 hfz0 hfz1
      generalize (w5.setCell ⟨gb, 0, none⟩ (.int .i64 Y)).setCell ⟨gb, 1, none⟩ (.bool true) = wx at HBW HBKW ⊢
      have hg0 : wx.drew.cell? ⟨gb, 0, none⟩ = some (.int .i64 Y) := (blk_cell HBKW.out 0).trans rfl
      have hg1 : wx.drew.cell? ⟨gb, 1, none⟩ = some (.bool true) := (blk_cell HBKW.out 1).trans rfl
      have hy0 : wx.drew.cell? ⟨b, 0, none⟩ = some (.int .i64 x.f0) := pw_cell_below (below_drew1 HBW.out) ((blk_cell HBX2.out 0).trans rfl)
      have hy1 : wx.drew.cell? ⟨b, 1, none⟩ = some (.bool x.f1) := pw_cell_below (below_drew1 HBW.out) ((blk_cell HBX2.out 1).trans rfl)
      have HTW := Aside0.mk (HT.out.below (below_step HB2.out (below_drew1 HBW.out)))
      go_region_held3 (fun w' => w'.cell? ⟨gb, 0, none⟩ = some (.int .i64 Y) ∧ w'.cell? ⟨gb, 1, none⟩ = some (.bool true) ∧ w'.cell? ⟨b, 0, none⟩ = some (.int .i64 x.f0) ∧ w'.cell? ⟨b, 1, none⟩ = some (.bool x.f1))
       (first
        | exact ⟨hg0, hg1, hy0, hy1⟩
        | go_keep
        | exact ⟨pw_cell_below hb6 hg0, pw_cell_below hb6 hg1, pw_cell_below hb6 hy0, pw_cell_below hb6 hy1⟩
        | exact ⟨pw_cell_below (below_step hb6 hb7) hg0, pw_cell_below (below_step hb6 hb7) hg1, pw_cell_below (below_step hb6 hb7) hy0, pw_cell_below (below_step hb6 hb7) hy1⟩
        | fail)
       (first
        | (go_at_call 71; with_reducible refine (impl_height_calls ⟨Y, true⟩ wx.drew HTW.out HYO.out).mono ?_; rintro e w6 ⟨rfl, hb6⟩)
        | (go_at_call 71; with_reducible refine (impl_height_calls x w6 (HTW.out.below hb6) HXL.out.1).mono ?_; rintro e w7 ⟨rfl, hb7⟩)
        | fail)
      have HB7 := Aside0.mk (below_step (below_drew1 HBW.out) (below_step hb6 hb7))
      have hz0 := pw_cell_below (below_step hb6 hb7) hg0
      have hz1 := pw_cell_below (below_step hb6 hb7) hg1
      have HO7 := Aside0.mk (Kd.R_below HO2.out HB7.out)
      have HBX7 := Aside0.mk (blk_below HBX2.out HB7.out)
      have HNX7 := Aside0.mk (Lk.below HB7.out HNX2.out)
      have HW7 := Aside0.mk (below_step HB2.out HB7.out)
      clear hg0 hg1 hy0 hy1 hb6 hb7 HBKW HBW HTW
      by_cases hs : hgt ⟨Y, true⟩ - hgt x = semis
      ·
       have d1 : (IntKind.i64.wrap (hgt ⟨Y, true⟩ - hgt x) == semis) = true := beq_iff_eq.2 (EW.out.trans hs)
       have d2 : decide (hgt ⟨Y, true⟩ - hgt x = semis) = true := decide_eq_true hs
       have GO : Aside0 (mvGood k semis x true = true) := ⟨by rw [HGD.out]; exact d2⟩
       have bx := HX.out.2.2.2
       clear hs
       go_wp2_with ((with_reducible refine gate_builtin (b := .append) (xs := #[.tmp 51, .tmp 53]) rfl ?_); at_builtin; go_loud (refine Kd.R_append k29 (w0 := w) w.heap.size rfl (.tmp 51) (.tmp 53) 28 29 (.agg #[(.int .i64 0), (.bool false)]) 16 rfl Tryd.underlying28 info29 rfl (by decide) (by omega) _ X (⟨Y, true⟩ : S29) [.int .i64 Y, .bool true] (fun _ => True) (fun _ => False) rfl rfl (k29_mkM _ _ _ _) (fun _ hk => hk.elim) (fun _ _ => trivial) HO7.out HW7.out HW7.out.size (by omega) ?_); intro v9 w8 ho8 hb8 hg8 hat8; have HO8 := Aside0.mk ho8; have HB8 := Aside0.mk hb8; have HNX8 := Aside0.mk (LkT.grown HO7.out hg8 HNX7.out); have cx2 : w8.cell? ⟨b, 2, none⟩ = some (.pointer p) := (blk_cell (blk_grown HBX7.out hg8 (Kd.R_ne HO7.out HBX7.out (by decide))) 2).trans rfl; clear ho8 hb8 hg8 hat8)
       go_roundg l.length
       case measure => exact NXM.out
       case rel => exact ⟨X ++ [⟨Y, true⟩], l, ⟨rfl, by rw [← HYT.out, ← mvRes_yes GO.out (fun _ => N0.out)]; exact HX.out.2.1, HXL.out.2, by simp only [List.length_append, List.length_cons, List.length_nil] at bx ⊢; omega⟩, HO8, HNX8, HB8⟩
      ·
       have d1 : (IntKind.i64.wrap (hgt ⟨Y, true⟩ - hgt x) == semis) = false := beq_eq_false_iff_ne.2 (fun h => hs (EW.out.symm.trans h))
       have d2 : decide (hgt ⟨Y, true⟩ - hgt x = semis) = false := decide_eq_false hs
       have NG : Aside0 (¬ mvGood k semis x true = true) := ⟨by rw [HGD.out, d2]; decide⟩
       clear hs
       go_wp2
       go_roundg (2 - 2)
       case measure => have := HK.out; omega
       case rel => exact ⟨2, rfl, rfl, ⟨by decide, by decide, by decide, fun _ => N0.out, fun _ => NG.out⟩, HO7, HBX7, HNX7, HW7⟩

end Go.Proofs.YtpcohkffbjdmfaaDoor.Pure
namespace Go.Proofs.YtpcohkffbjdmfaaDoor.Pure
set_option linter.unusedVariables false
set_option linter.unusedSimpArgs false
open Go Go.RowKit Go.Proofs.YtpcohkffbjdmfaaDoor.PFnExactPsalmMove Go.Proofs.YtpcohkffbjdmfaaDoorW.PrintWords Go.Proofs.YtpcohkffbjdmfaaDoorW.PrintLast Go.Proofs.YtpcohkffbjdmfaaDoorW.PrintMore

theorem impl_ToneAbove_out (t : S29) (a : Int) (s : Bool) (ht : toneOk t = true) (ha : ¬ (-20 ≤ a ∧ a ≤ 20)) : impl_ToneAbove.f 1 t.f0 t.f1 a s = some (0, false, false) := by
 unfold impl_ToneAbove.f
 rw [impl_Tone_valid_eq]
 have e : (⟨t.f0, t.f1⟩ : S29) = t := rfl
 rw [e, ht, Option.bind_some, if_pos rfl]
 by_cases h : a < -20
 ·
  rw [if_pos h]; rfl
 ·
  rw [if_neg h, decide_eq_true (show a > 20 by omega)]; rfl
def mmT (m : List S29) (k : Int) (b : Bool) : Prop := (-20 ≤ k ∧ k ≤ 20) ∧ mmTry m k b = true
theorem mmove_yes {m : List S29} {k : Int} {b : Bool} (hok : melOk m = true) (hm : 0 < m.length) (h : mmT m k b) (h' : b = true → ¬ mmT m k false) : mmove m k = (mmOf m k b, true) := by
 unfold mmove
 rw [if_pos hok, if_neg (by omega), if_pos h.1]
 cases b
 ·
  rw [if_pos h.2]
 ·
  rw [if_neg (fun g => h' rfl ⟨h.1, g⟩), if_pos h.2]
theorem mmove_no {m : List S29} {k : Int} (hok : melOk m = true) (hm : 0 < m.length) (h : ¬ mmT m k true) (h' : ¬ mmT m k false) : mmove m k = ([], false) := by
 unfold mmove
 rw [if_pos hok, if_neg (by omega)]
 by_cases hk : -20 ≤ k ∧ k ≤ 20
 ·
  rw [if_pos hk, if_neg (fun g => h' ⟨hk, g⟩), if_neg (fun g => h ⟨hk, g⟩)]
 ·
  rw [if_neg hk]
set_option maxHeartbeats 8000000 in
set_option maxRecDepth 100000 in
theorem impl_MelodyMove_calls (m : List S29) (k : Int) (A0 : Option Addr) (c0 : Nat) (w : World) (ht : HTab w) (hr0 : Kd.C k29 w A0 m.length m) (hc0 : m.length ≤ c0) (hm : m.length ≤ 1000000000000) :
 Calls Tryd.prog 23 #[.slice A0 m.length c0, .int .i64 k] w fun e w' => ∃ v, e = .returned (.tuple #[v, .bool (mmove m k).2]) ∧ Kd.R k29 29 w' w.heap.size (fun _ => True) v (mmove m k).1 ∧ Below w.heap.size w w' := by
 obtain ⟨kk, hv⟩ := Ev.rounds (impl_MelodyValid_ev m)
 have hu1 := Tryd.underlying29
 have ix0 : ∀ w, (Instr.index 89 (.agg #[.bool false, .bool true]) (.int .i64 0)).run Tryd.prog w = .ok (.bool false) w := fun _ => by kernel_rfl
 have ix1 : ∀ w, (Instr.index 89 (.agg #[.bool false, .bool true]) (.int .i64 1)).run Tryd.prog w = .ok (.bool true) w := fun _ => by kernel_rfl
 have HT := Aside0.mk ht
 have HR0 := Aside0.mk hr0
 have HC0 := Aside0.mk hc0
 have HVV := Aside0.mk hv
 clear hr0 hc0 ht hv
 cases hok : melOk m
 ·
  have e : mmove m k = ([], false) := by unfold mmove; rw [hok]; rfl
  rw [e]
  rw [hok] at HVV
  clear hok e
  go_enter Tryd.func23, Tryd.ntmps23
  go_wp2_with (go_at_call 61; refine (impl_MelodyValid.calls kk _ _ m false _ HR0.out HC0.out HVV.out).mono ?_; rintro e w1 ⟨rfl, hb1⟩)
  go_ret2
  exact ⟨_, rfl, Kd.R_nil _ _ _ _ _, hb1⟩
 rw [hok] at HVV
 have HOK := Aside0.mk hok
 by_cases h0 : m.length = 0
 ·
  have e : mmove m k = ([], true) := by unfold mmove; rw [if_pos hok, if_pos h0]
  rw [e]
  have hne : ((m.length : Int) == 0) = true := by rw [beq_iff_eq]; omega
  have hne' : (m.length == 0) = true := by rw [beq_iff_eq]; omega
  clear hok e h0
  go_enter Tryd.func23, Tryd.ntmps23
  go_wp2_with (first
   | (go_at_call 61; refine (impl_MelodyValid.calls kk _ _ m true _ HR0.out HC0.out HVV.out).mono ?_; rintro e w1 ⟨rfl, hb1⟩)
   | ((with_reducible refine gate_dst (N := 18) rfl ?_); refine Kd.R_lit k29 _ 29 ?hg (N := 18) ?hd (xs := ([] : List S29)) (inner := []) (ok := fun _ => True) (okp := fun _ => True) ?hr (Reps.none _ _) (fun _ hk => hk) trivial (Below.refl _ _) (Nat.le_refl _) (by simp) ?_; (case hd => rfl); (case hg => rfl); (case hr => first | (go_simp; done) | (go_simp; rfl)); intro v1 w2 ho1 hb2 _ _; obtain ⟨A1, c1, rfl⟩ := Kd.R_slice ho1))
  go_ret2
  exact ⟨_, rfl, Kd.R_lower ho1 hb1.size, below_step hb1 hb2⟩
 have hlen := melOk_len hok
 have hpos : 0 < m.length := by omega
 have hne : ((m.length : Int) == 0) = false := by rw [beq_eq_false_iff_ne]; omega
 have hne' : (m.length == 0) = false := by rw [beq_eq_false_iff_ne]; omega
 obtain ⟨⟨R1, R2⟩, hR⟩ : ∃ R, R = mmove m k := ⟨_, rfl⟩
 rw [← hR]
 have HRR := Aside0.mk hR.symm
 obtain ⟨ad, e1, ux0, ux1⟩ := at_T29 HR0.out 0 (by omega) (by omega)
 subst e1
 obtain ⟨x, hx⟩ : ∃ x, x = rd_T29 m 0 := ⟨_, rfl⟩
 have hxo : toneOk x = true := by
  rw [hx]
  refine List.all_eq_true.1 (melOk_all hok) _ ?_
  unfold rd_T29
  rw [List.getD_eq_getElem?_getD, List.getElem?_eq_getElem (by simp; omega)]; exact List.getElem_mem _
 rw [← hx] at ux0 ux1
 have HXL := Aside0.mk (And.intro hxo hx)
 have UX0 : Aside0 (w.cell? ad = some (.int .i64 x.f0)) := ⟨ux0⟩
 have UX1 : Aside0 (w.cell? ⟨ad.block, ad.off + 1, none⟩ = some (.bool x.f1)) := ⟨ux1⟩
 have i1 := eq_true (show 0 < (m.length : Int) by omega)
 have i2 := eq_true hpos
 have HPOS := Aside0.mk hpos
 clear hok h0 hR ux0 ux1 hx hxo hpos
 go_enter Tryd.func23, Tryd.ntmps23
 go_wp2_with (go_at_call 61; refine (impl_MelodyValid.calls kk _ _ m true _ HR0.out HC0.out HVV.out).mono ?_; rintro e w1 ⟨rfl, hb1⟩; have HB1 := Aside0.mk hb1; clear hb1)
 go_loopg [20] 2 (fun kq v20 w' => ∃ (j : Int), v20 = .int .i64 j ∧ Aside0 (kq = (2 - j).toNat ∧ 0 ≤ j ∧ j ≤ 2 ∧ (1 ≤ j → ¬ mmT m k false) ∧ (2 ≤ j → ¬ mmT m k true)) ∧ Aside0 (Below w.heap.size w w'))
 case atStart => exact ⟨0, rfl, ⟨rfl, by decide, by decide, by omega, by omega⟩, HB1⟩
 case round =>
  obtain ⟨j, rfl, HJ, HB2⟩ := hrel
  clear HB1
  obtain ⟨hk, j0, j2, n0, n1⟩ := HJ.out
  by_cases h2 : j = 2
  ·
   subst h2
   have hR : (R1, R2) = ([], false) := HRR.out.symm.trans (mmove_no HOK.out HPOS.out (n1 (by omega)) (n0 (by omega)))
   cases hR
   clear n0 n1 hk j0 j2
   go_wp2
   go_ret2
   exact ⟨_, rfl, Kd.R_nil _ _ _ _ _, HB2.out⟩
  have hj : j = 0 ∨ j = 1 := by omega
  rcases hj with rfl | rfl
  ·
   have N0 : Aside0 True := ⟨trivial⟩
   have HK := Aside0.mk hk
   clear n0 n1 hk j0 j2 h2 HJ
   obtain ⟨ok, hv⟩ : ∃ ok, ok = (decide (-20 ≤ k ∧ k ≤ 20) && toneOk (mvT x k false)) := ⟨_, rfl⟩
   have HV := Aside0.mk hv
   have hta : impl_ToneAbove.f 1 x.f0 x.f1 k false = some (if ok = true then (x.f0 + k, false, true) else (0, false, false)) := by
    by_cases hk : -20 ≤ k ∧ k ≤ 20
    ·
     rw [impl_ToneAbove_eq x k false HXL.out.1 hk, hv, decide_eq_true hk]; rfl
    ·
     rw [impl_ToneAbove_out x k false HXL.out.1 hk, hv, decide_eq_false hk]; rfl
   have HTA := Aside0.mk hta
   clear hta hv
   have hx0 : wr.cell? ad = some (.int .i64 x.f0) := (HB2.out.cell (World.block_lt_of_cell? w _ UX0.out)).trans UX0.out
   have hx1 : wr.cell? ⟨ad.block, ad.off + 1, none⟩ = some (.bool x.f1) := (HB2.out.cell (World.block_lt_of_cell? w _ UX1.out)).trans UX1.out
   cases ok
   ·
    have NG : Aside0 (¬ mmT m k false) := ⟨fun h => by have hv := HV.out; rw [decide_eq_true h.1, Bool.true_and] at hv; have h2 := h.2; unfold mmTry at h2; rw [← HXL.out.2, ← hv] at h2; cases h2⟩
    go_wp2_with (first
     | (go_at_call 69; refine (impl_ToneAbove.calls 1 x.f0 x.f1 k false 0 false false _ (HTA.out.trans rfl)).mono ?_; rintro e w4 ⟨rfl, hb4⟩; have HB4 := Aside0.mk hb4; clear hb4)
     | ((with_reducible refine gate_dst (N := 8) rfl ?_); refine box_event ?hg (N := 8) ?hd (cs := #[.int .i64 0, .bool false]) (t := 29) ?hr ?_; (case hd => rfl); (case hg => rfl); (case hr => first | (go_simp; done) | (go_simp; rfl)); intro gb hg w5 hbox hb5; have HG := Aside0.mk (show w4.heap.size ≤ gb by omega); have HB5 := Aside0.mk hb5; have hcz0 : w5.cell? ⟨gb, 0, none⟩ = some (.int .i64 0) := (blk_cell hbox 0).trans rfl; have hcz1 : w5.cell? ⟨gb, 1, none⟩ = some (.bool false) := (blk_cell hbox 1).trans rfl; have hfz0 := blk_frozen hbox 0; have hfz1 := blk_frozen hbox 1; clear hbox hb5 hg))
    have hbW : Below wr.heap.size wr ((w5.setCell ⟨gb, 0, none⟩ (.int .i64 0)).setCell ⟨gb, 1, none⟩ (.bool false)) := below_step HB4.out (below_set (below_set HB5.out HG.out) HG.out)
    have HBW := Aside0.mk hbW
    go_roundg (2 - 1)
    case measure => have := HK.out; omega
    case rel => exact ⟨1, rfl, ⟨by decide, by decide, by decide, fun _ => NG.out, by omega⟩, ⟨below_step HB2.out HBW.out⟩⟩
   ·
    have hv := HV.out.symm
    rw [Bool.and_eq_true] at hv
    have hkk := of_decide_eq_true hv.1
    have HKK := Aside0.mk hkk
    have HB' := Aside0.mk (hgt_bd (t := mvT x k false) hv.2)
    have HB'' := Aside0.mk (hgt_bd HXL.out.1)
    obtain ⟨Y, hY⟩ : ∃ Y, Y = x.f0 + k := ⟨_, rfl⟩
    have hYT : mvT x k false = ⟨Y, false⟩ := by rw [hY]; rfl
    obtain ⟨⟨M1, M2⟩, hM⟩ : ∃ R, R = movedP k (hgt ⟨Y, false⟩ - hgt x) m := ⟨_, rfl⟩
    have HM := Aside0.mk hM.symm
    have HTRY : Aside0 (mmTry m k false = M2 ∧ mmOf m k false = M1) := ⟨by unfold mmTry mmOf; rw [← HXL.out.2, hv.2, hYT, ← hM]; exact ⟨rfl, rfl⟩⟩
    have HYO := Aside0.mk (show toneOk ⟨Y, false⟩ = true by rw [← hYT]; exact hv.2)
    have EW : Aside0 (IntKind.i64.wrap (hgt ⟨Y, false⟩ - hgt x) = hgt ⟨Y, false⟩ - hgt x) := ⟨by rw [← hYT, i64_w]; exact w64 (x := hgt (mvT x k false) - hgt x) (by have := HB'.out; have := HB''.out; omega) (by have := HB'.out; have := HB''.out; omega)⟩
    rw [← hY] at HTA
    clear hY hYT HB' HB'' hM hv hkk
    go_upto_region 10 with (first
     | (go_at_call 69; refine (impl_ToneAbove.calls 1 x.f0 x.f1 k false Y false true _ (HTA.out.trans rfl)).mono ?_; rintro e w4 ⟨rfl, hb4⟩; have HB4 := Aside0.mk hb4; clear hb4)
     | ((with_reducible refine gate_dst (N := 8) rfl ?_); refine box_event ?hg (N := 8) ?hd (cs := #[.int .i64 0, .bool false]) (t := 29) ?hr ?_; (case hd => rfl); (case hg => rfl); (case hr => first | (go_simp; done) | (go_simp; rfl)); intro gb hg w5 hbox hb5; have HG := Aside0.mk (show w4.heap.size ≤ gb by omega); have HB5 := Aside0.mk hb5; have HBK := Aside0.mk hbox; have hcz0 : w5.cell? ⟨gb, 0, none⟩ = some (.int .i64 0) := (blk_cell hbox 0).trans rfl; have hcz1 : w5.cell? ⟨gb, 1, none⟩ = some (.bool false) := (blk_cell hbox 1).trans rfl; have hfz0 := blk_frozen hbox 0; have hfz1 := blk_frozen hbox 1; clear hbox hb5 hg))
    have hbW : Below wr.heap.size wr ((w5.setCell ⟨gb, 0, none⟩ (.int .i64 Y)).setCell ⟨gb, 1, none⟩ (.bool false)) := below_step HB4.out (below_set (below_set HB5.out HG.out) HG.out)
    have hbk : ((w5.setCell ⟨gb, 0, none⟩ (.int .i64 Y)).setCell ⟨gb, 1, none⟩ (.bool false)).heap[gb]? = some (.cells #[.int .i64 Y, .bool false] 29 (0, 0)) := blk_put (cs := #[.int .i64 Y, .bool false]) (blk_put (cs := #[.int .i64 0, .bool false]) HBK.out 0 _ rfl) 1 _ rfl
    have HBW := Aside0.mk hbW
    have HBKW := Aside0.mk hbk
    have hy0' := pw_cell_below hbW hx0
    have hy1' := pw_cell_below hbW hx1
    clear hbW hbk HB4 HB5 HG HBK hcz0 hcz1 hx0 hx1 hfz0 hfz1
    generalize (w5.setCell ⟨gb, 0, none⟩ (.int .i64 Y)).setCell ⟨gb, 1, none⟩ (.bool false) = wx at HBW HBKW hy0' hy1' ⊢
    have hg0 : wx.drew.cell? ⟨gb, 0, none⟩ = some (.int .i64 Y) := (blk_cell HBKW.out 0).trans rfl
    have hg1 : wx.drew.cell? ⟨gb, 1, none⟩ = some (.bool false) := (blk_cell HBKW.out 1).trans rfl
    have hy0 : wx.drew.cell? ad = some (.int .i64 x.f0) := hy0'
    have hy1 : wx.drew.cell? ⟨ad.block, ad.off + 1, none⟩ = some (.bool x.f1) := hy1'
    have HW0 := Aside0.mk (below_step HB2.out (below_drew1 HBW.out))
    have HTW := Aside0.mk (HT.out.below HW0.out)
    clear hy0' hy1'
    go_region_held3 (fun w' => w'.cell? ⟨gb, 0, none⟩ = some (.int .i64 Y) ∧ w'.cell? ⟨gb, 1, none⟩ = some (.bool false) ∧ w'.cell? ad = some (.int .i64 x.f0) ∧ w'.cell? ⟨ad.block, ad.off + 1, none⟩ = some (.bool x.f1))
     (first
      | exact ⟨hg0, hg1, hy0, hy1⟩
      | go_keep
      | exact ⟨pw_cell_below hb6 hg0, pw_cell_below hb6 hg1, pw_cell_below hb6 hy0, pw_cell_below hb6 hy1⟩
      | exact ⟨pw_cell_below (below_step hb6 hb7) hg0, pw_cell_below (below_step hb6 hb7) hg1, pw_cell_below (below_step hb6 hb7) hy0, pw_cell_below (below_step hb6 hb7) hy1⟩
      | exact ⟨pw_cell_below (below_step (below_step hb6 hb7) hb8) hg0, pw_cell_below (below_step (below_step hb6 hb7) hb8) hg1, pw_cell_below (below_step (below_step hb6 hb7) hb8) hy0, pw_cell_below (below_step (below_step hb6 hb7) hb8) hy1⟩
      | fail)
     (first
      | (go_at_call 71; with_reducible refine (impl_height_calls ⟨Y, false⟩ wx.drew HTW.out HYO.out).mono ?_; rintro e w6 ⟨rfl, hb6⟩)
      | (go_at_call 71; with_reducible refine (impl_height_calls x w6 (HTW.out.below hb6) HXL.out.1).mono ?_; rintro e w7 ⟨rfl, hb7⟩)
      | (go_at_call 70; with_reducible refine (impl_movedMelody_calls m k (IntKind.i64.wrap (hgt ⟨Y, false⟩ - hgt x)) _ _ w7 (HTW.out.below (below_step hb6 hb7)) (Kd.C_below HR0.out (below_step HW0.out (below_step hb6 hb7))) HC0.out HOK.out HKK.out).mono ?_; rintro e w8 ⟨v8, rfl, ho8, hb8⟩; rw [EW.out, HM.out] at ho8; rw [EW.out, HM.out]; obtain ⟨A8, c8, rfl⟩ := Kd.R_slice ho8)
      | fail)
    have HB8 := Aside0.mk (below_step (below_step HW0.out (below_step hb6 hb7)) hb8)
    have HO8 := Aside0.mk (Kd.R_lower ho8 (below_step HW0.out (below_step hb6 hb7)).size)
    clear hg0 hg1 hy0 hy1 hb6 hb7 hb8 ho8 HBKW HBW HTW HW0
    cases M2
    ·
     have NG : Aside0 (¬ mmT m k false) := ⟨fun h => by have h2 := h.2; rw [HTRY.out.1] at h2; cases h2⟩
     go_wp2
     go_roundg (2 - 1)
     case measure => have := HK.out; omega
     case rel => exact ⟨1, rfl, ⟨by decide, by decide, by decide, fun _ => NG.out, by omega⟩, HB8⟩
    ·
     have hR : (R1, R2) = (M1, true) := by rw [← HTRY.out.2]; exact HRR.out.symm.trans (mmove_yes HOK.out HPOS.out ⟨HKK.out, HTRY.out.1⟩ (fun h => by cases h))
     cases hR
     go_wp2
     go_ret2
     exact ⟨_, rfl, HO8.out, HB8.out⟩
  ·
   have N0 := Aside0.mk (n0 (by omega))
   have HK := Aside0.mk hk
   clear n0 n1 hk j0 j2 h2 HJ
   obtain ⟨ok, hv⟩ : ∃ ok, ok = (decide (-20 ≤ k ∧ k ≤ 20) && toneOk (mvT x k true)) := ⟨_, rfl⟩
   have HV := Aside0.mk hv
   have hta : impl_ToneAbove.f 1 x.f0 x.f1 k true = some (if ok = true then (x.f0 + k, true, true) else (0, false, false)) := by
    by_cases hk : -20 ≤ k ∧ k ≤ 20
    ·
     rw [impl_ToneAbove_eq x k true HXL.out.1 hk, hv, decide_eq_true hk]; rfl
    ·
     rw [impl_ToneAbove_out x k true HXL.out.1 hk, hv, decide_eq_false hk]; rfl
   have HTA := Aside0.mk hta
   clear hta hv
   have hx0 : wr.cell? ad = some (.int .i64 x.f0) := (HB2.out.cell (World.block_lt_of_cell? w _ UX0.out)).trans UX0.out
   have hx1 : wr.cell? ⟨ad.block, ad.off + 1, none⟩ = some (.bool x.f1) := (HB2.out.cell (World.block_lt_of_cell? w _ UX1.out)).trans UX1.out
   cases ok
   ·
    have NG : Aside0 (¬ mmT m k true) := ⟨fun h => by have hv := HV.out; rw [decide_eq_true h.1, Bool.true_and] at hv; have h2 := h.2; unfold mmTry at h2; rw [← HXL.out.2, ← hv] at h2; cases h2⟩
    go_wp2_with (first
     | (go_at_call 69; refine (impl_ToneAbove.calls 1 x.f0 x.f1 k true 0 false false _ (HTA.out.trans rfl)).mono ?_; rintro e w4 ⟨rfl, hb4⟩; have HB4 := Aside0.mk hb4; clear hb4)
     | ((with_reducible refine gate_dst (N := 8) rfl ?_); refine box_event ?hg (N := 8) ?hd (cs := #[.int .i64 0, .bool false]) (t := 29) ?hr ?_; (case hd => rfl); (case hg => rfl); (case hr => first | (go_simp; done) | (go_simp; rfl)); intro gb hg w5 hbox hb5; have HG := Aside0.mk (show w4.heap.size ≤ gb by omega); have HB5 := Aside0.mk hb5; have hcz0 : w5.cell? ⟨gb, 0, none⟩ = some (.int .i64 0) := (blk_cell hbox 0).trans rfl; have hcz1 : w5.cell? ⟨gb, 1, none⟩ = some (.bool false) := (blk_cell hbox 1).trans rfl; have hfz0 := blk_frozen hbox 0; have hfz1 := blk_frozen hbox 1; clear hbox hb5 hg))
    have hbW : Below wr.heap.size wr ((w5.setCell ⟨gb, 0, none⟩ (.int .i64 0)).setCell ⟨gb, 1, none⟩ (.bool false)) := below_step HB4.out (below_set (below_set HB5.out HG.out) HG.out)
    have HBW := Aside0.mk hbW
    go_roundg (2 - 2)
    case measure => have := HK.out; omega
    case rel => exact ⟨2, rfl, ⟨by decide, by decide, by decide, fun _ => N0.out, fun _ => NG.out⟩, ⟨below_step HB2.out HBW.out⟩⟩
   ·
    have hv := HV.out.symm
    rw [Bool.and_eq_true] at hv
    have hkk := of_decide_eq_true hv.1
    have HKK := Aside0.mk hkk
    have HB' := Aside0.mk (hgt_bd (t := mvT x k true) hv.2)
    have HB'' := Aside0.mk (hgt_bd HXL.out.1)
    obtain ⟨Y, hY⟩ : ∃ Y, Y = x.f0 + k := ⟨_, rfl⟩
    have hYT : mvT x k true = ⟨Y, true⟩ := by rw [hY]; rfl
    obtain ⟨⟨M1, M2⟩, hM⟩ : ∃ R, R = movedP k (hgt ⟨Y, true⟩ - hgt x) m := ⟨_, rfl⟩
    have HM := Aside0.mk hM.symm
    have HTRY : Aside0 (mmTry m k true = M2 ∧ mmOf m k true = M1) := ⟨by unfold mmTry mmOf; rw [← HXL.out.2, hv.2, hYT, ← hM]; exact ⟨rfl, rfl⟩⟩
    have HYO := Aside0.mk (show toneOk ⟨Y, true⟩ = true by rw [← hYT]; exact hv.2)
    have EW : Aside0 (IntKind.i64.wrap (hgt ⟨Y, true⟩ - hgt x) = hgt ⟨Y, true⟩ - hgt x) := ⟨by rw [← hYT, i64_w]; exact w64 (x := hgt (mvT x k true) - hgt x) (by have := HB'.out; have := HB''.out; omega) (by have := HB'.out; have := HB''.out; omega)⟩
    rw [← hY] at HTA
    clear hY hYT HB' HB'' hM hv hkk
    go_upto_region 10 with (first
     | (go_at_call 69; refine (impl_ToneAbove.calls 1 x.f0 x.f1 k true Y true true _ (HTA.out.trans rfl)).mono ?_; rintro e w4 ⟨rfl, hb4⟩; have HB4 := Aside0.mk hb4; clear hb4)
     | ((with_reducible refine gate_dst (N := 8) rfl ?_); refine box_event ?hg (N := 8) ?hd (cs := #[.int .i64 0, .bool false]) (t := 29) ?hr ?_; (case hd => rfl); (case hg => rfl); (case hr => first | (go_simp; done) | (go_simp; rfl)); intro gb hg w5 hbox hb5; have HG := Aside0.mk (show w4.heap.size ≤ gb by omega); have HB5 := Aside0.mk hb5; have HBK := Aside0.mk hbox; have hcz0 : w5.cell? ⟨gb, 0, none⟩ = some (.int .i64 0) := (blk_cell hbox 0).trans rfl; have hcz1 : w5.cell? ⟨gb, 1, none⟩ = some (.bool false) := (blk_cell hbox 1).trans rfl; have hfz0 := blk_frozen hbox 0; have hfz1 := blk_frozen hbox 1; clear hbox hb5 hg))
    have hbW : Below wr.heap.size wr ((w5.setCell ⟨gb, 0, none⟩ (.int .i64 Y)).setCell ⟨gb, 1, none⟩ (.bool true)) := below_step HB4.out (below_set (below_set HB5.out HG.out) HG.out)
    have hbk : ((w5.setCell ⟨gb, 0, none⟩ (.int .i64 Y)).setCell ⟨gb, 1, none⟩ (.bool true)).heap[gb]? = some (.cells #[.int .i64 Y, .bool true] 29 (0, 0)) := blk_put (cs := #[.int .i64 Y, .bool false]) (blk_put (cs := #[.int .i64 0, .bool false]) HBK.out 0 _ rfl) 1 _ rfl
    have HBW := Aside0.mk hbW
    have HBKW := Aside0.mk hbk
    have hy0' := pw_cell_below hbW hx0
    have hy1' := pw_cell_below hbW hx1
    clear hbW hbk HB4 HB5 HG HBK hcz0 hcz1 hx0 hx1 hfz0 hfz1
    generalize (w5.setCell ⟨gb, 0, none⟩ (.int .i64 Y)).setCell ⟨gb, 1, none⟩ (.bool true) = wx at HBW HBKW hy0' hy1' ⊢
    have hg0 : wx.drew.cell? ⟨gb, 0, none⟩ = some (.int .i64 Y) := (blk_cell HBKW.out 0).trans rfl
    have hg1 : wx.drew.cell? ⟨gb, 1, none⟩ = some (.bool true) := (blk_cell HBKW.out 1).trans rfl
    have hy0 : wx.drew.cell? ad = some (.int .i64 x.f0) := hy0'
    have hy1 : wx.drew.cell? ⟨ad.block, ad.off + 1, none⟩ = some (.bool x.f1) := hy1'
    have HW0 := Aside0.mk (below_step HB2.out (below_drew1 HBW.out))
    have HTW := Aside0.mk (HT.out.below HW0.out)
    clear hy0' hy1'
    go_region_held3 (fun w' => w'.cell? ⟨gb, 0, none⟩ = some (.int .i64 Y) ∧ w'.cell? ⟨gb, 1, none⟩ = some (.bool true) ∧ w'.cell? ad = some (.int .i64 x.f0) ∧ w'.cell? ⟨ad.block, ad.off + 1, none⟩ = some (.bool x.f1))
     (first
      | exact ⟨hg0, hg1, hy0, hy1⟩
      | go_keep
      | exact ⟨pw_cell_below hb6 hg0, pw_cell_below hb6 hg1, pw_cell_below hb6 hy0, pw_cell_below hb6 hy1⟩
      | exact ⟨pw_cell_below (below_step hb6 hb7) hg0, pw_cell_below (below_step hb6 hb7) hg1, pw_cell_below (below_step hb6 hb7) hy0, pw_cell_below (below_step hb6 hb7) hy1⟩
      | exact ⟨pw_cell_below (below_step (below_step hb6 hb7) hb8) hg0, pw_cell_below (below_step (below_step hb6 hb7) hb8) hg1, pw_cell_below (below_step (below_step hb6 hb7) hb8) hy0, pw_cell_below (below_step (below_step hb6 hb7) hb8) hy1⟩
      | fail)
     (first
      | (go_at_call 71; with_reducible refine (impl_height_calls ⟨Y, true⟩ wx.drew HTW.out HYO.out).mono ?_; rintro e w6 ⟨rfl, hb6⟩)
      | (go_at_call 71; with_reducible refine (impl_height_calls x w6 (HTW.out.below hb6) HXL.out.1).mono ?_; rintro e w7 ⟨rfl, hb7⟩)
      | (go_at_call 70; with_reducible refine (impl_movedMelody_calls m k (IntKind.i64.wrap (hgt ⟨Y, true⟩ - hgt x)) _ _ w7 (HTW.out.below (below_step hb6 hb7)) (Kd.C_below HR0.out (below_step HW0.out (below_step hb6 hb7))) HC0.out HOK.out HKK.out).mono ?_; rintro e w8 ⟨v8, rfl, ho8, hb8⟩; rw [EW.out, HM.out] at ho8; rw [EW.out, HM.out]; obtain ⟨A8, c8, rfl⟩ := Kd.R_slice ho8)
      | fail)
    have HB8 := Aside0.mk (below_step (below_step HW0.out (below_step hb6 hb7)) hb8)
    have HO8 := Aside0.mk (Kd.R_lower ho8 (below_step HW0.out (below_step hb6 hb7)).size)
    clear hg0 hg1 hy0 hy1 hb6 hb7 hb8 ho8 HBKW HBW HTW HW0
    cases M2
    ·
     have NG : Aside0 (¬ mmT m k true) := ⟨fun h => by have h2 := h.2; rw [HTRY.out.1] at h2; cases h2⟩
     go_wp2
     go_roundg (2 - 2)
     case measure => have := HK.out; omega
     case rel => exact ⟨2, rfl, ⟨by decide, by decide, by decide, fun _ => N0.out, fun _ => NG.out⟩, HB8⟩
    ·
     have hR : (R1, R2) = (M1, true) := by rw [← HTRY.out.2]; exact HRR.out.symm.trans (mmove_yes HOK.out HPOS.out ⟨HKK.out, HTRY.out.1⟩ (fun _ => N0.out))
     cases hR
     go_wp2
     go_ret2
     exact ⟨_, rfl, HO8.out, HB8.out⟩

end Go.Proofs.YtpcohkffbjdmfaaDoor.Pure
namespace Go.Proofs.YtpcohkffbjdmfaaDoor.Pure
set_option linter.unusedVariables false
set_option linter.unusedSimpArgs false
open Go Go.RowKit Go.Proofs.YtpcohkffbjdmfaaDoor.PFnExactPsalmMove Go.Proofs.YtpcohkffbjdmfaaDoorW.PrintWords Go.Proofs.YtpcohkffbjdmfaaDoorW.PrintLast Go.Proofs.YtpcohkffbjdmfaaDoorW.PrintMore

theorem ones_of {α : Type} {d : Kd α} {W : World} {base : Nat} {okp : Nat → Prop} {ys : List α} {news : List Value} (hs0 : 0 < d.sz) (hnM : Reps (d.M W base okp) d.sz ys news) : ∀ u ∈ news, u.oneCell' = true := by
 intro u hu
 obtain ⟨q, hq, rfl⟩ := List.mem_iff_getElem.1 hu
 have hql : q / d.sz < ys.length := by
  rw [Nat.div_lt_iff_lt_mul hs0]
  have := hnM.1
  omega
 have hc := hnM.2 (q / d.sz) _ (List.getElem?_eq_getElem hql)
 refine d.K_one (d.K_of_M hc) _ ?_
 rw [List.mem_iff_getElem?]
 exact ⟨q % d.sz, by rw [List.getElem?_take, if_pos (Nat.mod_lt _ hs0), List.getElem?_drop, Nat.mul_comm, Nat.div_add_mod, List.getElem?_eq_getElem hq]⟩
theorem R_copy_all {P : Program} {ops : Array Oper} {o : Oper} {rest : List Oper} {a : Act} {Q : Exit → Act → World → Prop} {α : Type} (d : Kd α) {w0 W : World} (base : Nat) (hgd : o.guard = none) (s x : Operand) (t e : TypeId)
 (ho : o.op = .call { callee := .builtin .copy, args := #[s, x], argTypes := #[t, t] }) (ht : P.underlying t = some (.slice e)) (hsz : (P.info? e).map (·.size) = some d.sz) (hs0 : 0 < d.sz)
 (v : Value) (zs xs : List α) (hl : zs.length = xs.length) (A : Option Addr) (c : Nat) (hv : a.eval s = v) (hx : a.eval x = .slice A xs.length c)
 (HO : d.R e W base (fun _ => True) v zs) (HR : d.C W A xs.length xs) (hKM : ∀ p cs, d.K W p cs → d.M W base (fun _ => False) p cs) (HB : Below base w0 W)
 (h : ∀ w1, d.R e w1 base (fun _ => True) v xs → Below base w0 w1 → wpList P ops Q rest (a.put o.dst (goInt xs.length)) w1) : wpList P ops Q (o :: rest) a W := by
 obtain ⟨i, hi, hisz⟩ := Option.map_eq_some_iff.1 hsz
 have hrun : ∃ w1, (Builtin.copy_ #[t, t] o.type #[v, .slice A xs.length c]).run P W = .ok (goInt xs.length) w1 ∧ d.R e w1 base (fun _ => True) v xs ∧ Below base w0 w1 := by
  obtain ⟨hok, inner, hown, hr⟩ := HO
  by_cases h0 : xs.length = 0
  ·
   obtain rfl : xs = [] := List.eq_nil_of_length_eq_zero h0
   obtain rfl : zs = [] := List.eq_nil_of_length_eq_zero (by simpa using hl)
   have hl0 : ∀ (y : Addr), (loadCells y 0).run P W = .ok #[] W := fun y => by simpa using run_loadCells_list (P := P) W y [] (by simp)
   refine ⟨W, ?_, ⟨hok, inner, hown, hr⟩, HB⟩
   rcases hown.2 with ⟨rfl, _⟩ | ⟨g, cap, cur, rfl, _⟩ <;> cases A <;> simp [Builtin.copy_, run_underlying ht, Builtin.lenOf, Builtin.firstCells, sizeOf, typeInfo, hi, storeCells, hl0]
  ·
   obtain ⟨ad, rfl, hcc⟩ := HR.2.2 (by omega)
   obtain ⟨news, hnr, hnc⟩ := ReadsRow.inner_ HR
   have hnM : Reps (d.M W base (fun _ => False)) d.sz xs news := hnr.imp_ (fun p c hp => hKM p c hp)
   have hone := ones_of hs0 hnM
   rcases hown.2 with ⟨rfl, hz⟩ | ⟨g, cap, cur, rfl, hg, hh, hncap, hcm, hcs, htk⟩
   ·
    omega
   ·
    have hfit : news.length ≤ cur.size := by
     rw [hnM.1, hcs, ← hl]
     exact Nat.mul_le_mul_right _ hncap
    have hst := run_storeCells_at P g 0 e news 0 cur W hh (by omega) hone
    have hld := run_loadCells_list (P := P) W ad news hnc
    have hnl : news.length = xs.length * d.sz := hnM.1
    refine ⟨W.setRow g (cur.toList.take 0 ++ news ++ cur.toList.drop (0 + 0 + news.length)).toArray, ?_, ⟨fun _ _ => trivial, news, ?_, ?_⟩, below_setRow HB hg _⟩
    ·
     rw [hnl] at hld
     simp [Builtin.copy_, run_underlying ht, Builtin.lenOf, Builtin.firstCells, sizeOf, typeInfo, hi, hisz, hl, hld, hst]
    ·
     refine ⟨hnl, .inr ⟨g, cap, _, by rw [hl], hg, setRow_heap W g cur _ e _ hh, by omega, hcm, ?_, ?_⟩⟩
     ·
      simp only [List.take_zero, List.nil_append, List.size_toArray, List.length_append, List.length_drop, Array.length_toList]
      omega
     ·
      simp only [List.take_zero, List.nil_append]
      rw [← hnl, List.take_append_of_le_length (Nat.le_refl _), List.take_length]
    ·
     exact hnM.imp_ (fun p c hp => d.M_mono (fun k hk => hk.elim) (d.M_move (fun k hk => hk.elim) hp))
 obtain ⟨w1, hr1, h1, hb1⟩ := hrun
 refine wpList_plain hgd fun K hK => ?_
 unfold Oper.wp execOp
 simp only [ho, resolve, invoke, builtin, Sem.run_bind, Sem.run_pure, Result.andThen_ok, List.map_toArray, List.map_cons, List.map_nil, hv, hx, hr1]
 exact hK _ _ (h w1 h1 hb1)

set_option maxHeartbeats 4000000 in
set_option maxRecDepth 100000 in
theorem impl_copiedTones_calls (m : List S29) (A0 : Option Addr) (c0 : Nat) (w : World) (hr0 : Kd.C k29 w A0 m.length m) (hc0 : m.length ≤ c0) (hm : m.length ≤ 1000000000000) :
 Calls Tryd.prog 49 #[.slice A0 m.length c0] w fun e w' => ∃ v, e = .returned v ∧ Kd.R k29 29 w' w.heap.size (fun _ => True) v m ∧ Below w.heap.size w w' := by
 have HR0 := Aside0.mk hr0
 have HC0 := Aside0.mk hc0
 clear hr0 hc0
 go_enter Tryd.func49, Tryd.ntmps49
 go_wp2_with (first
  | ((with_reducible refine gate_dst (N := 6) rfl ?_); refine Kd.R_make k29 _ 29 rfl (N := 6) rfl 28 _ _ rfl (m.length : Int) rfl rfl Tryd.underlying28 (.agg #[(.int .i64 0), (.bool false)]) 16 info29 rfl (by decide) (by omega) z29 (ok := fun _ => True) (okp := fun _ => True) (k29_mkM _ _ _ z29) (fun _ hk => hk) trivial (by omega) (by omega) (Below.refl _ _) (Nat.le_refl _) ?_; intro v1 w1 ho1 hb1 hg1 _)
  | ((with_reducible refine gate_builtin (b := .copy) (xs := #[.tmp 7, .tmp 8]) rfl ?_); go_loud (refine R_copy_all k29 w.heap.size rfl (.tmp 7) (.tmp 8) 28 29 rfl Tryd.underlying28 (by have h := congrArg (Option.map (fun x => x.2.1)) info29; rw [Option.map_map] at h; exact h) (by decide) v1 (List.replicate (m.length : Int).toNat z29) m (by simp) A0 c0 rfl rfl ho1 (Kd.C_below HR0.out hb1) (fun p c h => by rw [k29_open h]; exact k29_mkM _ _ _ p) hb1 ?_); intro w2 ho2 hb2))
 go_ret
 exact ⟨_, rfl, ho2, hb2⟩

end Go.Proofs.YtpcohkffbjdmfaaDoor.Pure
namespace Go.Proofs.YtpcohkffbjdmfaaDoor.PFnExactPsalmMove
open Go.RowKit Go.Proofs.YtpcohkffbjdmfaaDoorW.PrintWords Go.Proofs.YtpcohkffbjdmfaaDoorW.PrintLast Go.Proofs.YtpcohkffbjdmfaaDoorW.PrintMore
attribute [local go_sem] max2_int min2_int max_two min_two max_three min_three max_four min_four   -- for this text's walks alone
set_option linter.unusedVariables false
set_option linter.unusedSimpArgs false

def spec_l4Tones.f (k : Nat) (l0 : List (S29)) (a1 : Int) (a2 : Int) : Option (Bool) := (spec_MelodyValid.f k l0).bind fun t110 => (if t110 = true then ((spec_l6In.f (l0.length : Int) a1 a2).bind fun t111 => (some t111)) else (some false))
set_option maxHeartbeats 8000000 in
set_option maxRecDepth 100000 in
theorem spec_l4Tones.calls (k : Nat) (A0 : Option Addr) (c0 : Nat) (l0 : List (S29)) (a1 : Int) (a2 : Int) (r : Bool) (w : World) (hr0 : Kd.C k29 w A0 l0.length l0) (hc0 : l0.length ≤ c0) (h : spec_l4Tones.f k l0 a1 a2 = some r) :
 Calls Tryd.prog 82 #[.slice A0 l0.length c0, .int .i64 a1, .int .i64 a2] w fun e w' => e = .returned (.bool r) ∧ Below w.heap.size w w' := by
 have HR0 := Aside0.mk hr0; have HC0 := Aside0.mk hc0; clear hr0 hc0; have HB := Aside0.mk (Below.refl w.heap.size w); have H : ((spec_MelodyValid.f k l0).bind fun t110 => (if t110 = true then ((spec_l6In.f (l0.length : Int) a1 a2).bind fun t111 => (some t111)) else (some false))) = some r := h; clear h; replace H := Option.bind_eq_some_iff.mp H; obtain ⟨t110, A40, H⟩ := H; replace H : (if t110 = true then ((spec_l6In.f (l0.length : Int) a1 a2).bind fun t111 => (some t111)) else (some false)) = some r := H; have A4 := Aside0.mk A40; clear A40; by_cases c5 : t110 = true
 ·
  subst c5; have H1 : ((spec_l6In.f (l0.length : Int) a1 a2).bind fun t111 => (some t111)) = some r := by rw [if_pos rfl] at H; exact H
  clear H; have H := H1; clear H1; replace H := Option.bind_eq_some_iff.mp H; obtain ⟨t111, A60, H⟩ := H; replace H : (some t111) = some r := H; have A6 := Aside0.mk A60; clear A60; obtain rfl := Option.some.inj H; go_enter Tryd.func82, Tryd.ntmps82
  go_wp2_with (first | ((with_reducible refine gate_callee (f := 64) rfl ?_); refine goesL_ (some 8) rfl rfl Tryd.func64 (by kernel_rfl) rfl #[.slice A0 l0.length c0] rfl (by (try simp only [List.map_toArray, List.map_cons, List.map_nil]); first | done | rfl | (simp only [List.length_drop, List.length_take]; rfl)) ?_; (with_reducible refine (spec_MelodyValid.calls k _ _ l0 true _ ?side1 ?side2 A4.out).mono ?_); (case side1 => repeat (first | exact HR0.out | (with_reducible refine Kd.C_alloc ?_ _) | (with_reducible refine Kd.C_drewN ?_ _) | (with_reducible refine Kd.C_drew ?_))); (case side2 => exact HC0.out); rintro e w7 ⟨rfl, hb⟩; refine ⟨_, rfl, ?_⟩; have n0_ := Aside0.mk (below_step (by repeat (first | (with_reducible first | exact HB.out | apply below_alloc | apply pw_below_drewN | apply below_drew1) | exact HB.out)) hb); clear HB; have HB := n0_; clear n0_; (try clear hb); (try clear hb2); (try clear hk); (try clear hi)) | (go_at_call 84; (with_reducible refine (spec_l6In.calls (l0.length : Int) a1 a2 t111 _ A6.out).mono ?_); rintro e w' ⟨rfl, ⟨nd, rfl⟩⟩))
  go_ret
  exact ⟨by first | rfl | (simp [errW_none, errW_some] <;> rfl) | (simp [*, errW_none, errW_some] <;> rfl), by repeat (first | (with_reducible first | exact HB.out | apply below_alloc | apply pw_below_drewN | apply below_drew1) | exact HB.out)⟩
 ·
  replace c5 := Bool.eq_false_iff.mpr c5; subst c5; have H1 : (some false) = some r := by rw [if_neg (show ¬ (false = true) by decide)] at H; exact H
  clear H; have H := H1; clear H1; obtain rfl := Option.some.inj H; go_enter Tryd.func82, Tryd.ntmps82
  go_wp2_with (first | ((with_reducible refine gate_callee (f := 64) rfl ?_); refine goesL_ (some 8) rfl rfl Tryd.func64 (by kernel_rfl) rfl #[.slice A0 l0.length c0] rfl (by (try simp only [List.map_toArray, List.map_cons, List.map_nil]); first | done | rfl | (simp only [List.length_drop, List.length_take]; rfl)) ?_; (with_reducible refine (spec_MelodyValid.calls k _ _ l0 false _ ?side1 ?side2 A4.out).mono ?_); (case side1 => repeat (first | exact HR0.out | (with_reducible refine Kd.C_alloc ?_ _) | (with_reducible refine Kd.C_drewN ?_ _) | (with_reducible refine Kd.C_drew ?_))); (case side2 => exact HC0.out); rintro e w8 ⟨rfl, hb⟩; refine ⟨_, rfl, ?_⟩; have n0_ := Aside0.mk (below_step (by repeat (first | (with_reducible first | exact HB.out | apply below_alloc | apply pw_below_drewN | apply below_drew1) | exact HB.out)) hb); clear HB; have HB := n0_; clear n0_; (try clear hb); (try clear hb2); (try clear hk); (try clear hi)))
  go_ret
  exact ⟨by first | rfl | (simp [errW_none, errW_some] <;> rfl) | (simp [*, errW_none, errW_some] <;> rfl), by repeat (first | (with_reducible first | exact HB.out | apply below_alloc | apply pw_below_drewN | apply below_drew1) | exact HB.out)⟩

end Go.Proofs.YtpcohkffbjdmfaaDoor.PFnExactPsalmMove
namespace Go.Proofs.YtpcohkffbjdmfaaDoor.PFnExactPsalmMove
open Go.RowKit Go.Proofs.YtpcohkffbjdmfaaDoorW.PrintWords Go.Proofs.YtpcohkffbjdmfaaDoorW.PrintLast Go.Proofs.YtpcohkffbjdmfaaDoorW.PrintMore
attribute [local go_sem] max2_int min2_int max_two min_two max_three min_three max_four min_four   -- for this text's walks alone
set_option linter.unusedVariables false
set_option linter.unusedSimpArgs false

def spec_PsalmValid.f (k : Nat) (l0_0 : List (S29)) (a0_1 : Int) (a0_2 : Bool) (l0_3 : List (S29)) (l0_4 : List (S29)) : Option (Bool) := (spec_l4Tones.f k l0_0 0 3).bind fun t113 => (if t113 = true then ((spec_ToneValid.f a0_1 a0_2).bind fun t114 => (if t114 = true then ((spec_l4Tones.f k l0_3 1 4).bind fun t115 => (if t115 = true then ((spec_l4Tones.f k l0_4 1 4).bind fun t116 => (some t116)) else (some false))) else (some false))) else (some false))
set_option maxHeartbeats 8000000 in
set_option maxRecDepth 100000 in
theorem spec_PsalmValid.calls (k : Nat) (A0_0 : Option Addr) (c0_0 : Nat) (l0_0 : List (S29)) (a0_1 : Int) (a0_2 : Bool) (A0_3 : Option Addr) (c0_3 : Nat) (l0_3 : List (S29)) (A0_4 : Option Addr) (c0_4 : Nat) (l0_4 : List (S29)) (r : Bool) (w : World) (hr0_0 : Kd.C k29 w A0_0 l0_0.length l0_0) (hc0_0 : l0_0.length ≤ c0_0) (hr0_3 : Kd.C k29 w A0_3 l0_3.length l0_3) (hc0_3 : l0_3.length ≤ c0_3) (hr0_4 : Kd.C k29 w A0_4 l0_4.length l0_4) (hc0_4 : l0_4.length ≤ c0_4) (h : spec_PsalmValid.f k l0_0 a0_1 a0_2 l0_3 l0_4 = some r) :
 Calls Tryd.prog 44 #[.agg #[.slice A0_0 l0_0.length c0_0, .int .i64 a0_1, .bool a0_2, .slice A0_3 l0_3.length c0_3, .slice A0_4 l0_4.length c0_4]] w fun e w' => e = .returned (.bool r) ∧ Below w.heap.size w w' := by
 have hu31 := Tryd.underlying31; have hu29 := Tryd.underlying29; have HR0_0 := Aside0.mk hr0_0; have HC0_0 := Aside0.mk hc0_0; clear hr0_0 hc0_0; have HR0_3 := Aside0.mk hr0_3; have HC0_3 := Aside0.mk hc0_3; clear hr0_3 hc0_3; have HR0_4 := Aside0.mk hr0_4; have HC0_4 := Aside0.mk hc0_4; clear hr0_4 hc0_4; have HB := Aside0.mk (Below.refl w.heap.size w); have H : ((spec_l4Tones.f k l0_0 0 3).bind fun t113 => (if t113 = true then ((spec_ToneValid.f a0_1 a0_2).bind fun t114 => (if t114 = true then ((spec_l4Tones.f k l0_3 1 4).bind fun t115 => (if t115 = true then ((spec_l4Tones.f k l0_4 1 4).bind fun t116 => (some t116)) else (some false))) else (some false))) else (some false))) = some r := h; clear h; replace H := Option.bind_eq_some_iff.mp H; obtain ⟨t113, A20, H⟩ := H; replace H : (if t113 = true then ((spec_ToneValid.f a0_1 a0_2).bind fun t114 => (if t114 = true then ((spec_l4Tones.f k l0_3 1 4).bind fun t115 => (if t115 = true then ((spec_l4Tones.f k l0_4 1 4).bind fun t116 => (some t116)) else (some false))) else (some false))) else (some false)) = some r := H; have A2 := Aside0.mk A20; clear A20; by_cases c3 : t113 = true
 ·
  subst c3; have H1 : ((spec_ToneValid.f a0_1 a0_2).bind fun t114 => (if t114 = true then ((spec_l4Tones.f k l0_3 1 4).bind fun t115 => (if t115 = true then ((spec_l4Tones.f k l0_4 1 4).bind fun t116 => (some t116)) else (some false))) else (some false))) = some r := by rw [if_pos rfl] at H; exact H
  clear H; have H := H1; clear H1; replace H := Option.bind_eq_some_iff.mp H; obtain ⟨t114, A40, H⟩ := H; replace H : (if t114 = true then ((spec_l4Tones.f k l0_3 1 4).bind fun t115 => (if t115 = true then ((spec_l4Tones.f k l0_4 1 4).bind fun t116 => (some t116)) else (some false))) else (some false)) = some r := H; have A4 := Aside0.mk A40; clear A40; by_cases c5 : t114 = true
  ·
   subst c5; have H1 : ((spec_l4Tones.f k l0_3 1 4).bind fun t115 => (if t115 = true then ((spec_l4Tones.f k l0_4 1 4).bind fun t116 => (some t116)) else (some false))) = some r := by rw [if_pos rfl] at H; exact H
   clear H; have H := H1; clear H1; replace H := Option.bind_eq_some_iff.mp H; obtain ⟨t115, A60, H⟩ := H; replace H : (if t115 = true then ((spec_l4Tones.f k l0_4 1 4).bind fun t116 => (some t116)) else (some false)) = some r := H; have A6 := Aside0.mk A60; clear A60; by_cases c7 : t115 = true
   ·
    subst c7; have H1 : ((spec_l4Tones.f k l0_4 1 4).bind fun t116 => (some t116)) = some r := by rw [if_pos rfl] at H; exact H
    clear H; have H := H1; clear H1; replace H := Option.bind_eq_some_iff.mp H; obtain ⟨t116, A80, H⟩ := H; replace H : (some t116) = some r := H; have A8 := Aside0.mk A80; clear A80; obtain rfl := Option.some.inj H; go_enter Tryd.func44, Tryd.ntmps44
    go_wp2_with (first | ((with_reducible refine gate_dst (N := 1) rfl ?_); refine box_event ?hg (N := 1) ?hd (cs := #[.slice A0_0 l0_0.length c0_0, .int .i64 a0_1, .bool a0_2, .slice A0_3 l0_3.length c0_3, .slice A0_4 l0_4.length c0_4]) (t := 31) ?hr ?_; (case hd => rfl); (case hg => rfl); (case hr => first | (go_simp; done) | (go_simp; rfl)); intro gb112 hg w9 hbox hb; have n0_ := Aside0.mk (below_step (by repeat (first | (with_reducible first | exact HB.out | apply below_alloc | apply pw_below_drewN | apply below_drew1) | exact HB.out)) hb); have n1_ := Aside0.mk (hbox); have n2_ := Aside0.mk ((by rw [hg]; exact (below_size (by repeat (first | (with_reducible first | exact HB.out | apply below_alloc | apply pw_below_drewN | apply below_drew1) | exact HB.out))) : w.heap.size ≤ gb112)); have n3_ := Aside0.mk ((by rw [hg]; exact (below_size (by repeat (first | (with_reducible first | exact HB.out | apply below_alloc | apply pw_below_drewN | apply below_drew1) | exact HB.out))) : w.heap.size ≤ gb112)); clear HB; have HB := n0_; have BK112 := n1_; have GW112 := n2_; have GE112 := n3_; clear n0_ n1_ n2_ n3_; clear hb hbox hg; have hcz10_0 : w9.cell? ⟨gb112, 0, none⟩ = some (.slice A0_0 l0_0.length c0_0) := (blk_cell BK112.out 0).trans rfl; have hcz10_1 : w9.cell? ⟨gb112, 1, none⟩ = some (.int .i64 a0_1) := (blk_cell BK112.out 1).trans rfl; have hcz10_2 : w9.cell? ⟨gb112, 2, none⟩ = some (.bool a0_2) := (blk_cell BK112.out 2).trans rfl; have hcz10_3 : w9.cell? ⟨gb112, 3, none⟩ = some (.slice A0_3 l0_3.length c0_3) := (blk_cell BK112.out 3).trans rfl; have hcz10_4 : w9.cell? ⟨gb112, 4, none⟩ = some (.slice A0_4 l0_4.length c0_4) := (blk_cell BK112.out 4).trans rfl; have hfz10_0 := blk_frozen BK112.out 0; have hfz10_1 := blk_frozen BK112.out 1; have hfz10_2 := blk_frozen BK112.out 2; have hfz10_3 := blk_frozen BK112.out 3; have hfz10_4 := blk_frozen BK112.out 4) | ((with_reducible refine gate_callee (f := 82) rfl ?_); refine goesL_ (some 5) rfl rfl Tryd.func82 (by kernel_rfl) rfl #[.slice A0_0 l0_0.length c0_0, .int .i64 0, .int .i64 3] rfl (by (try simp only [List.map_toArray, List.map_cons, List.map_nil]); first | done | rfl | (simp only [List.length_drop, List.length_take]; rfl)) ?_; (with_reducible refine (spec_l4Tones.calls k _ _ l0_0 0 3 true _ ?side1 ?side2 A2.out).mono ?_); (case side1 => repeat (first | exact (Kd.C_below HR0_0.out HB.out) | (with_reducible refine Kd.C_alloc ?_ _) | (with_reducible refine Kd.C_drewN ?_ _) | (with_reducible refine Kd.C_drew ?_))); (case side2 => exact HC0_0.out); rintro e w11 ⟨rfl, hb⟩; refine ⟨_, rfl, ?_⟩; have n0_ := Aside0.mk (blk_below (g := gb112) (o := .cells #[.slice A0_0 l0_0.length c0_0, .int .i64 a0_1, .bool a0_2, .slice A0_3 l0_3.length c0_3, .slice A0_4 l0_4.length c0_4] 31 (0, 0)) (by (with_reducible repeat (first | refine blk_drewN ?_ _ | refine blk_drew ?_ | refine blk_alloc ?_ _)); exact BK112.out) hb); have n1_ := Aside0.mk (below_step (by repeat (first | (with_reducible first | exact HB.out | apply below_alloc | apply pw_below_drewN | apply below_drew1 | refine below_set ?_ GE112.out) | exact HB.out)) hb); clear BK112; clear HB; have BK112 := n0_; have HB := n1_; clear n0_ n1_; (try clear hb); (try clear hb2); (try clear hk); (try clear hi); have hcz12_0 : w11.cell? ⟨gb112, 0, none⟩ = some (.slice A0_0 l0_0.length c0_0) := (blk_cell BK112.out 0).trans rfl; have hcz12_1 : w11.cell? ⟨gb112, 1, none⟩ = some (.int .i64 a0_1) := (blk_cell BK112.out 1).trans rfl; have hcz12_2 : w11.cell? ⟨gb112, 2, none⟩ = some (.bool a0_2) := (blk_cell BK112.out 2).trans rfl; have hcz12_3 : w11.cell? ⟨gb112, 3, none⟩ = some (.slice A0_3 l0_3.length c0_3) := (blk_cell BK112.out 3).trans rfl; have hcz12_4 : w11.cell? ⟨gb112, 4, none⟩ = some (.slice A0_4 l0_4.length c0_4) := (blk_cell BK112.out 4).trans rfl; have hfz12_0 := blk_frozen BK112.out 0; have hfz12_1 := blk_frozen BK112.out 1; have hfz12_2 := blk_frozen BK112.out 2; have hfz12_3 := blk_frozen BK112.out 3; have hfz12_4 := blk_frozen BK112.out 4) | (go_at_call 83; (with_reducible refine (spec_ToneValid.calls a0_1 a0_2 true _ A4.out).mono ?_); rintro e w13 ⟨rfl, hb⟩; have n0_ := Aside0.mk (blk_below (g := gb112) (o := .cells #[.slice A0_0 l0_0.length c0_0, .int .i64 a0_1, .bool a0_2, .slice A0_3 l0_3.length c0_3, .slice A0_4 l0_4.length c0_4] 31 (0, 0)) (by (with_reducible repeat (first | refine blk_drewN ?_ _ | refine blk_drew ?_ | refine blk_alloc ?_ _)); exact BK112.out) hb); have n1_ := Aside0.mk (below_step (by repeat (first | (with_reducible first | exact HB.out | apply below_alloc | apply pw_below_drewN | apply below_drew1 | refine below_set ?_ GE112.out) | exact HB.out)) hb); clear BK112; clear HB; have BK112 := n0_; have HB := n1_; clear n0_ n1_; (try clear hb); (try clear hb2); (try clear hk); (try clear hi); have hcz14_0 : w13.cell? ⟨gb112, 0, none⟩ = some (.slice A0_0 l0_0.length c0_0) := (blk_cell BK112.out 0).trans rfl; have hcz14_1 : w13.cell? ⟨gb112, 1, none⟩ = some (.int .i64 a0_1) := (blk_cell BK112.out 1).trans rfl; have hcz14_2 : w13.cell? ⟨gb112, 2, none⟩ = some (.bool a0_2) := (blk_cell BK112.out 2).trans rfl; have hcz14_3 : w13.cell? ⟨gb112, 3, none⟩ = some (.slice A0_3 l0_3.length c0_3) := (blk_cell BK112.out 3).trans rfl; have hcz14_4 : w13.cell? ⟨gb112, 4, none⟩ = some (.slice A0_4 l0_4.length c0_4) := (blk_cell BK112.out 4).trans rfl; have hfz14_0 := blk_frozen BK112.out 0; have hfz14_1 := blk_frozen BK112.out 1; have hfz14_2 := blk_frozen BK112.out 2; have hfz14_3 := blk_frozen BK112.out 3; have hfz14_4 := blk_frozen BK112.out 4) | (go_at_call 82; (with_reducible refine (spec_l4Tones.calls k _ _ l0_3 1 4 true _ ?side1 ?side2 A6.out).mono ?_); (case side1 => repeat (first | exact (Kd.C_below HR0_3.out HB.out) | (with_reducible refine Kd.C_alloc ?_ _) | (with_reducible refine Kd.C_drewN ?_ _) | (with_reducible refine Kd.C_drew ?_))); (case side2 => exact HC0_3.out); rintro e w15 ⟨rfl, hb⟩; have n0_ := Aside0.mk (blk_below (g := gb112) (o := .cells #[.slice A0_0 l0_0.length c0_0, .int .i64 a0_1, .bool a0_2, .slice A0_3 l0_3.length c0_3, .slice A0_4 l0_4.length c0_4] 31 (0, 0)) (by (with_reducible repeat (first | refine blk_drewN ?_ _ | refine blk_drew ?_ | refine blk_alloc ?_ _)); exact BK112.out) hb); have n1_ := Aside0.mk (below_step (by repeat (first | (with_reducible first | exact HB.out | apply below_alloc | apply pw_below_drewN | apply below_drew1 | refine below_set ?_ GE112.out) | exact HB.out)) hb); clear BK112; clear HB; have BK112 := n0_; have HB := n1_; clear n0_ n1_; (try clear hb); (try clear hb2); (try clear hk); (try clear hi); have hcz16_0 : w15.cell? ⟨gb112, 0, none⟩ = some (.slice A0_0 l0_0.length c0_0) := (blk_cell BK112.out 0).trans rfl; have hcz16_1 : w15.cell? ⟨gb112, 1, none⟩ = some (.int .i64 a0_1) := (blk_cell BK112.out 1).trans rfl; have hcz16_2 : w15.cell? ⟨gb112, 2, none⟩ = some (.bool a0_2) := (blk_cell BK112.out 2).trans rfl; have hcz16_3 : w15.cell? ⟨gb112, 3, none⟩ = some (.slice A0_3 l0_3.length c0_3) := (blk_cell BK112.out 3).trans rfl; have hcz16_4 : w15.cell? ⟨gb112, 4, none⟩ = some (.slice A0_4 l0_4.length c0_4) := (blk_cell BK112.out 4).trans rfl; have hfz16_0 := blk_frozen BK112.out 0; have hfz16_1 := blk_frozen BK112.out 1; have hfz16_2 := blk_frozen BK112.out 2; have hfz16_3 := blk_frozen BK112.out 3; have hfz16_4 := blk_frozen BK112.out 4) | (go_at_call 82; (with_reducible refine (spec_l4Tones.calls k _ _ l0_4 1 4 t116 _ ?side1 ?side2 A8.out).mono ?_); (case side1 => repeat (first | exact (Kd.C_below HR0_4.out HB.out) | (with_reducible refine Kd.C_alloc ?_ _) | (with_reducible refine Kd.C_drewN ?_ _) | (with_reducible refine Kd.C_drew ?_))); (case side2 => exact HC0_4.out); rintro e w17 ⟨rfl, hb⟩; have n0_ := Aside0.mk (blk_below (g := gb112) (o := .cells #[.slice A0_0 l0_0.length c0_0, .int .i64 a0_1, .bool a0_2, .slice A0_3 l0_3.length c0_3, .slice A0_4 l0_4.length c0_4] 31 (0, 0)) (by (with_reducible repeat (first | refine blk_drewN ?_ _ | refine blk_drew ?_ | refine blk_alloc ?_ _)); exact BK112.out) hb); have n1_ := Aside0.mk (below_step (by repeat (first | (with_reducible first | exact HB.out | apply below_alloc | apply pw_below_drewN | apply below_drew1 | refine below_set ?_ GE112.out) | exact HB.out)) hb); clear BK112; clear HB; have BK112 := n0_; have HB := n1_; clear n0_ n1_; (try clear hb); (try clear hb2); (try clear hk); (try clear hi)))
    go_ret
    exact ⟨by first | rfl | (simp [errW_none, errW_some] <;> rfl) | (simp [*, errW_none, errW_some] <;> rfl), by repeat (first | (with_reducible first | exact HB.out | apply below_alloc | apply pw_below_drewN | apply below_drew1 | refine below_set ?_ GE112.out) | exact HB.out)⟩
   ·
    replace c7 := Bool.eq_false_iff.mpr c7; subst c7; have H1 : (some false) = some r := by rw [if_neg (show ¬ (false = true) by decide)] at H; exact H
    clear H; have H := H1; clear H1; obtain rfl := Option.some.inj H; go_enter Tryd.func44, Tryd.ntmps44
    go_wp2_with (first | ((with_reducible refine gate_dst (N := 1) rfl ?_); refine box_event ?hg (N := 1) ?hd (cs := #[.slice A0_0 l0_0.length c0_0, .int .i64 a0_1, .bool a0_2, .slice A0_3 l0_3.length c0_3, .slice A0_4 l0_4.length c0_4]) (t := 31) ?hr ?_; (case hd => rfl); (case hg => rfl); (case hr => first | (go_simp; done) | (go_simp; rfl)); intro gb112 hg w18 hbox hb; have n0_ := Aside0.mk (below_step (by repeat (first | (with_reducible first | exact HB.out | apply below_alloc | apply pw_below_drewN | apply below_drew1) | exact HB.out)) hb); have n1_ := Aside0.mk (hbox); have n2_ := Aside0.mk ((by rw [hg]; exact (below_size (by repeat (first | (with_reducible first | exact HB.out | apply below_alloc | apply pw_below_drewN | apply below_drew1) | exact HB.out))) : w.heap.size ≤ gb112)); have n3_ := Aside0.mk ((by rw [hg]; exact (below_size (by repeat (first | (with_reducible first | exact HB.out | apply below_alloc | apply pw_below_drewN | apply below_drew1) | exact HB.out))) : w.heap.size ≤ gb112)); clear HB; have HB := n0_; have BK112 := n1_; have GW112 := n2_; have GE112 := n3_; clear n0_ n1_ n2_ n3_; clear hb hbox hg; have hcz19_0 : w18.cell? ⟨gb112, 0, none⟩ = some (.slice A0_0 l0_0.length c0_0) := (blk_cell BK112.out 0).trans rfl; have hcz19_1 : w18.cell? ⟨gb112, 1, none⟩ = some (.int .i64 a0_1) := (blk_cell BK112.out 1).trans rfl; have hcz19_2 : w18.cell? ⟨gb112, 2, none⟩ = some (.bool a0_2) := (blk_cell BK112.out 2).trans rfl; have hcz19_3 : w18.cell? ⟨gb112, 3, none⟩ = some (.slice A0_3 l0_3.length c0_3) := (blk_cell BK112.out 3).trans rfl; have hcz19_4 : w18.cell? ⟨gb112, 4, none⟩ = some (.slice A0_4 l0_4.length c0_4) := (blk_cell BK112.out 4).trans rfl; have hfz19_0 := blk_frozen BK112.out 0; have hfz19_1 := blk_frozen BK112.out 1; have hfz19_2 := blk_frozen BK112.out 2; have hfz19_3 := blk_frozen BK112.out 3; have hfz19_4 := blk_frozen BK112.out 4) | ((with_reducible refine gate_callee (f := 82) rfl ?_); refine goesL_ (some 5) rfl rfl Tryd.func82 (by kernel_rfl) rfl #[.slice A0_0 l0_0.length c0_0, .int .i64 0, .int .i64 3] rfl (by (try simp only [List.map_toArray, List.map_cons, List.map_nil]); first | done | rfl | (simp only [List.length_drop, List.length_take]; rfl)) ?_; (with_reducible refine (spec_l4Tones.calls k _ _ l0_0 0 3 true _ ?side1 ?side2 A2.out).mono ?_); (case side1 => repeat (first | exact (Kd.C_below HR0_0.out HB.out) | (with_reducible refine Kd.C_alloc ?_ _) | (with_reducible refine Kd.C_drewN ?_ _) | (with_reducible refine Kd.C_drew ?_))); (case side2 => exact HC0_0.out); rintro e w20 ⟨rfl, hb⟩; refine ⟨_, rfl, ?_⟩; have n0_ := Aside0.mk (blk_below (g := gb112) (o := .cells #[.slice A0_0 l0_0.length c0_0, .int .i64 a0_1, .bool a0_2, .slice A0_3 l0_3.length c0_3, .slice A0_4 l0_4.length c0_4] 31 (0, 0)) (by (with_reducible repeat (first | refine blk_drewN ?_ _ | refine blk_drew ?_ | refine blk_alloc ?_ _)); exact BK112.out) hb); have n1_ := Aside0.mk (below_step (by repeat (first | (with_reducible first | exact HB.out | apply below_alloc | apply pw_below_drewN | apply below_drew1 | refine below_set ?_ GE112.out) | exact HB.out)) hb); clear BK112; clear HB; have BK112 := n0_; have HB := n1_; clear n0_ n1_; (try clear hb); (try clear hb2); (try clear hk); (try clear hi); have hcz21_0 : w20.cell? ⟨gb112, 0, none⟩ = some (.slice A0_0 l0_0.length c0_0) := (blk_cell BK112.out 0).trans rfl; have hcz21_1 : w20.cell? ⟨gb112, 1, none⟩ = some (.int .i64 a0_1) := (blk_cell BK112.out 1).trans rfl; have hcz21_2 : w20.cell? ⟨gb112, 2, none⟩ = some (.bool a0_2) := (blk_cell BK112.out 2).trans rfl; have hcz21_3 : w20.cell? ⟨gb112, 3, none⟩ = some (.slice A0_3 l0_3.length c0_3) := (blk_cell BK112.out 3).trans rfl; have hcz21_4 : w20.cell? ⟨gb112, 4, none⟩ = some (.slice A0_4 l0_4.length c0_4) := (blk_cell BK112.out 4).trans rfl; have hfz21_0 := blk_frozen BK112.out 0; have hfz21_1 := blk_frozen BK112.out 1; have hfz21_2 := blk_frozen BK112.out 2; have hfz21_3 := blk_frozen BK112.out 3; have hfz21_4 := blk_frozen BK112.out 4) | (go_at_call 83; (with_reducible refine (spec_ToneValid.calls a0_1 a0_2 true _ A4.out).mono ?_); rintro e w22 ⟨rfl, hb⟩; have n0_ := Aside0.mk (blk_below (g := gb112) (o := .cells #[.slice A0_0 l0_0.length c0_0, .int .i64 a0_1, .bool a0_2, .slice A0_3 l0_3.length c0_3, .slice A0_4 l0_4.length c0_4] 31 (0, 0)) (by (with_reducible repeat (first | refine blk_drewN ?_ _ | refine blk_drew ?_ | refine blk_alloc ?_ _)); exact BK112.out) hb); have n1_ := Aside0.mk (below_step (by repeat (first | (with_reducible first | exact HB.out | apply below_alloc | apply pw_below_drewN | apply below_drew1 | refine below_set ?_ GE112.out) | exact HB.out)) hb); clear BK112; clear HB; have BK112 := n0_; have HB := n1_; clear n0_ n1_; (try clear hb); (try clear hb2); (try clear hk); (try clear hi); have hcz23_0 : w22.cell? ⟨gb112, 0, none⟩ = some (.slice A0_0 l0_0.length c0_0) := (blk_cell BK112.out 0).trans rfl; have hcz23_1 : w22.cell? ⟨gb112, 1, none⟩ = some (.int .i64 a0_1) := (blk_cell BK112.out 1).trans rfl; have hcz23_2 : w22.cell? ⟨gb112, 2, none⟩ = some (.bool a0_2) := (blk_cell BK112.out 2).trans rfl; have hcz23_3 : w22.cell? ⟨gb112, 3, none⟩ = some (.slice A0_3 l0_3.length c0_3) := (blk_cell BK112.out 3).trans rfl; have hcz23_4 : w22.cell? ⟨gb112, 4, none⟩ = some (.slice A0_4 l0_4.length c0_4) := (blk_cell BK112.out 4).trans rfl; have hfz23_0 := blk_frozen BK112.out 0; have hfz23_1 := blk_frozen BK112.out 1; have hfz23_2 := blk_frozen BK112.out 2; have hfz23_3 := blk_frozen BK112.out 3; have hfz23_4 := blk_frozen BK112.out 4) | (go_at_call 82; (with_reducible refine (spec_l4Tones.calls k _ _ l0_3 1 4 false _ ?side1 ?side2 A6.out).mono ?_); (case side1 => repeat (first | exact (Kd.C_below HR0_3.out HB.out) | (with_reducible refine Kd.C_alloc ?_ _) | (with_reducible refine Kd.C_drewN ?_ _) | (with_reducible refine Kd.C_drew ?_))); (case side2 => exact HC0_3.out); rintro e w24 ⟨rfl, hb⟩; have n0_ := Aside0.mk (blk_below (g := gb112) (o := .cells #[.slice A0_0 l0_0.length c0_0, .int .i64 a0_1, .bool a0_2, .slice A0_3 l0_3.length c0_3, .slice A0_4 l0_4.length c0_4] 31 (0, 0)) (by (with_reducible repeat (first | refine blk_drewN ?_ _ | refine blk_drew ?_ | refine blk_alloc ?_ _)); exact BK112.out) hb); have n1_ := Aside0.mk (below_step (by repeat (first | (with_reducible first | exact HB.out | apply below_alloc | apply pw_below_drewN | apply below_drew1 | refine below_set ?_ GE112.out) | exact HB.out)) hb); clear BK112; clear HB; have BK112 := n0_; have HB := n1_; clear n0_ n1_; (try clear hb); (try clear hb2); (try clear hk); (try clear hi)))
    go_ret
    exact ⟨by first | rfl | (simp [errW_none, errW_some] <;> rfl) | (simp [*, errW_none, errW_some] <;> rfl), by repeat (first | (with_reducible first | exact HB.out | apply below_alloc | apply pw_below_drewN | apply below_drew1 | refine below_set ?_ GE112.out) | exact HB.out)⟩
  ·
   replace c5 := Bool.eq_false_iff.mpr c5; subst c5; have H1 : (some false) = some r := by rw [if_neg (show ¬ (false = true) by decide)] at H; exact H
   clear H; have H := H1; clear H1; obtain rfl := Option.some.inj H; go_enter Tryd.func44, Tryd.ntmps44
   go_wp2_with (first | ((with_reducible refine gate_dst (N := 1) rfl ?_); refine box_event ?hg (N := 1) ?hd (cs := #[.slice A0_0 l0_0.length c0_0, .int .i64 a0_1, .bool a0_2, .slice A0_3 l0_3.length c0_3, .slice A0_4 l0_4.length c0_4]) (t := 31) ?hr ?_; (case hd => rfl); (case hg => rfl); (case hr => first | (go_simp; done) | (go_simp; rfl)); intro gb112 hg w25 hbox hb; have n0_ := Aside0.mk (below_step (by repeat (first | (with_reducible first | exact HB.out | apply below_alloc | apply pw_below_drewN | apply below_drew1) | exact HB.out)) hb); have n1_ := Aside0.mk (hbox); have n2_ := Aside0.mk ((by rw [hg]; exact (below_size (by repeat (first | (with_reducible first | exact HB.out | apply below_alloc | apply pw_below_drewN | apply below_drew1) | exact HB.out))) : w.heap.size ≤ gb112)); have n3_ := Aside0.mk ((by rw [hg]; exact (below_size (by repeat (first | (with_reducible first | exact HB.out | apply below_alloc | apply pw_below_drewN | apply below_drew1) | exact HB.out))) : w.heap.size ≤ gb112)); clear HB; have HB := n0_; have BK112 := n1_; have GW112 := n2_; have GE112 := n3_; clear n0_ n1_ n2_ n3_; clear hb hbox hg; have hcz26_0 : w25.cell? ⟨gb112, 0, none⟩ = some (.slice A0_0 l0_0.length c0_0) := (blk_cell BK112.out 0).trans rfl; have hcz26_1 : w25.cell? ⟨gb112, 1, none⟩ = some (.int .i64 a0_1) := (blk_cell BK112.out 1).trans rfl; have hcz26_2 : w25.cell? ⟨gb112, 2, none⟩ = some (.bool a0_2) := (blk_cell BK112.out 2).trans rfl; have hcz26_3 : w25.cell? ⟨gb112, 3, none⟩ = some (.slice A0_3 l0_3.length c0_3) := (blk_cell BK112.out 3).trans rfl; have hcz26_4 : w25.cell? ⟨gb112, 4, none⟩ = some (.slice A0_4 l0_4.length c0_4) := (blk_cell BK112.out 4).trans rfl; have hfz26_0 := blk_frozen BK112.out 0; have hfz26_1 := blk_frozen BK112.out 1; have hfz26_2 := blk_frozen BK112.out 2; have hfz26_3 := blk_frozen BK112.out 3; have hfz26_4 := blk_frozen BK112.out 4) | ((with_reducible refine gate_callee (f := 82) rfl ?_); refine goesL_ (some 5) rfl rfl Tryd.func82 (by kernel_rfl) rfl #[.slice A0_0 l0_0.length c0_0, .int .i64 0, .int .i64 3] rfl (by (try simp only [List.map_toArray, List.map_cons, List.map_nil]); first | done | rfl | (simp only [List.length_drop, List.length_take]; rfl)) ?_; (with_reducible refine (spec_l4Tones.calls k _ _ l0_0 0 3 true _ ?side1 ?side2 A2.out).mono ?_); (case side1 => repeat (first | exact (Kd.C_below HR0_0.out HB.out) | (with_reducible refine Kd.C_alloc ?_ _) | (with_reducible refine Kd.C_drewN ?_ _) | (with_reducible refine Kd.C_drew ?_))); (case side2 => exact HC0_0.out); rintro e w27 ⟨rfl, hb⟩; refine ⟨_, rfl, ?_⟩; have n0_ := Aside0.mk (blk_below (g := gb112) (o := .cells #[.slice A0_0 l0_0.length c0_0, .int .i64 a0_1, .bool a0_2, .slice A0_3 l0_3.length c0_3, .slice A0_4 l0_4.length c0_4] 31 (0, 0)) (by (with_reducible repeat (first | refine blk_drewN ?_ _ | refine blk_drew ?_ | refine blk_alloc ?_ _)); exact BK112.out) hb); have n1_ := Aside0.mk (below_step (by repeat (first | (with_reducible first | exact HB.out | apply below_alloc | apply pw_below_drewN | apply below_drew1 | refine below_set ?_ GE112.out) | exact HB.out)) hb); clear BK112; clear HB; have BK112 := n0_; have HB := n1_; clear n0_ n1_; (try clear hb); (try clear hb2); (try clear hk); (try clear hi); have hcz28_0 : w27.cell? ⟨gb112, 0, none⟩ = some (.slice A0_0 l0_0.length c0_0) := (blk_cell BK112.out 0).trans rfl; have hcz28_1 : w27.cell? ⟨gb112, 1, none⟩ = some (.int .i64 a0_1) := (blk_cell BK112.out 1).trans rfl; have hcz28_2 : w27.cell? ⟨gb112, 2, none⟩ = some (.bool a0_2) := (blk_cell BK112.out 2).trans rfl; have hcz28_3 : w27.cell? ⟨gb112, 3, none⟩ = some (.slice A0_3 l0_3.length c0_3) := (blk_cell BK112.out 3).trans rfl; have hcz28_4 : w27.cell? ⟨gb112, 4, none⟩ = some (.slice A0_4 l0_4.length c0_4) := (blk_cell BK112.out 4).trans rfl; have hfz28_0 := blk_frozen BK112.out 0; have hfz28_1 := blk_frozen BK112.out 1; have hfz28_2 := blk_frozen BK112.out 2; have hfz28_3 := blk_frozen BK112.out 3; have hfz28_4 := blk_frozen BK112.out 4) | (go_at_call 83; (with_reducible refine (spec_ToneValid.calls a0_1 a0_2 false _ A4.out).mono ?_); rintro e w29 ⟨rfl, hb⟩; have n0_ := Aside0.mk (blk_below (g := gb112) (o := .cells #[.slice A0_0 l0_0.length c0_0, .int .i64 a0_1, .bool a0_2, .slice A0_3 l0_3.length c0_3, .slice A0_4 l0_4.length c0_4] 31 (0, 0)) (by (with_reducible repeat (first | refine blk_drewN ?_ _ | refine blk_drew ?_ | refine blk_alloc ?_ _)); exact BK112.out) hb); have n1_ := Aside0.mk (below_step (by repeat (first | (with_reducible first | exact HB.out | apply below_alloc | apply pw_below_drewN | apply below_drew1 | refine below_set ?_ GE112.out) | exact HB.out)) hb); clear BK112; clear HB; have BK112 := n0_; have HB := n1_; clear n0_ n1_; (try clear hb); (try clear hb2); (try clear hk); (try clear hi)))
   go_ret
   exact ⟨by first | rfl | (simp [errW_none, errW_some] <;> rfl) | (simp [*, errW_none, errW_some] <;> rfl), by repeat (first | (with_reducible first | exact HB.out | apply below_alloc | apply pw_below_drewN | apply below_drew1 | refine below_set ?_ GE112.out) | exact HB.out)⟩
 ·
  replace c3 := Bool.eq_false_iff.mpr c3; subst c3; have H1 : (some false) = some r := by rw [if_neg (show ¬ (false = true) by decide)] at H; exact H
  clear H; have H := H1; clear H1; obtain rfl := Option.some.inj H; go_enter Tryd.func44, Tryd.ntmps44
  go_wp2_with (first | ((with_reducible refine gate_dst (N := 1) rfl ?_); refine box_event ?hg (N := 1) ?hd (cs := #[.slice A0_0 l0_0.length c0_0, .int .i64 a0_1, .bool a0_2, .slice A0_3 l0_3.length c0_3, .slice A0_4 l0_4.length c0_4]) (t := 31) ?hr ?_; (case hd => rfl); (case hg => rfl); (case hr => first | (go_simp; done) | (go_simp; rfl)); intro gb112 hg w30 hbox hb; have n0_ := Aside0.mk (below_step (by repeat (first | (with_reducible first | exact HB.out | apply below_alloc | apply pw_below_drewN | apply below_drew1) | exact HB.out)) hb); have n1_ := Aside0.mk (hbox); have n2_ := Aside0.mk ((by rw [hg]; exact (below_size (by repeat (first | (with_reducible first | exact HB.out | apply below_alloc | apply pw_below_drewN | apply below_drew1) | exact HB.out))) : w.heap.size ≤ gb112)); have n3_ := Aside0.mk ((by rw [hg]; exact (below_size (by repeat (first | (with_reducible first | exact HB.out | apply below_alloc | apply pw_below_drewN | apply below_drew1) | exact HB.out))) : w.heap.size ≤ gb112)); clear HB; have HB := n0_; have BK112 := n1_; have GW112 := n2_; have GE112 := n3_; clear n0_ n1_ n2_ n3_; clear hb hbox hg; have hcz31_0 : w30.cell? ⟨gb112, 0, none⟩ = some (.slice A0_0 l0_0.length c0_0) := (blk_cell BK112.out 0).trans rfl; have hcz31_1 : w30.cell? ⟨gb112, 1, none⟩ = some (.int .i64 a0_1) := (blk_cell BK112.out 1).trans rfl; have hcz31_2 : w30.cell? ⟨gb112, 2, none⟩ = some (.bool a0_2) := (blk_cell BK112.out 2).trans rfl; have hcz31_3 : w30.cell? ⟨gb112, 3, none⟩ = some (.slice A0_3 l0_3.length c0_3) := (blk_cell BK112.out 3).trans rfl; have hcz31_4 : w30.cell? ⟨gb112, 4, none⟩ = some (.slice A0_4 l0_4.length c0_4) := (blk_cell BK112.out 4).trans rfl; have hfz31_0 := blk_frozen BK112.out 0; have hfz31_1 := blk_frozen BK112.out 1; have hfz31_2 := blk_frozen BK112.out 2; have hfz31_3 := blk_frozen BK112.out 3; have hfz31_4 := blk_frozen BK112.out 4) | ((with_reducible refine gate_callee (f := 82) rfl ?_); refine goesL_ (some 5) rfl rfl Tryd.func82 (by kernel_rfl) rfl #[.slice A0_0 l0_0.length c0_0, .int .i64 0, .int .i64 3] rfl (by (try simp only [List.map_toArray, List.map_cons, List.map_nil]); first | done | rfl | (simp only [List.length_drop, List.length_take]; rfl)) ?_; (with_reducible refine (spec_l4Tones.calls k _ _ l0_0 0 3 false _ ?side1 ?side2 A2.out).mono ?_); (case side1 => repeat (first | exact (Kd.C_below HR0_0.out HB.out) | (with_reducible refine Kd.C_alloc ?_ _) | (with_reducible refine Kd.C_drewN ?_ _) | (with_reducible refine Kd.C_drew ?_))); (case side2 => exact HC0_0.out); rintro e w32 ⟨rfl, hb⟩; refine ⟨_, rfl, ?_⟩; have n0_ := Aside0.mk (blk_below (g := gb112) (o := .cells #[.slice A0_0 l0_0.length c0_0, .int .i64 a0_1, .bool a0_2, .slice A0_3 l0_3.length c0_3, .slice A0_4 l0_4.length c0_4] 31 (0, 0)) (by (with_reducible repeat (first | refine blk_drewN ?_ _ | refine blk_drew ?_ | refine blk_alloc ?_ _)); exact BK112.out) hb); have n1_ := Aside0.mk (below_step (by repeat (first | (with_reducible first | exact HB.out | apply below_alloc | apply pw_below_drewN | apply below_drew1 | refine below_set ?_ GE112.out) | exact HB.out)) hb); clear BK112; clear HB; have BK112 := n0_; have HB := n1_; clear n0_ n1_; (try clear hb); (try clear hb2); (try clear hk); (try clear hi)))
  go_ret
  exact ⟨by first | rfl | (simp [errW_none, errW_some] <;> rfl) | (simp [*, errW_none, errW_some] <;> rfl), by repeat (first | (with_reducible first | exact HB.out | apply below_alloc | apply pw_below_drewN | apply below_drew1 | refine below_set ?_ GE112.out) | exact HB.out)⟩

end Go.Proofs.YtpcohkffbjdmfaaDoor.PFnExactPsalmMove
namespace Go.Proofs.YtpcohkffbjdmfaaDoor.PFnExactPsalmMove
open Go.RowKit Go.Proofs.YtpcohkffbjdmfaaDoorW.PrintWords Go.Proofs.YtpcohkffbjdmfaaDoorW.PrintLast Go.Proofs.YtpcohkffbjdmfaaDoorW.PrintMore
attribute [local go_sem] max2_int min2_int max_two min_two max_three min_three max_four min_four   -- for this text's walks alone
set_option linter.unusedVariables false
set_option linter.unusedSimpArgs false

def spec_l4Melody.f (l0_0 : List (S29)) (a0_1 : Int) (a0_2 : Bool) (l0_3 : List (S29)) (l0_4 : List (S29)) : Option ((List (S29))) := (some (([] : List (S29)) : List (S29))).bind fun y160 => (if y160.length + l0_0.length < 8796093022208 then ((some (y160 ++ l0_0 : List (S29))).bind fun y163 => (if y163.length < 8796093022208 then ((some (y163 ++ [(⟨a0_1, a0_2⟩ : S29)] : List (S29))).bind fun y166 => (if y166.length + l0_3.length < 8796093022208 then ((some (y166 ++ l0_3 : List (S29))).bind fun y169 => (if y169.length + l0_4.length < 8796093022208 then (some (y169 ++ l0_4)) else (none))) else (none))) else (none))) else (none))
set_option maxHeartbeats 8000000 in
set_option maxRecDepth 100000 in
theorem spec_l4Melody.calls (A0_0 : Option Addr) (c0_0 : Nat) (l0_0 : List (S29)) (a0_1 : Int) (a0_2 : Bool) (A0_3 : Option Addr) (c0_3 : Nat) (l0_3 : List (S29)) (A0_4 : Option Addr) (c0_4 : Nat) (l0_4 : List (S29)) (r : List (S29)) (w : World) (hr0_0 : Kd.C k29 w A0_0 l0_0.length l0_0) (hc0_0 : l0_0.length ≤ c0_0) (hr0_3 : Kd.C k29 w A0_3 l0_3.length l0_3) (hc0_3 : l0_3.length ≤ c0_3) (hr0_4 : Kd.C k29 w A0_4 l0_4.length l0_4) (hc0_4 : l0_4.length ≤ c0_4) (h : spec_l4Melody.f l0_0 a0_1 a0_2 l0_3 l0_4 = some r) :
 Calls Tryd.prog 46 #[.agg #[.slice A0_0 l0_0.length c0_0, .int .i64 a0_1, .bool a0_2, .slice A0_3 l0_3.length c0_3, .slice A0_4 l0_4.length c0_4]] w fun e w' => ∃ v0_ : Value, e = .returned (v0_) ∧ Kd.R k29 29 w' w.heap.size (fun _ => True) v0_ r ∧ Below w.heap.size w w' := by
 have hu31 := Tryd.underlying31; have hu29 := Tryd.underlying29; have HR0_0 := Aside0.mk hr0_0; have HC0_0 := Aside0.mk hc0_0; clear hr0_0 hc0_0; have HR0_3 := Aside0.mk hr0_3; have HC0_3 := Aside0.mk hc0_3; clear hr0_3 hc0_3; have HR0_4 := Aside0.mk hr0_4; have HC0_4 := Aside0.mk hc0_4; clear hr0_4 hc0_4; have HB := Aside0.mk (Below.refl w.heap.size w); have H : ((some (([] : List (S29)) : List (S29))).bind fun y160 => (if y160.length + l0_0.length < 8796093022208 then ((some (y160 ++ l0_0 : List (S29))).bind fun y163 => (if y163.length < 8796093022208 then ((some (y163 ++ [(⟨a0_1, a0_2⟩ : S29)] : List (S29))).bind fun y166 => (if y166.length + l0_3.length < 8796093022208 then ((some (y166 ++ l0_3 : List (S29))).bind fun y169 => (if y169.length + l0_4.length < 8796093022208 then (some (y169 ++ l0_4)) else (none))) else (none))) else (none))) else (none))) = some r := h; clear h; obtain ⟨y160, hy160⟩ : ∃ y_ : List (S29), y_ = (([] : List (S29))) := ⟨_, rfl⟩
 replace H : (if y160.length + l0_0.length < 8796093022208 then ((some (y160 ++ l0_0 : List (S29))).bind fun y163 => (if y163.length < 8796093022208 then ((some (y163 ++ [(⟨a0_1, a0_2⟩ : S29)] : List (S29))).bind fun y166 => (if y166.length + l0_3.length < 8796093022208 then ((some (y166 ++ l0_3 : List (S29))).bind fun y169 => (if y169.length + l0_4.length < 8796093022208 then (some (y169 ++ l0_4)) else (none))) else (none))) else (none))) else (none)) = some r := by first | (rw [hy160]; with_reducible exact H) | (have H2_ := (Option.bind_some _ _).symm.trans H; rw [hy160]; with_reducible exact H2_) | (have H2_ := (Option.bind_some _ _).symm.trans H; with_reducible exact H2_) | with_reducible exact H | (rw [hy160]; exact H) | exact H
 have Ny160 := Aside0.mk hy160; clear hy160; by_cases c2 : y160.length + l0_0.length < 8796093022208
 ·
  rw [if_pos c2] at H; have LMc2 := Aside0.mk c2; clear c2; obtain ⟨y163, hy163⟩ : ∃ y_ : List (S29), y_ = (y160 ++ l0_0) := ⟨_, rfl⟩
  replace H : (if y163.length < 8796093022208 then ((some (y163 ++ [(⟨a0_1, a0_2⟩ : S29)] : List (S29))).bind fun y166 => (if y166.length + l0_3.length < 8796093022208 then ((some (y166 ++ l0_3 : List (S29))).bind fun y169 => (if y169.length + l0_4.length < 8796093022208 then (some (y169 ++ l0_4)) else (none))) else (none))) else (none)) = some r := by first | (rw [hy163]; with_reducible exact H) | (have H2_ := (Option.bind_some _ _).symm.trans H; rw [hy163]; with_reducible exact H2_) | (have H2_ := (Option.bind_some _ _).symm.trans H; with_reducible exact H2_) | with_reducible exact H | (rw [hy163]; exact H) | exact H
  have Ny163 := Aside0.mk hy163; clear hy163; by_cases c3 : y163.length < 8796093022208
  ·
   rw [if_pos c3] at H; have LMc3 := Aside0.mk c3; clear c3; obtain ⟨y166, hy166⟩ : ∃ y_ : List (S29), y_ = (y163 ++ [(⟨a0_1, a0_2⟩ : S29)]) := ⟨_, rfl⟩
   replace H : (if y166.length + l0_3.length < 8796093022208 then ((some (y166 ++ l0_3 : List (S29))).bind fun y169 => (if y169.length + l0_4.length < 8796093022208 then (some (y169 ++ l0_4)) else (none))) else (none)) = some r := by first | (rw [hy166]; with_reducible exact H) | (have H2_ := (Option.bind_some _ _).symm.trans H; rw [hy166]; with_reducible exact H2_) | (have H2_ := (Option.bind_some _ _).symm.trans H; with_reducible exact H2_) | with_reducible exact H | (rw [hy166]; exact H) | exact H
   have Ny166 := Aside0.mk hy166; clear hy166; by_cases c4 : y166.length + l0_3.length < 8796093022208
   ·
    rw [if_pos c4] at H; have LMc4 := Aside0.mk c4; clear c4; obtain ⟨y169, hy169⟩ : ∃ y_ : List (S29), y_ = (y166 ++ l0_3) := ⟨_, rfl⟩
    replace H : (if y169.length + l0_4.length < 8796093022208 then (some (y169 ++ l0_4)) else (none)) = some r := by first | (rw [hy169]; with_reducible exact H) | (have H2_ := (Option.bind_some _ _).symm.trans H; rw [hy169]; with_reducible exact H2_) | (have H2_ := (Option.bind_some _ _).symm.trans H; with_reducible exact H2_) | with_reducible exact H | (rw [hy169]; exact H) | exact H
    have Ny169 := Aside0.mk hy169; clear hy169; by_cases c5 : y169.length + l0_4.length < 8796093022208
    ·
     rw [if_pos c5] at H; have LMc5 := Aside0.mk c5; clear c5; obtain ⟨y172, hy172⟩ : ∃ y_ : List (S29), y_ = (y169 ++ l0_4) := ⟨_, rfl⟩
     replace H : (some y172) = some r := by first | (rw [hy172]; with_reducible exact H) | (have H2_ := (Option.bind_some _ _).symm.trans H; rw [hy172]; with_reducible exact H2_) | (have H2_ := (Option.bind_some _ _).symm.trans H; with_reducible exact H2_) | with_reducible exact H | (rw [hy172]; exact H) | exact H
     have Ny172 := Aside0.mk hy172; clear hy172; obtain rfl := Option.some.inj H; go_enter Tryd.func46, Tryd.ntmps46
     go_wp2_with (first | ((with_reducible refine gate_dst (N := 1) rfl ?_); refine box_event ?hg (N := 1) ?hd (cs := #[.slice A0_0 l0_0.length c0_0, .int .i64 a0_1, .bool a0_2, .slice A0_3 l0_3.length c0_3, .slice A0_4 l0_4.length c0_4]) (t := 31) ?hr ?_; (case hd => rfl); (case hg => rfl); (case hr => first | (go_simp; done) | (go_simp; rfl)); intro gb159 hg w6 hbox hb; have n0_ := Aside0.mk (below_step (by repeat (first | (with_reducible first | exact HB.out | apply below_alloc | apply pw_below_drewN | apply below_drew1) | exact HB.out)) hb); have n1_ := Aside0.mk (hbox); have n2_ := Aside0.mk ((by rw [hg]; exact (below_size (by repeat (first | (with_reducible first | exact HB.out | apply below_alloc | apply pw_below_drewN | apply below_drew1) | exact HB.out))) : w.heap.size ≤ gb159)); have n3_ := Aside0.mk ((by rw [hg]; exact (below_size (by repeat (first | (with_reducible first | exact HB.out | apply below_alloc | apply pw_below_drewN | apply below_drew1) | exact HB.out))) : w.heap.size ≤ gb159)); clear HB; have HB := n0_; have BK159 := n1_; have GW159 := n2_; have GE159 := n3_; clear n0_ n1_ n2_ n3_; clear hb hbox hg) | ((with_reducible refine gate_dst (N := 4) rfl ?_); refine Kd.R_lit k29 _ 29 ?hg (N := 4) ?hd (xs := ([] : List (S29))) (inner := []) (ok := fun _ => True) (okp := fun _ => True) ?hr ?hp (fun _ hk => hk) trivial (Below.refl _ _) (Nat.le_refl _) (by simp) ?_; (case hd => rfl); (case hg => rfl); (case hr => first | (go_simp; done) | (go_simp; rfl)); (case hp => exact (Reps.none _ _)); intro v161 w7 ho8 hb hg_ hnew_; clear hg_ hnew_; (first | rw [← Ny160.out] at ho8 | (simp only [Int.reduceToNat] at ho8; rw [← Ny160.out] at ho8)); have n0_ := Aside0.mk (Kd.R_lower ho8 (below_size (by repeat (first | (with_reducible first | exact HB.out | apply below_alloc | apply pw_below_drewN | apply below_drew1 | refine below_set ?_ GE159.out) | exact HB.out)))); have n1_ := Aside0.mk (blk_below (g := gb159) (o := .cells #[.slice A0_0 l0_0.length c0_0, .int .i64 a0_1, .bool a0_2, .slice A0_3 l0_3.length c0_3, .slice A0_4 l0_4.length c0_4] 31 (0, 0)) (by (with_reducible repeat (first | refine blk_drewN ?_ _ | refine blk_drew ?_ | refine blk_alloc ?_ _)); exact BK159.out) hb); have n2_ := Aside0.mk (below_step (by repeat (first | (with_reducible first | exact HB.out | apply below_alloc | apply pw_below_drewN | apply below_drew1 | refine below_set ?_ GE159.out) | exact HB.out)) hb); clear BK159; clear HB; have HO162 := n0_; have BK159 := n1_; have HB := n2_; clear n0_ n1_ n2_; clear hb ho8; have hcz9_0 : w7.cell? ⟨gb159, 0, none⟩ = some (.slice A0_0 l0_0.length c0_0) := (blk_cell BK159.out 0).trans rfl; have hcz9_1 : w7.cell? ⟨gb159, 1, none⟩ = some (.int .i64 a0_1) := (blk_cell BK159.out 1).trans rfl; have hcz9_2 : w7.cell? ⟨gb159, 2, none⟩ = some (.bool a0_2) := (blk_cell BK159.out 2).trans rfl; have hcz9_3 : w7.cell? ⟨gb159, 3, none⟩ = some (.slice A0_3 l0_3.length c0_3) := (blk_cell BK159.out 3).trans rfl; have hcz9_4 : w7.cell? ⟨gb159, 4, none⟩ = some (.slice A0_4 l0_4.length c0_4) := (blk_cell BK159.out 4).trans rfl; have hfz9_0 := blk_frozen BK159.out 0; have hfz9_1 := blk_frozen BK159.out 1; have hfz9_2 := blk_frozen BK159.out 2; have hfz9_3 := blk_frozen BK159.out 3; have hfz9_4 := blk_frozen BK159.out 4) | ((with_reducible refine gate_builtin (b := .append) (xs := #[.tmp 4, .tmp 6]) rfl ?_); at_builtin; refine Kd.R_append_rows k29 (w0 := w) w.heap.size rfl (.tmp 4) (.tmp 6) 28 29 (.agg #[(.int .i64 0), (.bool false)]) 16 rfl Tryd.underlying28 info29 rfl (by decide) (by omega) v161 y160 l0_0 _ _ _ (fun _ => True) (fun _ => False) rfl rfl ?aO ?aR (fun _ _ h => h) (fun _ h => h.elim) ?aF ?aB ?aS ?aL ?_; (case aR => repeat (first | exact (Kd.C_below HR0_0.out HB.out) | (with_reducible refine Kd.C_alloc ?_ _) | (with_reducible refine Kd.C_drewN ?_ _) | (with_reducible refine Kd.C_drew ?_))); (case aB => exact (by repeat (first | (with_reducible first | exact HB.out | apply below_alloc | apply pw_below_drewN | apply below_drew1 | refine below_set ?_ GE159.out) | exact HB.out))); (case aF => exact (fun _ _ => trivial)); (case aO => exact (by (with_reducible repeat (first | apply Kd.R_alloc | apply Kd.R_drewN | apply Kd.R_drew)); exact HO162.out)); (case aS => exact (below_size (by repeat (first | (with_reducible first | exact HB.out | apply below_alloc | apply pw_below_drewN | apply below_drew1 | refine below_set ?_ GE159.out) | exact HB.out)))); (case aL => have := LMc2.out; omega); intro v164 w10 ho hb hg hat; rw [← Ny163.out] at ho; have n0_ := Aside0.mk (blk_grown (g := gb159) (o := .cells #[.slice A0_0 l0_0.length c0_0, .int .i64 a0_1, .bool a0_2, .slice A0_3 l0_3.length c0_3, .slice A0_4 l0_4.length c0_4] 31 (0, 0)) (by (with_reducible repeat (first | refine blk_drewN ?_ _ | refine blk_drew ?_ | refine blk_alloc ?_ _)); exact BK159.out) hg (Kd.R_ne HO162.out BK159.out (by decide))); have n1_ := Aside0.mk (hb); have n2_ := Aside0.mk (ho); clear BK159; clear HB; clear HO162; have BK159 := n0_; have HB := n1_; have HO165 := n2_; clear n0_ n1_ n2_; clear ho hb hg hat; have hcz11_0 : w10.cell? ⟨gb159, 0, none⟩ = some (.slice A0_0 l0_0.length c0_0) := (blk_cell BK159.out 0).trans rfl; have hcz11_1 : w10.cell? ⟨gb159, 1, none⟩ = some (.int .i64 a0_1) := (blk_cell BK159.out 1).trans rfl; have hcz11_2 : w10.cell? ⟨gb159, 2, none⟩ = some (.bool a0_2) := (blk_cell BK159.out 2).trans rfl; have hcz11_3 : w10.cell? ⟨gb159, 3, none⟩ = some (.slice A0_3 l0_3.length c0_3) := (blk_cell BK159.out 3).trans rfl; have hcz11_4 : w10.cell? ⟨gb159, 4, none⟩ = some (.slice A0_4 l0_4.length c0_4) := (blk_cell BK159.out 4).trans rfl; have hfz11_0 := blk_frozen BK159.out 0; have hfz11_1 := blk_frozen BK159.out 1; have hfz11_2 := blk_frozen BK159.out 2; have hfz11_3 := blk_frozen BK159.out 3; have hfz11_4 := blk_frozen BK159.out 4) | ((with_reducible refine gate_builtin (b := .append) (xs := #[.tmp 8, .tmp 11]) rfl ?_); at_builtin; refine Kd.R_append k29 (w0 := w) w.heap.size rfl (.tmp 8) (.tmp 11) 28 29 (.agg #[(.int .i64 0), (.bool false)]) 16 rfl Tryd.underlying28 info29 rfl (by decide) (by omega) v164 y163 (⟨a0_1, a0_2⟩ : S29) [.int .i64 a0_1, .bool a0_2] (fun _ => True) (fun _ => False) rfl rfl ?aP (fun _ hk => hk.elim) ?aF ?aO ?aB ?aS ?aL ?_; (case aP => exact k29_mkM _ _ _ (⟨a0_1, a0_2⟩ : S29)); (case aB => exact (by repeat (first | (with_reducible first | exact HB.out | apply below_alloc | apply pw_below_drewN | apply below_drew1 | refine below_set ?_ GE159.out) | exact HB.out))); (case aF => exact (fun _ _ => trivial)); (case aO => exact (by (with_reducible repeat (first | apply Kd.R_alloc | apply Kd.R_drewN | apply Kd.R_drew)); exact HO165.out)); (case aS => exact (below_size (by repeat (first | (with_reducible first | exact HB.out | apply below_alloc | apply pw_below_drewN | apply below_drew1 | refine below_set ?_ GE159.out) | exact HB.out)))); (case aL => have := LMc3.out; omega); intro v167 w12 ho hb hg hat; rw [← Ny166.out] at ho; have n0_ := Aside0.mk (blk_grown (g := gb159) (o := .cells #[.slice A0_0 l0_0.length c0_0, .int .i64 a0_1, .bool a0_2, .slice A0_3 l0_3.length c0_3, .slice A0_4 l0_4.length c0_4] 31 (0, 0)) (by (with_reducible repeat (first | refine blk_drewN ?_ _ | refine blk_drew ?_ | refine blk_alloc ?_ _)); exact BK159.out) hg (Kd.R_ne HO165.out BK159.out (by decide))); have n1_ := Aside0.mk (hb); have n2_ := Aside0.mk (ho); clear BK159; clear HB; clear HO165; have BK159 := n0_; have HB := n1_; have HO168 := n2_; clear n0_ n1_ n2_; clear ho hb hg hat; have hcz13_0 : w12.cell? ⟨gb159, 0, none⟩ = some (.slice A0_0 l0_0.length c0_0) := (blk_cell BK159.out 0).trans rfl; have hcz13_1 : w12.cell? ⟨gb159, 1, none⟩ = some (.int .i64 a0_1) := (blk_cell BK159.out 1).trans rfl; have hcz13_2 : w12.cell? ⟨gb159, 2, none⟩ = some (.bool a0_2) := (blk_cell BK159.out 2).trans rfl; have hcz13_3 : w12.cell? ⟨gb159, 3, none⟩ = some (.slice A0_3 l0_3.length c0_3) := (blk_cell BK159.out 3).trans rfl; have hcz13_4 : w12.cell? ⟨gb159, 4, none⟩ = some (.slice A0_4 l0_4.length c0_4) := (blk_cell BK159.out 4).trans rfl; have hfz13_0 := blk_frozen BK159.out 0; have hfz13_1 := blk_frozen BK159.out 1; have hfz13_2 := blk_frozen BK159.out 2; have hfz13_3 := blk_frozen BK159.out 3; have hfz13_4 := blk_frozen BK159.out 4) | ((with_reducible refine gate_builtin (b := .append) (xs := #[.tmp 13, .tmp 15]) rfl ?_); at_builtin; refine Kd.R_append_rows k29 (w0 := w) w.heap.size rfl (.tmp 13) (.tmp 15) 28 29 (.agg #[(.int .i64 0), (.bool false)]) 16 rfl Tryd.underlying28 info29 rfl (by decide) (by omega) v167 y166 l0_3 _ _ _ (fun _ => True) (fun _ => False) rfl rfl ?aO ?aR (fun _ _ h => h) (fun _ h => h.elim) ?aF ?aB ?aS ?aL ?_; (case aR => repeat (first | exact (Kd.C_below HR0_3.out HB.out) | (with_reducible refine Kd.C_alloc ?_ _) | (with_reducible refine Kd.C_drewN ?_ _) | (with_reducible refine Kd.C_drew ?_))); (case aB => exact (by repeat (first | (with_reducible first | exact HB.out | apply below_alloc | apply pw_below_drewN | apply below_drew1 | refine below_set ?_ GE159.out) | exact HB.out))); (case aF => exact (fun _ _ => trivial)); (case aO => exact (by (with_reducible repeat (first | apply Kd.R_alloc | apply Kd.R_drewN | apply Kd.R_drew)); exact HO168.out)); (case aS => exact (below_size (by repeat (first | (with_reducible first | exact HB.out | apply below_alloc | apply pw_below_drewN | apply below_drew1 | refine below_set ?_ GE159.out) | exact HB.out)))); (case aL => have := LMc4.out; omega); intro v170 w14 ho hb hg hat; rw [← Ny169.out] at ho; have n0_ := Aside0.mk (blk_grown (g := gb159) (o := .cells #[.slice A0_0 l0_0.length c0_0, .int .i64 a0_1, .bool a0_2, .slice A0_3 l0_3.length c0_3, .slice A0_4 l0_4.length c0_4] 31 (0, 0)) (by (with_reducible repeat (first | refine blk_drewN ?_ _ | refine blk_drew ?_ | refine blk_alloc ?_ _)); exact BK159.out) hg (Kd.R_ne HO168.out BK159.out (by decide))); have n1_ := Aside0.mk (hb); have n2_ := Aside0.mk (ho); clear BK159; clear HB; clear HO168; have BK159 := n0_; have HB := n1_; have HO171 := n2_; clear n0_ n1_ n2_; clear ho hb hg hat; have hcz15_0 : w14.cell? ⟨gb159, 0, none⟩ = some (.slice A0_0 l0_0.length c0_0) := (blk_cell BK159.out 0).trans rfl; have hcz15_1 : w14.cell? ⟨gb159, 1, none⟩ = some (.int .i64 a0_1) := (blk_cell BK159.out 1).trans rfl; have hcz15_2 : w14.cell? ⟨gb159, 2, none⟩ = some (.bool a0_2) := (blk_cell BK159.out 2).trans rfl; have hcz15_3 : w14.cell? ⟨gb159, 3, none⟩ = some (.slice A0_3 l0_3.length c0_3) := (blk_cell BK159.out 3).trans rfl; have hcz15_4 : w14.cell? ⟨gb159, 4, none⟩ = some (.slice A0_4 l0_4.length c0_4) := (blk_cell BK159.out 4).trans rfl; have hfz15_0 := blk_frozen BK159.out 0; have hfz15_1 := blk_frozen BK159.out 1; have hfz15_2 := blk_frozen BK159.out 2; have hfz15_3 := blk_frozen BK159.out 3; have hfz15_4 := blk_frozen BK159.out 4) | ((with_reducible refine gate_builtin (b := .append) (xs := #[.tmp 17, .tmp 19]) rfl ?_); at_builtin; refine Kd.R_append_rows k29 (w0 := w) w.heap.size rfl (.tmp 17) (.tmp 19) 28 29 (.agg #[(.int .i64 0), (.bool false)]) 16 rfl Tryd.underlying28 info29 rfl (by decide) (by omega) v170 y169 l0_4 _ _ _ (fun _ => True) (fun _ => False) rfl rfl ?aO ?aR (fun _ _ h => h) (fun _ h => h.elim) ?aF ?aB ?aS ?aL ?_; (case aR => repeat (first | exact (Kd.C_below HR0_4.out HB.out) | (with_reducible refine Kd.C_alloc ?_ _) | (with_reducible refine Kd.C_drewN ?_ _) | (with_reducible refine Kd.C_drew ?_))); (case aB => exact (by repeat (first | (with_reducible first | exact HB.out | apply below_alloc | apply pw_below_drewN | apply below_drew1 | refine below_set ?_ GE159.out) | exact HB.out))); (case aF => exact (fun _ _ => trivial)); (case aO => exact (by (with_reducible repeat (first | apply Kd.R_alloc | apply Kd.R_drewN | apply Kd.R_drew)); exact HO171.out)); (case aS => exact (below_size (by repeat (first | (with_reducible first | exact HB.out | apply below_alloc | apply pw_below_drewN | apply below_drew1 | refine below_set ?_ GE159.out) | exact HB.out)))); (case aL => have := LMc5.out; omega); intro v173 w16 ho hb hg hat; rw [← Ny172.out] at ho; have n0_ := Aside0.mk (blk_grown (g := gb159) (o := .cells #[.slice A0_0 l0_0.length c0_0, .int .i64 a0_1, .bool a0_2, .slice A0_3 l0_3.length c0_3, .slice A0_4 l0_4.length c0_4] 31 (0, 0)) (by (with_reducible repeat (first | refine blk_drewN ?_ _ | refine blk_drew ?_ | refine blk_alloc ?_ _)); exact BK159.out) hg (Kd.R_ne HO171.out BK159.out (by decide))); have n1_ := Aside0.mk (hb); have n2_ := Aside0.mk (ho); clear BK159; clear HB; clear HO171; have BK159 := n0_; have HB := n1_; have HO174 := n2_; clear n0_ n1_ n2_; clear ho hb hg hat))
     go_ret
     exact ⟨_, by first | rfl | (simp [errW_none, errW_some] <;> rfl) | (simp [*, errW_none, errW_some] <;> rfl), by (with_reducible repeat (first | apply Kd.R_alloc | apply Kd.R_drewN | apply Kd.R_drew)); exact HO174.out, by repeat (first | (with_reducible first | exact HB.out | apply below_alloc | apply pw_below_drewN | apply below_drew1 | refine below_set ?_ GE159.out) | exact HB.out)⟩
    ·
     rw [if_neg c5] at H; exact absurd H (by simp)
   ·
    rw [if_neg c4] at H; exact absurd H (by simp)
  ·
   rw [if_neg c3] at H; exact absurd H (by simp)
 ·
  rw [if_neg c2] at H; exact absurd H (by simp)

end Go.Proofs.YtpcohkffbjdmfaaDoor.PFnExactPsalmMove
namespace Go.Proofs.YtpcohkffbjdmfaaDoor.Pure
set_option linter.unusedVariables false
set_option linter.unusedSimpArgs false
open Go Go.RowKit Go.Proofs.YtpcohkffbjdmfaaDoor.PFnExactPsalmMove Go.Proofs.YtpcohkffbjdmfaaDoorW.PrintWords Go.Proofs.YtpcohkffbjdmfaaDoorW.PrintLast Go.Proofs.YtpcohkffbjdmfaaDoorW.PrintMore

theorem cut_take {P : Program} {α : Type} (d : Kd α) (t e : TypeId) {i : TypeInfo} (ht : P.underlying t = some (.slice e)) (hi : P.info? e = some i) {w : World} {A : Option Addr} {c : Nat} {xs : List α} (j : Int) (hr : d.C w A xs.length xs) (hc : xs.length ≤ c) (h0 : 0 ≤ j) (hm : j ≤ xs.length) :
 (∀ W : World, (Instr.slice t (.slice A xs.length c) none (some (.int .i64 j)) none).run P W = .ok (.slice A j.toNat c) W) ∧ d.C w A j.toNat (xs.take j.toNat) ∧ j.toNat ≤ c ∧ (xs.take j.toNat).length = j.toNat := by
 have e1 : (xs.take j.toNat).length = j.toNat := by rw [List.length_take]; omega
 have h := Kd.C_take (m := j.toNat) hr (by omega)
 rw [e1] at h
 exact ⟨cut_to t e .i64 ht hi A _ c j h0 hm hc, h, by omega, e1⟩
theorem cut_drop {P : Program} {α : Type} (d : Kd α) (t e : TypeId) {i : TypeInfo} (ht : P.underlying t = some (.slice e)) (hi : P.info? e = some i) (hsz : i.size = d.sz) {w : World} {A : Option Addr} {c : Nat} {xs : List α} (j : Int) (hr : d.C w A xs.length xs) (hc : xs.length ≤ c) (h0 : 0 ≤ j) (hm : j ≤ xs.length) :
 ∃ A' c', (∀ W : World, (Instr.slice t (.slice A xs.length c) (some (.int .i64 j)) none none).run P W = .ok (.slice A' (xs.length - j.toNat) c') W) ∧ d.C w A' (xs.length - j.toNat) (xs.drop j.toNat) ∧ xs.length - j.toNat ≤ c' ∧ (xs.drop j.toNat).length = xs.length - j.toNat := by
 have e1 : (xs.drop j.toNat).length = xs.length - j.toNat := by rw [List.length_drop]
 have h := Kd.C_drop (m := j.toNat) (c := c) hr (by omega) hc
 rw [e1] at h
 exact ⟨_, _, cut_from t e .i64 ht hi d.sz hsz A _ c j h0 hm, h, by omega, e1⟩
theorem spec_l4Tones_ev (l : List S29) (a b : Int) (hl : l.length ≤ 1000000000000) : Ev (fun n => spec_l4Tones.f n l a b) (decide (a ≤ (l.length : Int) ∧ (l.length : Int) ≤ b) && melOk l) := by
 unfold spec_l4Tones.f
 refine Ev.bind (spec_MelodyValid_ev l hl) ?_
 cases melOk l
 ·
  exact Ev.neg (by simp) (Ev.eqr (Ev.now _) (by simp))
 ·
  exact Ev.pos rfl (Ev.conb (spec_l6In_eq _ _ _) (Ev.eqr (Ev.now _) (by simp)))
theorem spec_PsalmValid_ev (S : List S29) (t : S29) (M E : List S29) (hS : S.length ≤ 1000000000000) (hM : M.length ≤ 1000000000000) (hE : E.length ≤ 1000000000000) : Ev (fun n => spec_PsalmValid.f n S t.f0 t.f1 M E) (psOk S t M E) := by
 unfold spec_PsalmValid.f psOk
 have e1 := spec_l4Tones_ev S 0 3 hS
 have e2 := spec_l4Tones_ev M 1 4 hM
 have e3 := spec_l4Tones_ev E 1 4 hE
 rw [show (decide ((0 : Int) ≤ (S.length : Int) ∧ (S.length : Int) ≤ 3)) = decide (S.length ≤ 3) from decide_eq_decide.2 (by omega)] at e1
 rw [show (decide ((1 : Int) ≤ (M.length : Int) ∧ (M.length : Int) ≤ 4)) = decide (1 ≤ M.length ∧ M.length ≤ 4) from decide_eq_decide.2 (by omega)] at e2
 rw [show (decide ((1 : Int) ≤ (E.length : Int) ∧ (E.length : Int) ≤ 4)) = decide (1 ≤ E.length ∧ E.length ≤ 4) from decide_eq_decide.2 (by omega)] at e3
 refine Ev.bind e1 ?_
 cases decide (S.length ≤ 3) && melOk S
 ·
  exact Ev.neg (by simp) (Ev.now _)
 refine Ev.pos rfl (Ev.conb (spec_ToneValid_eq t.f0 t.f1) ?_)
 show Ev _ (true && (toneOk ⟨t.f0, t.f1⟩ && _))
 cases toneOk ⟨t.f0, t.f1⟩
 ·
  exact Ev.neg (by simp) (Ev.now _)
 refine Ev.pos rfl (Ev.bind e2 ?_)
 cases decide (1 ≤ M.length ∧ M.length ≤ 4) && melOk M
 ·
  exact Ev.neg (by simp) (Ev.now _)
 refine Ev.pos rfl (Ev.bind e3 (Ev.eqr (Ev.now _) ?_))
 simp
theorem spec_l4Melody_eq (S : List S29) (t : S29) (M E : List S29) (hS : S.length ≤ 1000000) (hM : M.length ≤ 1000000) (hE : E.length ≤ 1000000) : spec_l4Melody.f S t.f0 t.f1 M E = some (psAll S t M E) := by
 unfold spec_l4Melody.f psAll
 simp only [Option.bind_some, List.nil_append, List.length_nil, List.length_append, List.length_singleton]
 rw [if_pos (by omega), if_pos (by omega), if_pos (by omega), if_pos (by omega)]

end Go.Proofs.YtpcohkffbjdmfaaDoor.Pure
namespace Go.Proofs.YtpcohkffbjdmfaaDoor.Pure
set_option linter.unusedVariables false
set_option linter.unusedSimpArgs false
open Go Go.RowKit Go.Proofs.YtpcohkffbjdmfaaDoor.PFnExactPsalmMove Go.Proofs.YtpcohkffbjdmfaaDoorW.PrintWords Go.Proofs.YtpcohkffbjdmfaaDoorW.PrintLast Go.Proofs.YtpcohkffbjdmfaaDoorW.PrintMore

/-- What the reference's PsalmMove answers. -/
def PsRes (r : List S29 × Int × Bool × List S29 × List S29 × Bool) (w : World) (e : Ending) (w' : World) : Prop :=
 ∃ v0_ v3_ v4_ : Value, e = .returned (.tuple #[.agg #[v0_, .int .i64 r.2.1, .bool r.2.2.1, v3_, v4_], .bool r.2.2.2.2.2]) ∧ Kd.R k29 29 w' w.heap.size (fun k_ => some k_ ≠ (v3_ : Value).ownBlock ∧ some k_ ≠ (v4_ : Value).ownBlock) v0_ r.1 ∧ Kd.R k29 29 w' w.heap.size (fun k_ => some k_ ≠ (v0_ : Value).ownBlock ∧ some k_ ≠ (v4_ : Value).ownBlock) v3_ r.2.2.2.1 ∧ Kd.R k29 29 w' w.heap.size (fun k_ => some k_ ≠ (v0_ : Value).ownBlock ∧ some k_ ≠ (v3_ : Value).ownBlock) v4_ r.2.2.2.2.1 ∧ Below w.heap.size w w'
set_option maxHeartbeats 1000000 in
set_option maxRecDepth 100000 in
theorem spec_PsalmMove_calls (S : List S29) (t : S29) (M E : List S29) (k : Int) (A0 : Option Addr) (c0 : Nat) (A3 : Option Addr) (c3 : Nat) (A4 : Option Addr) (c4 : Nat) (w : World) (hr0 : Kd.C k29 w A0 S.length S) (hc0 : S.length ≤ c0) (hr3 : Kd.C k29 w A3 M.length M) (hc3 : M.length ≤ c3) (hr4 : Kd.C k29 w A4 E.length E) (hc4 : E.length ≤ c4) (hS : S.length ≤ 1000000000000) (hM : M.length ≤ 1000000000000) (hE : E.length ≤ 1000000000000) :
 Calls Tryd.prog 10 #[.agg #[.slice A0 S.length c0, .int .i64 t.f0, .bool t.f1, .slice A3 M.length c3, .slice A4 E.length c4], .int .i64 k] w (PsRes (psMv S t M E k) w) := by
 obtain ⟨kk, hv⟩ := Ev.rounds (spec_PsalmValid_ev S t M E hS hM hE)
 have hu31 := Tryd.underlying31
 have HV := Aside0.mk hv
 have HR0 := Aside0.mk hr0
 have HC0 := Aside0.mk hc0
 have HR3 := Aside0.mk hr3
 have HC3 := Aside0.mk hc3
 have HR4 := Aside0.mk hr4
 have HC4 := Aside0.mk hc4
 clear hv hr0 hc0 hr3 hc3 hr4 hc4
 cases hok : psOk S t M E
 ·
  have hp : psMv S t M E k = ([], 0, false, [], [], false) := by unfold psMv; rw [if_neg (by rw [hok]; simp)]
  rw [hp]
  rw [hok] at HV
  clear hp hok
  go_enter Tryd.func10, Tryd.ntmps10
  go_wp2_with (first
   | ((with_reducible refine gate_dst (N := 2) rfl ?_); refine box_event ?hg (N := 2) ?hd (cs := #[.slice A0 S.length c0, .int .i64 t.f0, .bool t.f1, .slice A3 M.length c3, .slice A4 E.length c4]) (t := 31) ?hr ?_; (case hd => rfl); (case hg => rfl); (case hr => first | (go_simp; done) | (go_simp; rfl)); intro g2 hg w1 hbox hb; have BK2 := Aside0.mk hbox; have HB1 := Aside0.mk hb; have GE2 : Aside0 (w.heap.size ≤ g2) := ⟨Nat.le_of_eq hg.symm⟩; clear hb hbox hg)
   | ((with_reducible refine gate_dst (N := 4) rfl ?_); refine box_event ?hg (N := 4) ?hd (cs := #[.slice none 0 0, .int .i64 0, .bool false, .slice none 0 0, .slice none 0 0]) (t := 31) ?hr ?_; (case hd => rfl); (case hg => rfl); (case hr => first | (go_simp; done) | (go_simp; rfl)); intro g4 hg w2 hbox hb; have GE4 : Aside0 (w.heap.size ≤ g4) := ⟨by rw [hg]; exact HB1.out.size⟩; have BK2' := Aside0.mk (blk_below BK2.out hb); have BK4 := Aside0.mk hbox; have HB2 := Aside0.mk (below_step HB1.out hb); have NE24 : Aside0 (g2 ≠ g4) := ⟨by rw [hg]; exact Nat.ne_of_lt (blk_lt BK2.out)⟩; clear BK2 hb hbox hg; have hc2_0 := (blk_cell BK2'.out 0).trans rfl; have hc2_1 := (blk_cell BK2'.out 1).trans rfl; have hc2_2 := (blk_cell BK2'.out 2).trans rfl; have hc2_3 := (blk_cell BK2'.out 3).trans rfl; have hc2_4 := (blk_cell BK2'.out 4).trans rfl)
   | (go_at_call 44; refine (spec_PsalmValid.calls kk _ _ S t.f0 t.f1 _ _ M _ _ E false _ (Kd.C_below HR0.out HB2.out) HC0.out (Kd.C_below HR3.out HB2.out) HC3.out (Kd.C_below HR4.out HB2.out) HC4.out HV.out).mono ?_; rintro e w3 ⟨rfl, hb3⟩; have BK4' := Aside0.mk (blk_below BK4.out hb3); have HB3 := Aside0.mk (below_step HB2.out hb3); clear hc2_0 hc2_1 hc2_2 hc2_3 hc2_4; clear hb3; have hc4_0 := (blk_cell BK4'.out 0).trans rfl; have hc4_1 := (blk_cell BK4'.out 1).trans rfl; have hc4_2 := (blk_cell BK4'.out 2).trans rfl; have hc4_3 := (blk_cell BK4'.out 3).trans rfl; have hc4_4 := (blk_cell BK4'.out 4).trans rfl; have hf4_0 := blk_frozen BK4'.out 0; have hf4_1 := blk_frozen BK4'.out 1; have hf4_2 := blk_frozen BK4'.out 2; have hf4_3 := blk_frozen BK4'.out 3; have hf4_4 := blk_frozen BK4'.out 4))
  refine bodyPost_ret (results_ct rfl _ _ g4 31 #[.slice none 0 0, .int .i64 0, .bool false, .slice none 0 0, .slice none 0 0] (0, 0) _ rfl (by refine blk_put (cs := #[.slice none 0 0, .int .i64 0, .bool false, .slice none 0 0, .slice none 0 0]) ?_ 4 _ rfl; refine blk_put (cs := #[.slice none 0 0, .int .i64 0, .bool false, .slice none 0 0, .slice none 0 0]) ?_ 3 _ rfl; refine blk_put (cs := #[.slice none 0 0, .int .i64 0, .bool false, .slice none 0 0, .slice none 0 0]) ?_ 2 _ rfl; refine blk_put (cs := #[.slice none 0 0, .int .i64 0, .bool false, .slice none 0 0, .slice none 0 0]) ?_ 1 _ rfl; refine blk_put (cs := #[.slice none 0 0, .int .i64 0, .bool false, .slice none 0 0, .slice none 0 0]) ?_ 0 _ rfl; exact BK4'.out) Tryd.underlying31 rfl (by kernel_rfl)) rfl ?_
  exact ⟨_, _, _, rfl, Kd.R_nil _ _ _ _ _, Kd.R_nil _ _ _ _ _, Kd.R_nil _ _ _ _ _, by repeat (first | exact HB3.out | refine below_set ?_ GE4.out)⟩
 -- valid
 have HL4 := Aside0.mk (spec_l4Melody_eq S t M E (by have := psOk_len hok; omega) (by have := psOk_len hok; omega) (by have := psOk_len hok; omega))
 have hall : (psAll S t M E).length = S.length + 1 + M.length + E.length := by unfold psAll; simp only [List.length_append, List.length_singleton]
 obtain ⟨km, hm⟩ := Ev.rounds (spec_MelodyMove_ev (psAll S t M E) k (by have := psOk_len hok; omega))
 obtain ⟨h1, h2, h3⟩ := psOk_len hok
 rw [hok] at HV
 obtain ⟨⟨X, okm⟩, hX⟩ : ∃ R, R = mmove (psAll S t M E) k := ⟨_, rfl⟩
 rw [← hX] at hm
 cases okm
 ·
  have hp : psMv S t M E k = ([], 0, false, [], [], false) := by unfold psMv; rw [if_pos hok, ← hX]; rfl
  rw [hp]
  have HM := Aside0.mk hm
  clear hp hok hm hX hall
  go_enter Tryd.func10, Tryd.ntmps10
  go_wp2_with (first
   | ((with_reducible refine gate_dst (N := 2) rfl ?_); refine box_event ?hg (N := 2) ?hd (cs := #[.slice A0 S.length c0, .int .i64 t.f0, .bool t.f1, .slice A3 M.length c3, .slice A4 E.length c4]) (t := 31) ?hr ?_; (case hd => rfl); (case hg => rfl); (case hr => first | (go_simp; done) | (go_simp; rfl)); intro g2 hg w1 hbox hb; have BK2 := Aside0.mk hbox; have HB1 := Aside0.mk hb; have GE2 : Aside0 (w.heap.size ≤ g2) := ⟨Nat.le_of_eq hg.symm⟩; clear hb hbox hg)
   | ((with_reducible refine gate_dst (N := 4) rfl ?_); refine box_event ?hg (N := 4) ?hd (cs := #[.slice none 0 0, .int .i64 0, .bool false, .slice none 0 0, .slice none 0 0]) (t := 31) ?hr ?_; (case hd => rfl); (case hg => rfl); (case hr => first | (go_simp; done) | (go_simp; rfl)); intro g4 hg w2 hbox hb; have GE4 : Aside0 (w.heap.size ≤ g4) := ⟨by rw [hg]; exact HB1.out.size⟩; have BK2' := Aside0.mk (blk_below BK2.out hb); have BK4 := Aside0.mk hbox; have HB2 := Aside0.mk (below_step HB1.out hb); have NE24 : Aside0 (g2 ≠ g4) := ⟨by rw [hg]; exact Nat.ne_of_lt (blk_lt BK2.out)⟩; clear BK2 hb hbox hg; have hc2_0 := (blk_cell BK2'.out 0).trans rfl; have hc2_1 := (blk_cell BK2'.out 1).trans rfl; have hc2_2 := (blk_cell BK2'.out 2).trans rfl; have hc2_3 := (blk_cell BK2'.out 3).trans rfl; have hc2_4 := (blk_cell BK2'.out 4).trans rfl)
   | (go_at_call 44; refine (spec_PsalmValid.calls kk _ _ S t.f0 t.f1 _ _ M _ _ E true _ (Kd.C_below HR0.out HB2.out) HC0.out (Kd.C_below HR3.out HB2.out) HC3.out (Kd.C_below HR4.out HB2.out) HC4.out HV.out).mono ?_; rintro e w3 ⟨rfl, hb3⟩; have BK23 := Aside0.mk (blk_below BK2'.out hb3); have BK43 := Aside0.mk (blk_below BK4.out hb3); have HB3 := Aside0.mk (below_step HB2.out hb3); clear hc2_0 hc2_1 hc2_2 hc2_3 hc2_4; clear hb3; have hc2_0 := (blk_cell BK23.out 0).trans rfl; have hc2_1 := (blk_cell BK23.out 1).trans rfl; have hc2_2 := (blk_cell BK23.out 2).trans rfl; have hc2_3 := (blk_cell BK23.out 3).trans rfl; have hc2_4 := (blk_cell BK23.out 4).trans rfl)
   | (go_at_call 46; refine (spec_l4Melody.calls _ _ S t.f0 t.f1 _ _ M _ _ E (psAll S t M E) _ (Kd.C_below HR0.out HB3.out) HC0.out (Kd.C_below HR3.out HB3.out) HC3.out (Kd.C_below HR4.out HB3.out) HC4.out HL4.out).mono ?_; rintro e w4 ⟨v17, rfl, ho17, hb4⟩; obtain ⟨A17, c17, rfl⟩ := Kd.R_slice ho17; have HO17 := Aside0.mk ho17; have BK24 := Aside0.mk (blk_below BK23.out hb4); have BK44 := Aside0.mk (blk_below BK43.out hb4); have HB4 := Aside0.mk (below_step HB3.out hb4); clear hc2_0 hc2_1 hc2_2 hc2_3 hc2_4; clear ho17 hb4; have hc2_0 := (blk_cell BK24.out 0).trans rfl; have hc2_1 := (blk_cell BK24.out 1).trans rfl; have hc2_2 := (blk_cell BK24.out 2).trans rfl; have hc2_3 := (blk_cell BK24.out 3).trans rfl; have hc2_4 := (blk_cell BK24.out 4).trans rfl)
   | (go_at_call 45; refine (spec_MelodyMove.calls km _ _ (psAll S t M E) k X false _ (Kd.R_reads' HO17.out).2.2 (Kd.R_reads' HO17.out).2.1 HM.out).mono ?_; rintro e w5 ⟨v19, rfl, ho19, hb5⟩; obtain ⟨AX, cX, rfl⟩ := Kd.R_slice ho19; have HO19 := Aside0.mk ho19; have BK25 := Aside0.mk (blk_below BK24.out hb5); have BK45 := Aside0.mk (blk_below BK44.out hb5); have HB5 := Aside0.mk (below_step HB4.out hb5); clear hc2_0 hc2_1 hc2_2 hc2_3 hc2_4; clear ho19 hb5; have hc2_0 := (blk_cell BK25.out 0).trans rfl; have hc2_1 := (blk_cell BK25.out 1).trans rfl; have hc2_2 := (blk_cell BK25.out 2).trans rfl; have hc2_3 := (blk_cell BK25.out 3).trans rfl; have hc2_4 := (blk_cell BK25.out 4).trans rfl; have hc4_0 := (blk_cell BK45.out 0).trans rfl; have hc4_1 := (blk_cell BK45.out 1).trans rfl; have hc4_2 := (blk_cell BK45.out 2).trans rfl; have hc4_3 := (blk_cell BK45.out 3).trans rfl; have hc4_4 := (blk_cell BK45.out 4).trans rfl; have hf4_0 := blk_frozen BK45.out 0; have hf4_1 := blk_frozen BK45.out 1; have hf4_2 := blk_frozen BK45.out 2; have hf4_3 := blk_frozen BK45.out 3; have hf4_4 := blk_frozen BK45.out 4))
  refine bodyPost_ret (results_ct rfl _ _ g4 31 #[.slice none 0 0, .int .i64 0, .bool false, .slice none 0 0, .slice none 0 0] (0, 0) _ rfl (by refine blk_put (cs := #[.slice none 0 0, .int .i64 0, .bool false, .slice none 0 0, .slice none 0 0]) ?_ 4 _ rfl; refine blk_put (cs := #[.slice none 0 0, .int .i64 0, .bool false, .slice none 0 0, .slice none 0 0]) ?_ 3 _ rfl; refine blk_put (cs := #[.slice none 0 0, .int .i64 0, .bool false, .slice none 0 0, .slice none 0 0]) ?_ 2 _ rfl; refine blk_put (cs := #[.slice none 0 0, .int .i64 0, .bool false, .slice none 0 0, .slice none 0 0]) ?_ 1 _ rfl; refine blk_put (cs := #[.slice none 0 0, .int .i64 0, .bool false, .slice none 0 0, .slice none 0 0]) ?_ 0 _ rfl; exact BK45.out) Tryd.underlying31 rfl (by kernel_rfl)) rfl ?_
  exact ⟨_, _, _, rfl, Kd.R_nil _ _ _ _ _, Kd.R_nil _ _ _ _ _, Kd.R_nil _ _ _ _ _, by repeat (first | exact HB5.out | refine below_set ?_ GE4.out)⟩
 have hXl : X.length = S.length + 1 + M.length + E.length := by have h := mmove_len_ok (m := psAll S t M E) (k := k) (by rw [← hX]); rw [← hX] at h; rw [← hall]; exact h
 have hp : psMv S t M E k = (X.take S.length, (rd_T29 X S.length).f0, (rd_T29 X S.length).f1, (X.take (S.length + 1 + M.length)).drop (S.length + 1), X.drop (S.length + 1 + M.length), true) := by unfold psMv; rw [if_pos hok, ← hX]; rfl
 rw [hp]
 have HM := Aside0.mk hm
 have HXL := Aside0.mk hXl
 clear hp hok hm hX hall hXl
 have p1 : IntKind.i64.wrap ((S.length : Int) + 1) = (S.length : Int) + 1 := by rw [Go.IntKind.wrap_i64]; omega
 have p2 : IntKind.i64.wrap ((S.length : Int) + 1 + (M.length : Int)) = (S.length : Int) + 1 + (M.length : Int) := by rw [Go.IntKind.wrap_i64]; omega
 go_enter Tryd.func10, Tryd.ntmps10
 go_upto_region 8 with (first
  | ((with_reducible refine gate_dst (N := 2) rfl ?_); refine box_event ?hg (N := 2) ?hd (cs := #[.slice A0 S.length c0, .int .i64 t.f0, .bool t.f1, .slice A3 M.length c3, .slice A4 E.length c4]) (t := 31) ?hr ?_; (case hd => rfl); (case hg => rfl); (case hr => first | (go_simp; done) | (go_simp; rfl)); intro g2 hg w1 hbox hb; have BK2 := Aside0.mk hbox; have HB1 := Aside0.mk hb; have GE2 : Aside0 (w.heap.size ≤ g2) := ⟨Nat.le_of_eq hg.symm⟩; clear hb hbox hg)
  | ((with_reducible refine gate_dst (N := 4) rfl ?_); refine box_event ?hg (N := 4) ?hd (cs := #[.slice none 0 0, .int .i64 0, .bool false, .slice none 0 0, .slice none 0 0]) (t := 31) ?hr ?_; (case hd => rfl); (case hg => rfl); (case hr => first | (go_simp; done) | (go_simp; rfl)); intro g4 hg w2 hbox hb; have GE4 : Aside0 (w.heap.size ≤ g4) := ⟨by rw [hg]; exact HB1.out.size⟩; have BK2' := Aside0.mk (blk_below BK2.out hb); have BK4 := Aside0.mk hbox; have HB2 := Aside0.mk (below_step HB1.out hb); have NE24 : Aside0 (g2 ≠ g4) := ⟨by rw [hg]; exact Nat.ne_of_lt (blk_lt BK2.out)⟩; clear BK2 hb hbox hg; have hc2_0 := (blk_cell BK2'.out 0).trans rfl; have hc2_1 := (blk_cell BK2'.out 1).trans rfl; have hc2_2 := (blk_cell BK2'.out 2).trans rfl; have hc2_3 := (blk_cell BK2'.out 3).trans rfl; have hc2_4 := (blk_cell BK2'.out 4).trans rfl)
  | (go_at_call 44; refine (spec_PsalmValid.calls kk _ _ S t.f0 t.f1 _ _ M _ _ E true _ (Kd.C_below HR0.out HB2.out) HC0.out (Kd.C_below HR3.out HB2.out) HC3.out (Kd.C_below HR4.out HB2.out) HC4.out HV.out).mono ?_; rintro e w3 ⟨rfl, hb3⟩; have BK23 := Aside0.mk (blk_below BK2'.out hb3); have BK43 := Aside0.mk (blk_below BK4.out hb3); have HB3 := Aside0.mk (below_step HB2.out hb3); clear hc2_0 hc2_1 hc2_2 hc2_3 hc2_4; clear hb3; have hc2_0 := (blk_cell BK23.out 0).trans rfl; have hc2_1 := (blk_cell BK23.out 1).trans rfl; have hc2_2 := (blk_cell BK23.out 2).trans rfl; have hc2_3 := (blk_cell BK23.out 3).trans rfl; have hc2_4 := (blk_cell BK23.out 4).trans rfl)
  | (go_at_call 46; refine (spec_l4Melody.calls _ _ S t.f0 t.f1 _ _ M _ _ E (psAll S t M E) _ (Kd.C_below HR0.out HB3.out) HC0.out (Kd.C_below HR3.out HB3.out) HC3.out (Kd.C_below HR4.out HB3.out) HC4.out HL4.out).mono ?_; rintro e w4 ⟨v17, rfl, ho17, hb4⟩; obtain ⟨A17, c17, rfl⟩ := Kd.R_slice ho17; have HO17 := Aside0.mk ho17; have BK24 := Aside0.mk (blk_below BK23.out hb4); have BK44 := Aside0.mk (blk_below BK43.out hb4); have HB4 := Aside0.mk (below_step HB3.out hb4); clear hc2_0 hc2_1 hc2_2 hc2_3 hc2_4; clear ho17 hb4; have hc2_0 := (blk_cell BK24.out 0).trans rfl; have hc2_1 := (blk_cell BK24.out 1).trans rfl; have hc2_2 := (blk_cell BK24.out 2).trans rfl; have hc2_3 := (blk_cell BK24.out 3).trans rfl; have hc2_4 := (blk_cell BK24.out 4).trans rfl)
  | (go_at_call 45; refine (spec_MelodyMove.calls km _ _ (psAll S t M E) k X true _ (Kd.R_reads' HO17.out).2.2 (Kd.R_reads' HO17.out).2.1 HM.out).mono ?_; rintro e w5 ⟨v19, rfl, ho19, hb5⟩; obtain ⟨AX, cX, rfl⟩ := Kd.R_slice ho19; have HO19 := Aside0.mk ho19; have BK25 := Aside0.mk (blk_below BK24.out hb5); have BK45 := Aside0.mk (blk_below BK44.out hb5); have HB5 := Aside0.mk (below_step HB4.out hb5); clear hc2_0 hc2_1 hc2_2 hc2_3 hc2_4; clear ho19 hb5; have hc2_0 := (blk_cell BK25.out 0).trans rfl; have hc2_1 := (blk_cell BK25.out 1).trans rfl; have hc2_2 := (blk_cell BK25.out 2).trans rfl; have hc2_3 := (blk_cell BK25.out 3).trans rfl; have hc2_4 := (blk_cell BK25.out 4).trans rfl))
 clear p1 p2 hc2_0 hc2_1 hc2_2 hc2_3 hc2_4
 obtain ⟨ja, hja⟩ : ∃ ja : Int, ja = (S.length : Int) := ⟨_, rfl⟩
 obtain ⟨jb, hjb⟩ : ∃ jb : Int, jb = (S.length : Int) + 1 + (M.length : Int) := ⟨_, rfl⟩
 obtain ⟨jc, hjc⟩ : ∃ jc : Int, jc = (S.length : Int) + 1 := ⟨_, rfl⟩
 rw [← hjb, ← hja]
 have e1 : S.length = ja.toNat := by omega
 have e2 : S.length + 1 + M.length = jb.toNat := by omega
 have e3 : S.length + 1 = jc.toNat := by omega
 have HT1 : Aside0 (X.take S.length = X.take ja.toNat) := ⟨by rw [e1]⟩
 have HT2 : Aside0 (rd_T29 X S.length = rd_T29 X ja) := ⟨by rw [hja]⟩
 have HT3 : Aside0 ((X.take (S.length + 1 + M.length)).drop (S.length + 1) = (X.take jb.toNat).drop jc.toNat) := ⟨by rw [e2, e3]⟩
 have HT4 : Aside0 (X.drop (S.length + 1 + M.length) = X.drop jb.toNat) := ⟨by rw [e2]⟩
 rw [e2, e3, e1]
 have hXl := HXL.out
 have p1 : IntKind.i64.wrap (ja + 1) = jc := by rw [Go.IntKind.wrap_i64]; omega
 have hp0 : 0 ≤ ja := by omega
 have hq0 : ja < (X.length : Int) := by omega
 have hcl := (Kd.R_reads' HO19.out).2.1
 obtain ⟨ad, eA, hx0, hx1⟩ := at_T29 (Kd.R_reads' HO19.out).2.2 ja hp0 hq0
 cases eA
 have hC := (Kd.R_reads' HO19.out).2.2
 obtain ⟨i0, hi0, _, hsz0, _⟩ := info_parts info29
 obtain ⟨hcutA, hCA, _, _⟩ := cut_take k29 28 29 Tryd.underlying28 hi0 ja hC hcl (by omega) (by omega)
 obtain ⟨AE, cE, hcutE, hCE, _, _⟩ := cut_drop k29 28 29 Tryd.underlying28 hi0 hsz0 jb hC hcl (by omega) (by omega)
 have hcutM := cut_mid (P := Tryd.prog) 28 29 .i64 .i64 Tryd.underlying28 hi0 2 hsz0 (some ad) X.length cX jc jb (by omega) (by omega) (by omega) hcl
 have hCM := Kd.C_mid (lo := jc.toNat) (hi := jb.toNat) (c := cX) hC (by omega) (by omega) hcl
 obtain ⟨AM, hAM⟩ : ∃ A1, A1 = (if cX = jc.toNat then (some ad) else ((some ad) : Option Addr).map (·.add (jc.toNat * 2))) := ⟨_, rfl⟩
 rw [← hAM] at hcutM
 replace hCM : Kd.C k29 w5 AM ((X.take jb.toNat).drop jc.toNat).length ((X.take jb.toNat).drop jc.toNat) := by rw [hAM]; exact hCM
 rw [List.length_drop, List.length_take, Nat.min_eq_left (by omega)] at hCM
 clear hAM
 have HCA := Aside0.mk hCA
 have HCM := Aside0.mk hCM
 have HCE := Aside0.mk hCE
 have HX0 := Aside0.mk hx0
 have HX1 := Aside0.mk hx1
 have HJ2 := Aside0.mk (show jb.toNat ≤ X.length by omega)
 have HJ := Aside0.mk (show ja.toNat + E.length + M.length < 100 ∧ jb.toNat - jc.toNat < 100 ∧ X.length - jb.toNat < 100 by omega)
 have hp0' := eq_true hp0
 have hq0' := eq_true hq0
 clear hXl
 have HXL := Aside0.mk (show ja.toNat ≤ X.length by omega)
 clear hC hCA hCM hCE hi0 hsz0 hcl h1 h2 h3 hja hjb hjc e1 e2 e3 hp0 hq0
 have HC5 := Aside0.mk (Below.refl w5.heap.size w5)
 refine start_ (n := 12) (S := fun w' => w'.cell? (ad.add (ja.toNat * 2)) = some (.int .i64 (rd_T29 X ja).f0) ∧ w'.cell? ⟨(ad.add (ja.toNat * 2)).block, (ad.add (ja.toNat * 2)).off + 1, none⟩ = some (.bool (rd_T29 X ja).f1)) (ds := []) (rowB 12 0) (by kernel_rfl) rfl rfl ⟨hx0, hx1⟩ (fun hHeld => ?_)
 have HD := Aside0.mk (below_drew1 HC5.out)
 clear hx0 hx1 HC5
 obtain ⟨w6, hw6⟩ : ∃ w6, w6 = w5.drew := ⟨_, rfl⟩
 rw [← hw6] at HD hHeld ⊢
 clear hw6
 refine pure_ (i := 1) (N := some 35) (v := ?_) (a' := ?_) (rowB 12 2) rfl rfl (by kernel_rfl) (fun _ _ _ h => h) (Or.inl ⟨by rfl, ?_⟩) ?_ ?_
 rotate_left
 ·
  intro w'
  go_simp
  with_reducible rfl
 rotate_left
 ·
  simp only [Act.put, List.setIfInBounds_toArray, List.set_cons_zero, List.set_cons_succ, i64_w, i32_w]
  rfl
 refine pure_ (i := 2) (N := some 36) (v := ?_) (a' := ?_) (rowB 12 6) rfl rfl (by kernel_rfl) (fun _ _ _ h => h) (Or.inl ⟨by rfl, ?_⟩) ?_ ?_
 rotate_left
 ·
  intro w'
  go_simp
  with_reducible rfl
 rotate_left
 ·
  simp only [Act.put, List.setIfInBounds_toArray, List.set_cons_zero, List.set_cons_succ, i64_w, i32_w]
  rfl
 refine pure_ (i := 3) (N := some 37) (v := ?_) (a' := ?_) (rowB 12 14) rfl rfl (by kernel_rfl) (fun _ _ _ h => h) (Or.inl ⟨by rfl, ?_⟩) ?_ ?_
 rotate_left
 ·
  intro w'
  go_simp
  with_reducible rfl
 rotate_left
 ·
  simp only [Act.put, List.setIfInBounds_toArray, List.set_cons_zero, List.set_cons_succ, i64_w, i32_w]
  rfl
 refine pure_ (i := 5) (N := some 39) (v := ?_) (a' := ?_) (rowB 12 46) rfl rfl (by kernel_rfl) (fun _ _ _ h => h) (Or.inl ⟨by rfl, ?_⟩) ?_ ?_
 rotate_left
 ·
  intro w'
  go_simp
  with_reducible rfl
 rotate_left
 ·
  simp only [Act.put, List.setIfInBounds_toArray, List.set_cons_zero, List.set_cons_succ, i64_w, i32_w]
  rfl
 refine pure_ (i := 6) (N := some 40) (v := ?_) (a' := ?_) (rowB 12 110) rfl rfl (by kernel_rfl) (fun _ _ _ h => h) (Or.inl ⟨by rfl, ?_⟩) ?_ ?_
 rotate_left
 ·
  intro w'
  go_simp
  with_reducible rfl
 rotate_left
 ·
  simp only [Act.put, List.setIfInBounds_toArray, List.set_cons_zero, List.set_cons_succ, i64_w, i32_w]
  rfl
 refine pure_ (i := 7) (N := some 41) (v := ?_) (a' := ?_) (rowB 12 238) rfl rfl (by kernel_rfl) (fun _ _ _ h => h) (Or.inl ⟨by rfl, ?_⟩) ?_ ?_
 rotate_left
 ·
  intro w'
  go_simp
  with_reducible rfl
 rotate_left
 ·
  simp only [Act.put, List.setIfInBounds_toArray, List.set_cons_zero, List.set_cons_succ, i64_w, i32_w]
  rfl
 refine take_ (i := 8) (N := some 42) (v := ?_) (a' := ?_) (rowB 12 494) rfl rfl (by kernel_rfl) (fun _ _ _ h => h) (Or.inl ⟨by rfl, ?_⟩) hHeld ?_ ?_
 rotate_left
 ·
  rintro w' ⟨s0, s1⟩
  go_simp
  with_reducible rfl
 rotate_left
 ·
  simp only [Act.put, List.setIfInBounds_toArray, List.set_cons_zero, List.set_cons_succ, i64_w, i32_w]
  rfl
 refine join_ (σ := Value × Value × Value × Value) 1 (rowB 12 2047) (fun s_ => [(34, s_.1), (38, s_.2.1), (43, s_.2.2.1), (10, s_.2.2.2)]) (fun s_ w' => ∃ (g10 : Nat) (A38 : Option Addr) (c38 : Nat), s_.2.1 = .slice A38 ja.toNat c38 ∧ s_.2.2.1 = .agg #[.slice A38 ja.toNat c38, .int .i64 (rd_T29 X ja).f0, .bool (rd_T29 X ja).f1, .slice none 0 0, .slice none 0 0] ∧ s_.2.2.2 = .pointer (some ⟨g10, 0, none⟩) ∧ Aside0 (w'.heap[g10]? = some (.cells #[.slice none 0 0, .int .i64 0, .bool false, .slice none 0 0, .slice none 0 0] 31 (0, 0))) ∧ Aside0 (w5.heap.size ≤ g10) ∧ Aside0 (Kd.R k29 29 w' w5.heap.size (fun _ => True) (.slice A38 ja.toNat c38) (X.take ja.toNat)) ∧ Aside0 (Below w5.heap.size w5 w')) ?_ ?_
 rotate_left
 ·
  intro hCont
  refine two_ (i := 0) (j := 10) (Ni := some 34) (Nj := some 10) (rowB 12 495) (rowB 12 1518) rfl rfl rfl rfl (by kernel_rfl) (by decide) (by decide) (fun K hK => ?_) (fun K hK => ?_)
  ·
   skip
   refine Kd.R_lit_step k29 _ 29 ?hg (N := 34) ?hd (xs := ([] : List S29)) (inner := []) (ok := fun _ => True) (okp := fun _ => True) ?hr ?hp (fun _ hk => hk) trivial (Below.refl _ _) (Nat.le_refl _) (by simp) ?_; (case hd => rfl); (case hg => rfl); (case hr => first | (go_simp; done) | (go_simp; rfl)); (case hp => exact Reps.none _ _)
   intro v34 w7 ho hb hg_ hnew_
   clear hg_ hnew_
   obtain ⟨A34, c34, rfl⟩ := Kd.R_slice ho
   have HO34 := Aside0.mk (Kd.R_lower ho HD.out.size)
   have HB_w7 := Aside0.mk (below_step HD.out hb)
   clear ho hb
   refine hK.out _ _ ⟨pw_cell_below HB_w7.out HX0.out, pw_cell_below HB_w7.out HX1.out⟩ (fun hHeld => ?_)
   clear hK K
   refine norm_ (a' := ?_) ?_ ?_
   rotate_left
   ·
    show Act.put _ (some 34) _ = _
    simp only [Act.put, List.setIfInBounds_toArray, List.set_cons_zero, List.set_cons_succ, i64_w, i32_w]
    rfl
   refine two_ (i := 4) (j := 10) (Ni := some 38) (Nj := some 10) (rowB 12 511) (rowB 12 1519) rfl rfl rfl rfl (by kernel_rfl) (by decide) (by decide) (fun K hK => ?_) (fun K hK => ?_)
   ·
    skip
    refine Kd.R_append_rows_step k29 (w0 := w5) w5.heap.size (by rfl) (.tmp 34) (.tmp 37) 28 29 (.agg #[(.int .i64 0), (.bool false)]) 16 rfl Tryd.underlying28 info29 rfl (by decide) (by omega) (.slice A34 ([] : List S29).length c34) ([] : List S29) (X.take ja.toNat) _ _ _ (fun _ => True) (fun _ => False) rfl rfl ?aO ?aR (fun _ _ h => h) (fun _ h => h.elim) (fun _ _ => trivial) ?aB ?aS ?aL ?_
    (case aR => exact Kd.C_below HCA.out HB_w7.out)
    (case aB => exact HB_w7.out)
    (case aO => exact HO34.out)
    (case aS => exact HB_w7.out.size)
    (case aL => have := HJ.out; simp only [List.length_nil]; omega)
    intro v38 w8 ho hb hg hat
    rw [List.nil_append] at ho
    obtain ⟨A38, c38, rfl⟩ := Kd.R_slice ho
    have hl38 : (X.take ja.toNat).length = ja.toNat := by rw [List.length_take]; have := HJ.out; have := HXL.out; omega
    rw [hl38] at ho ⊢
    have HO38 := Aside0.mk ho
    have HB_w8 := Aside0.mk hb
    clear ho hb hg hat hl38
    refine hK.out _ _ ⟨pw_cell_below HB_w8.out HX0.out, pw_cell_below HB_w8.out HX1.out⟩ (fun hHeld => ?_)
    clear hK K
    refine norm_ (a' := ?_) ?_ ?_
    rotate_left
    ·
     show Act.put _ (some 38) _ = _
     simp only [Act.put, List.setIfInBounds_toArray, List.set_cons_zero, List.set_cons_succ, i64_w, i32_w]
     rfl
    refine pure_ (i := 9) (N := some 43) (v := ?_) (a' := ?_) (rowB 12 1023) rfl rfl (by kernel_rfl) (fun _ _ _ h => h) (Or.inl ⟨by rfl, ?_⟩) ?_ ?_
    rotate_left
    ·
     intro w'
     go_simp
     with_reducible rfl
    rotate_left
    ·
     simp only [Act.put, List.setIfInBounds_toArray, List.set_cons_zero, List.set_cons_succ, i64_w, i32_w]
     rfl
    refine one_ (i := 10) (N := some 10) (rowB 12 2047) rfl rfl (by kernel_rfl) (by decide) (fun K hK => ?_)
    refine box_step ?hg (N := 10) ?hd (cs := #[.slice none 0 0, .int .i64 0, .bool false, .slice none 0 0, .slice none 0 0]) (t := 31) ?hr ?_; (case hd => rfl); (case hg => rfl); (case hr => first | (go_simp; done) | (go_simp; rfl))
    intro g10 hg w9 hbox hb
    have GE10 : Aside0 (w5.heap.size ≤ g10) := ⟨by rw [hg]; exact HB_w8.out.size⟩
    have BK_w9 := Aside0.mk hbox
    have HB_w9 := Aside0.mk (below_step HB_w8.out hb)
    have HO38_w9 := Aside0.mk (Kd.R_below HO38.out hb)
    clear hbox hb hg
    refine hK.out _ _ ⟨pw_cell_below HB_w9.out HX0.out, pw_cell_below HB_w9.out HX1.out⟩ (fun hHeld => ?_)
    clear hK K
    refine norm_ (a' := ?_) ?_ ?_
    rotate_left
    ·
     show Act.put _ (some 10) _ = _
     simp only [Act.put, List.setIfInBounds_toArray, List.set_cons_zero, List.set_cons_succ, i64_w, i32_w]
     rfl
    exact norm_ (by simp only [putAll, Act.put, List.setIfInBounds_toArray, List.set_cons_zero, List.set_cons_succ]) (hCont (.slice A34 ([] : List S29).length c34, .slice A38 ja.toNat c38, .agg #[.slice A38 ja.toNat c38, .int .i64 (rd_T29 X ja).f0, .bool (rd_T29 X ja).f1, .slice none 0 0, .slice none 0 0], .pointer (some ⟨g10, 0, none⟩)) _ ⟨g10, A38, c38, rfl, rfl, rfl, BK_w9, GE10, HO38_w9, HB_w9⟩)
   ·
    skip
    refine box_step ?hg (N := 10) ?hd (cs := #[.slice none 0 0, .int .i64 0, .bool false, .slice none 0 0, .slice none 0 0]) (t := 31) ?hr ?_; (case hd => rfl); (case hg => rfl); (case hr => first | (go_simp; done) | (go_simp; rfl))
    intro g10 hg w10 hbox hb
    have GE10 : Aside0 (w5.heap.size ≤ g10) := ⟨by rw [hg]; exact HB_w7.out.size⟩
    have BK_w10 := Aside0.mk hbox
    have HB_w10 := Aside0.mk (below_step HB_w7.out hb)
    have HO34_w10 := Aside0.mk (Kd.R_below HO34.out hb)
    clear hbox hb hg
    refine hK.out _ _ ⟨pw_cell_below HB_w10.out HX0.out, pw_cell_below HB_w10.out HX1.out⟩ (fun hHeld => ?_)
    clear hK K
    refine norm_ (a' := ?_) ?_ ?_
    rotate_left
    ·
     show Act.put _ (some 10) _ = _
     simp only [Act.put, List.setIfInBounds_toArray, List.set_cons_zero, List.set_cons_succ, i64_w, i32_w]
     rfl
    refine one_ (i := 4) (N := some 38) (rowB 12 1535) rfl rfl (by kernel_rfl) (by decide) (fun K hK => ?_)
    refine Kd.R_append_rows_step k29 (w0 := w5) w5.heap.size (by rfl) (.tmp 34) (.tmp 37) 28 29 (.agg #[(.int .i64 0), (.bool false)]) 16 rfl Tryd.underlying28 info29 rfl (by decide) (by omega) (.slice A34 ([] : List S29).length c34) ([] : List S29) (X.take ja.toNat) _ _ _ (fun _ => True) (fun _ => False) rfl rfl ?aO ?aR (fun _ _ h => h) (fun _ h => h.elim) (fun _ _ => trivial) ?aB ?aS ?aL ?_
    (case aR => exact Kd.C_below HCA.out HB_w10.out)
    (case aB => exact HB_w10.out)
    (case aO => exact HO34_w10.out)
    (case aS => exact HB_w10.out.size)
    (case aL => have := HJ.out; simp only [List.length_nil]; omega)
    intro v38 w11 ho hb hg hat
    rw [List.nil_append] at ho
    obtain ⟨A38, c38, rfl⟩ := Kd.R_slice ho
    have hl38 : (X.take ja.toNat).length = ja.toNat := by rw [List.length_take]; have := HJ.out; have := HXL.out; omega
    rw [hl38] at ho ⊢
    have HO38 := Aside0.mk ho
    have HB_w11 := Aside0.mk hb
    have BK_w11 := Aside0.mk (blk_grown BK_w10.out hg (Kd.R_ne HO34_w10.out BK_w10.out (by decide)))
    clear ho hb hg hat hl38
    refine hK.out _ _ ⟨pw_cell_below HB_w11.out HX0.out, pw_cell_below HB_w11.out HX1.out⟩ (fun hHeld => ?_)
    clear hK K
    refine norm_ (a' := ?_) ?_ ?_
    rotate_left
    ·
     show Act.put _ (some 38) _ = _
     simp only [Act.put, List.setIfInBounds_toArray, List.set_cons_zero, List.set_cons_succ, i64_w, i32_w]
     rfl
    refine pure_ (i := 9) (N := some 43) (v := ?_) (a' := ?_) (rowB 12 2047) rfl rfl (by kernel_rfl) (fun _ _ _ h => h) (Or.inl ⟨by rfl, ?_⟩) ?_ ?_
    rotate_left
    ·
     intro w'
     go_simp
     with_reducible rfl
    rotate_left
    ·
     simp only [Act.put, List.setIfInBounds_toArray, List.set_cons_zero, List.set_cons_succ, i64_w, i32_w]
     rfl
    exact norm_ (by simp only [putAll, Act.put, List.setIfInBounds_toArray, List.set_cons_zero, List.set_cons_succ]) (hCont (.slice A34 ([] : List S29).length c34, .slice A38 ja.toNat c38, .agg #[.slice A38 ja.toNat c38, .int .i64 (rd_T29 X ja).f0, .bool (rd_T29 X ja).f1, .slice none 0 0, .slice none 0 0], .pointer (some ⟨g10, 0, none⟩)) _ ⟨g10, A38, c38, rfl, rfl, rfl, BK_w11, GE10, HO38, HB_w11⟩)
  ·
   skip
   refine box_step ?hg (N := 10) ?hd (cs := #[.slice none 0 0, .int .i64 0, .bool false, .slice none 0 0, .slice none 0 0]) (t := 31) ?hr ?_; (case hd => rfl); (case hg => rfl); (case hr => first | (go_simp; done) | (go_simp; rfl))
   intro g10 hg w12 hbox hb
   have GE10 : Aside0 (w5.heap.size ≤ g10) := ⟨by rw [hg]; exact HD.out.size⟩
   have BK_w12 := Aside0.mk hbox
   have HB_w12 := Aside0.mk (below_step HD.out hb)
   clear hbox hb hg
   refine hK.out _ _ ⟨pw_cell_below HB_w12.out HX0.out, pw_cell_below HB_w12.out HX1.out⟩ (fun hHeld => ?_)
   clear hK K
   refine norm_ (a' := ?_) ?_ ?_
   rotate_left
   ·
    show Act.put _ (some 10) _ = _
    simp only [Act.put, List.setIfInBounds_toArray, List.set_cons_zero, List.set_cons_succ, i64_w, i32_w]
    rfl
   refine one_ (i := 0) (N := some 34) (rowB 12 1519) rfl rfl (by kernel_rfl) (by decide) (fun K hK => ?_)
   refine Kd.R_lit_step k29 _ 29 ?hg (N := 34) ?hd (xs := ([] : List S29)) (inner := []) (ok := fun _ => True) (okp := fun _ => True) ?hr ?hp (fun _ hk => hk) trivial (Below.refl _ _) (Nat.le_refl _) (by simp) ?_; (case hd => rfl); (case hg => rfl); (case hr => first | (go_simp; done) | (go_simp; rfl)); (case hp => exact Reps.none _ _)
   intro v34 w13 ho hb hg_ hnew_
   clear hg_ hnew_
   obtain ⟨A34, c34, rfl⟩ := Kd.R_slice ho
   have HO34 := Aside0.mk (Kd.R_lower ho HB_w12.out.size)
   have HB_w13 := Aside0.mk (below_step HB_w12.out hb)
   have BK_w13 := Aside0.mk (blk_below BK_w12.out hb)
   clear ho hb
   refine hK.out _ _ ⟨pw_cell_below HB_w13.out HX0.out, pw_cell_below HB_w13.out HX1.out⟩ (fun hHeld => ?_)
   clear hK K
   refine norm_ (a' := ?_) ?_ ?_
   rotate_left
   ·
    show Act.put _ (some 34) _ = _
    simp only [Act.put, List.setIfInBounds_toArray, List.set_cons_zero, List.set_cons_succ, i64_w, i32_w]
    rfl
   refine one_ (i := 4) (N := some 38) (rowB 12 1535) rfl rfl (by kernel_rfl) (by decide) (fun K hK => ?_)
   refine Kd.R_append_rows_step k29 (w0 := w5) w5.heap.size (by rfl) (.tmp 34) (.tmp 37) 28 29 (.agg #[(.int .i64 0), (.bool false)]) 16 rfl Tryd.underlying28 info29 rfl (by decide) (by omega) (.slice A34 ([] : List S29).length c34) ([] : List S29) (X.take ja.toNat) _ _ _ (fun _ => True) (fun _ => False) rfl rfl ?aO ?aR (fun _ _ h => h) (fun _ h => h.elim) (fun _ _ => trivial) ?aB ?aS ?aL ?_
   (case aR => exact Kd.C_below HCA.out HB_w13.out)
   (case aB => exact HB_w13.out)
   (case aO => exact HO34.out)
   (case aS => exact HB_w13.out.size)
   (case aL => have := HJ.out; simp only [List.length_nil]; omega)
   intro v38 w14 ho hb hg hat
   rw [List.nil_append] at ho
   obtain ⟨A38, c38, rfl⟩ := Kd.R_slice ho
   have hl38 : (X.take ja.toNat).length = ja.toNat := by rw [List.length_take]; have := HJ.out; have := HXL.out; omega
   rw [hl38] at ho ⊢
   have HO38 := Aside0.mk ho
   have HB_w14 := Aside0.mk hb
   have BK_w14 := Aside0.mk (blk_grown BK_w13.out hg (Kd.R_ne HO34.out BK_w13.out (by decide)))
   clear ho hb hg hat hl38
   refine hK.out _ _ ⟨pw_cell_below HB_w14.out HX0.out, pw_cell_below HB_w14.out HX1.out⟩ (fun hHeld => ?_)
   clear hK K
   refine norm_ (a' := ?_) ?_ ?_
   rotate_left
   ·
    show Act.put _ (some 38) _ = _
    simp only [Act.put, List.setIfInBounds_toArray, List.set_cons_zero, List.set_cons_succ, i64_w, i32_w]
    rfl
   refine pure_ (i := 9) (N := some 43) (v := ?_) (a' := ?_) (rowB 12 2047) rfl rfl (by kernel_rfl) (fun _ _ _ h => h) (Or.inl ⟨by rfl, ?_⟩) ?_ ?_
   rotate_left
   ·
    intro w'
    go_simp
    with_reducible rfl
   rotate_left
   ·
    simp only [Act.put, List.setIfInBounds_toArray, List.set_cons_zero, List.set_cons_succ, i64_w, i32_w]
    rfl
   exact norm_ (by simp only [putAll, Act.put, List.setIfInBounds_toArray, List.set_cons_zero, List.set_cons_succ]) (hCont (.slice A34 ([] : List S29).length c34, .slice A38 ja.toNat c38, .agg #[.slice A38 ja.toNat c38, .int .i64 (rd_T29 X ja).f0, .bool (rd_T29 X ja).f1, .slice none 0 0, .slice none 0 0], .pointer (some ⟨g10, 0, none⟩)) _ ⟨g10, A38, c38, rfl, rfl, rfl, BK_w14, GE10, HO38, HB_w14⟩)
 rintro ⟨v34, v38, v43, v10⟩ w20 ⟨g10, A38, c38, rfl, rfl, rfl, BK, GE10, HO38, HB20⟩
 clear HD hHeld
 have hHeld : w20.cell? _ = _ ∧ w20.cell? _ = _ := ⟨pw_cell_below HB20.out HX0.out, pw_cell_below HB20.out HX1.out⟩
 refine norm_ (a' := ?_) ?_ ?_
 rotate_left
 ·
  simp only [putAll, Act.put, List.setIfInBounds_toArray, List.set_cons_zero, List.set_cons_succ]
  rfl
 refine one_ (i := 11) (N := none) (rowB 12 4095) rfl rfl (by kernel_rfl) (by decide) (fun K hK => ?_)
 have hs0 := (blk_cell BK.out 0).trans rfl
 have hfs0 := blk_frozen BK.out 0
 have hs1 := (blk_cell BK.out 1).trans rfl
 have hfs1 := blk_frozen BK.out 1
 have hs2 := (blk_cell BK.out 2).trans rfl
 have hfs2 := blk_frozen BK.out 2
 have hs3 := (blk_cell BK.out 3).trans rfl
 have hfs3 := blk_frozen BK.out 3
 have hs4 := (blk_cell BK.out 4).trans rfl
 have hfs4 := blk_frozen BK.out 4
 refine skip_ (w1 := ?_) (by rfl) rfl ?_ ?_
 rotate_left
 ·
  go_simp
  rfl
 have BK21 : Aside0 ((((((w20.setCell ⟨g10, 0, none⟩ (.slice A38 ja.toNat c38)).setCell ⟨g10, 1, none⟩ (.int .i64 (rd_T29 X ja).f0)).setCell ⟨g10, 2, none⟩ (.bool (rd_T29 X ja).f1)).setCell ⟨g10, 3, none⟩ (.slice none 0 0)).setCell ⟨g10, 4, none⟩ (.slice none 0 0)).heap[g10]? = some (.cells #[.slice A38 ja.toNat c38, .int .i64 (rd_T29 X ja).f0, .bool (rd_T29 X ja).f1, .slice none 0 0, .slice none 0 0] 31 (0, 0))) := ⟨(blk_put (cs := #[.slice A38 ja.toNat c38, .int .i64 (rd_T29 X ja).f0, .bool (rd_T29 X ja).f1, .slice none 0 0, .slice none 0 0]) (blk_put (cs := #[.slice A38 ja.toNat c38, .int .i64 (rd_T29 X ja).f0, .bool (rd_T29 X ja).f1, .slice none 0 0, .slice none 0 0]) (blk_put (cs := #[.slice A38 ja.toNat c38, .int .i64 (rd_T29 X ja).f0, .bool false, .slice none 0 0, .slice none 0 0]) (blk_put (cs := #[.slice A38 ja.toNat c38, .int .i64 0, .bool false, .slice none 0 0, .slice none 0 0]) (blk_put (cs := #[.slice none 0 0, .int .i64 0, .bool false, .slice none 0 0, .slice none 0 0]) BK.out 0 _ rfl) 1 _ rfl) 2 _ rfl) 3 _ rfl) 4 _ rfl)⟩
 have HB21 : Aside0 (Below w5.heap.size w5 (((((w20.setCell ⟨g10, 0, none⟩ (.slice A38 ja.toNat c38)).setCell ⟨g10, 1, none⟩ (.int .i64 (rd_T29 X ja).f0)).setCell ⟨g10, 2, none⟩ (.bool (rd_T29 X ja).f1)).setCell ⟨g10, 3, none⟩ (.slice none 0 0)).setCell ⟨g10, 4, none⟩ (.slice none 0 0))) := ⟨(below_set (below_set (below_set (below_set (below_set HB20.out GE10.out) GE10.out) GE10.out) GE10.out) GE10.out)⟩
 have HO21 : Aside0 (Kd.R k29 29 (((((w20.setCell ⟨g10, 0, none⟩ (.slice A38 ja.toNat c38)).setCell ⟨g10, 1, none⟩ (.int .i64 (rd_T29 X ja).f0)).setCell ⟨g10, 2, none⟩ (.bool (rd_T29 X ja).f1)).setCell ⟨g10, 3, none⟩ (.slice none 0 0)).setCell ⟨g10, 4, none⟩ (.slice none 0 0)) w5.heap.size (fun _ => True) (.slice A38 ja.toNat c38) (X.take ja.toNat)) := ⟨Kd.R_mono (Kd.R_far (p := ⟨g10, 4, none⟩) (Kd.R_far (p := ⟨g10, 3, none⟩) (Kd.R_far (p := ⟨g10, 2, none⟩) (Kd.R_far (p := ⟨g10, 1, none⟩) (Kd.R_far (p := ⟨g10, 0, none⟩) (Kd.R_types HO38.out BK.out (by decide)) (fun _ hk => hk.2) (.slice A38 ja.toNat c38)) (fun _ hk => hk.2) (.int .i64 (rd_T29 X ja).f0)) (fun _ hk => hk.2) (.bool (rd_T29 X ja).f1)) (fun _ hk => hk.2) (.slice none 0 0)) (fun _ hk => hk.2) (.slice none 0 0)) (fun _ _ => trivial)⟩
 refine hK.out _ _ ⟨pw_cell_below HB21.out HX0.out, pw_cell_below HB21.out HX1.out⟩ (fun hHeld => ?_)
 clear hK K
 clear hs0 hfs0 hs1 hfs1 hs2 hfs2 hs3 hfs3 hs4 hfs4 hHeld BK HO38 HB20
 generalize (((((w20.setCell ⟨g10, 0, none⟩ (.slice A38 ja.toNat c38)).setCell ⟨g10, 1, none⟩ (.int .i64 (rd_T29 X ja).f0)).setCell ⟨g10, 2, none⟩ (.bool (rd_T29 X ja).f1)).setCell ⟨g10, 3, none⟩ (.slice none 0 0)).setCell ⟨g10, 4, none⟩ (.slice none 0 0)) = w21 at BK21 HB21 HO21 ⊢
 refine done_ (by kernel_rfl) ?_
 have BK4w := Aside0.mk (blk_below BK45.out HB21.out)
 have NE : Aside0 (g4 ≠ g10) := ⟨Nat.ne_of_lt (Nat.lt_of_lt_of_le (blk_lt BK45.out) GE10.out)⟩
 have GW : Aside0 (w.heap.size ≤ g10) := ⟨Nat.le_trans HB5.out.size GE10.out⟩
 have HBw : Aside0 (Below w.heap.size w w21) := ⟨below_step HB5.out HB21.out⟩
 have HX21 : Aside0 (Below w5.heap.size w5 w21) := ⟨HB21.out⟩
 have HL2 : Aside0 (((X.take jb.toNat).drop jc.toNat).length = jb.toNat - jc.toNat) := ⟨by rw [List.length_drop, List.length_take, Nat.min_eq_left HJ2.out]⟩
 have HL3 : Aside0 ((X.drop jb.toNat).length = X.length - jb.toNat) := ⟨List.length_drop⟩
 have HO38w : Aside0 (Kd.R k29 29 w21 w.heap.size (fun _ => True) (.slice A38 ja.toNat c38) (X.take ja.toNat)) := ⟨Kd.R_lower HO21.out HB5.out.size⟩
 clear HCA BK45 BK25 BK24 BK23 BK2' BK44 BK43 BK4 HB21 HO21 HB5 HO19 HO17
 generalize (X.take jb.toNat).drop jc.toNat = XM at HCM HL2 HT3 ⊢
 generalize X.drop jb.toNat = XE at HCE HL3 HT4 ⊢
 go_wp2_with (first
  | ((with_reducible refine gate_dst (N := 44) rfl ?_); refine Kd.R_lit k29 (w0 := w21) w21.heap.size 29 ?hg (N := 44) ?hd (xs := ([] : List S29)) (inner := []) (ok := fun _ => True) (okp := fun _ => True) ?hr (Reps.none _ _) (fun _ hk => hk) trivial (Below.refl _ _) (Nat.le_refl _) (by simp) ?_; (case hd => rfl); (case hg => rfl); (case hr => first | (go_simp; done) | (go_simp; rfl)); intro v44 w22 ho hb _ _; have HO_w22 := Aside0.mk ho; have HB_w22 := Aside0.mk hb; clear ho hb)
  | ((with_reducible refine gate_builtin (b := .append) (xs := #[.tmp 44, .tmp 49]) rfl ?_); at_builtin; go_loud (refine Kd.R_append_rows k29 (w0 := w21) w21.heap.size rfl (.tmp 44) (.tmp 49) 28 29 (.agg #[(.int .i64 0), (.bool false)]) 16 rfl Tryd.underlying28 info29 rfl (by decide) (by omega) v44 ([] : List S29) XM _ _ _ (fun _ => True) (fun _ => False) rfl rfl HO_w22.out (Kd.C_below HCM.out (below_step HX21.out HB_w22.out)) (fun _ _ h => h) (fun _ h => h.elim) (fun _ _ => trivial) HB_w22.out HB_w22.out.size (by have := HJ.out; simp only [List.length_nil]; omega) ?_); intro vv w23 ho hb _ _; rw [List.nil_append] at ho; obtain ⟨AM2, cM2, rfl⟩ := Kd.R_slice ho; rw [HL2.out] at ho ⊢; have BK23 := Aside0.mk (blk_below BK21.out hb); have B423 := Aside0.mk (blk_below BK4w.out hb); have HB23 := Aside0.mk (below_step HBw.out hb); have HO38a := Aside0.mk (Kd.R_elder' HO38w.out (Kd.R_base ho) hb); have HOMa := Aside0.mk (Kd.R_lower (Kd.R_new' ho (Kd.R_lt HO38w.out)) HBw.out.size); have HX23 := Aside0.mk (below_step HX21.out hb); have hs3 := (blk_cell BK23.out 3).trans rfl; have hfs3 := blk_frozen BK23.out 3; clear ho hb)
  | ((with_reducible refine gate_dst (N := 52) rfl ?_); clear hs3 hfs3; have BK24 : Aside0 ((w23.setCell ⟨g10, 3, none⟩ (.slice AM2 (jb.toNat - jc.toNat) cM2)).heap[g10]? = some (.cells #[.slice A38 ja.toNat c38, .int .i64 (rd_T29 X ja).f0, .bool (rd_T29 X ja).f1, .slice AM2 (jb.toNat - jc.toNat) cM2, .slice none 0 0] 31 (0, 0))) := ⟨blk_put (cs := #[.slice A38 ja.toNat c38, .int .i64 (rd_T29 X ja).f0, .bool (rd_T29 X ja).f1, .slice none 0 0, .slice none 0 0]) BK23.out 3 _ rfl⟩; have B424 : Aside0 ((w23.setCell ⟨g10, 3, none⟩ (.slice AM2 (jb.toNat - jc.toNat) cM2)).heap[g4]? = some (.cells #[.slice none 0 0, .int .i64 0, .bool false, .slice none 0 0, .slice none 0 0] 31 (0, 0))) := ⟨blk_far B423.out NE.out _⟩; have HB24 : Aside0 (Below w.heap.size w (w23.setCell ⟨g10, 3, none⟩ (.slice AM2 (jb.toNat - jc.toNat) cM2))) := ⟨below_set HB23.out GW.out⟩; have HO38b : Aside0 (Kd.R k29 29 (w23.setCell ⟨g10, 3, none⟩ (.slice AM2 (jb.toNat - jc.toNat) cM2)) w.heap.size (fun k_ => True ∧ some k_ ≠ (.slice AM2 (jb.toNat - jc.toNat) cM2 : Value).ownBlock) (.slice A38 ja.toNat c38) (X.take ja.toNat)) := ⟨Kd.R_mono (Kd.R_far (p := ⟨g10, 3, none⟩) (Kd.R_types HO38a.out BK23.out (by decide)) (fun _ hk => hk.2) (.slice AM2 (jb.toNat - jc.toNat) cM2)) (fun _ hk => hk.1)⟩; have HOMb : Aside0 (Kd.R k29 29 (w23.setCell ⟨g10, 3, none⟩ (.slice AM2 (jb.toNat - jc.toNat) cM2)) w.heap.size (fun k_ => True ∧ some k_ ≠ (.slice A38 ja.toNat c38 : Value).ownBlock) (.slice AM2 (jb.toNat - jc.toNat) cM2) XM) := ⟨Kd.R_mono (Kd.R_far (p := ⟨g10, 3, none⟩) (Kd.R_types HOMa.out BK23.out (by decide)) (fun _ hk => hk.2) (.slice AM2 (jb.toNat - jc.toNat) cM2)) (fun _ hk => hk.1)⟩; have HX24 : Aside0 (Below w5.heap.size w5 (w23.setCell ⟨g10, 3, none⟩ (.slice AM2 (jb.toNat - jc.toNat) cM2))) := ⟨below_set HX23.out GE10.out⟩; clear BK23 B423 HB23 HO38a HOMa HX23; generalize (w23.setCell ⟨g10, 3, none⟩ (.slice AM2 (jb.toNat - jc.toNat) cM2)) = w24 at BK24 B424 HB24 HO38b HOMb HX24 ⊢; refine Kd.R_lit k29 (w0 := w24) w24.heap.size 29 ?hg (N := 52) ?hd (xs := ([] : List S29)) (inner := []) (ok := fun _ => True) (okp := fun _ => True) ?hr (Reps.none _ _) (fun _ hk => hk) trivial (Below.refl _ _) (Nat.le_refl _) (by simp) ?_; (case hd => rfl); (case hg => rfl); (case hr => first | (go_simp; done) | (go_simp; rfl)); intro v52 w25 ho hb _ _; have HO_w25 := Aside0.mk ho; have HB_w25 := Aside0.mk hb; clear ho hb)
  | ((with_reducible refine gate_builtin (b := .append) (xs := #[.tmp 52, .tmp 55]) rfl ?_); at_builtin; go_loud (refine Kd.R_append_rows k29 (w0 := w24) w24.heap.size rfl (.tmp 52) (.tmp 55) 28 29 (.agg #[(.int .i64 0), (.bool false)]) 16 rfl Tryd.underlying28 info29 rfl (by decide) (by omega) v52 ([] : List S29) XE _ _ _ (fun _ => True) (fun _ => False) rfl rfl HO_w25.out (Kd.C_below HCE.out (below_step HX24.out HB_w25.out)) (fun _ _ h => h) (fun _ h => h.elim) (fun _ _ => trivial) HB_w25.out HB_w25.out.size (by have := HJ.out; simp only [List.length_nil]; omega) ?_); intro vv w26 ho hb _ _; rw [List.nil_append] at ho; obtain ⟨AE2, cE2, rfl⟩ := Kd.R_slice ho; rw [HL3.out] at ho ⊢; have BK26 := Aside0.mk (blk_below BK24.out hb); have B426 := Aside0.mk (blk_below B424.out hb); have HB26 := Aside0.mk (below_step HB24.out hb); have HO38c := Aside0.mk (Kd.R_elder' HO38b.out (Kd.R_base ho) hb); have HOMc := Aside0.mk (Kd.R_elder' HOMb.out (Kd.R_base ho) hb); have HOEc := Aside0.mk (Kd.R_lower (Kd.R_new' (Kd.R_new' ho (Kd.R_lt HO38b.out)) (Kd.R_lt HOMb.out)) HB24.out.size); have hne1 := NE.out; have hne2 := NE.out.symm; have hs0 := (blk_cell BK26.out 0).trans rfl; have hfs0 := blk_frozen BK26.out 0; have hz0 := (blk_cell B426.out 0).trans rfl; have hfz0 := blk_frozen B426.out 0; have hs1 := (blk_cell BK26.out 1).trans rfl; have hfs1 := blk_frozen BK26.out 1; have hz1 := (blk_cell B426.out 1).trans rfl; have hfz1 := blk_frozen B426.out 1; have hs2 := (blk_cell BK26.out 2).trans rfl; have hfs2 := blk_frozen BK26.out 2; have hz2 := (blk_cell B426.out 2).trans rfl; have hfz2 := blk_frozen B426.out 2; have hs3 := (blk_cell BK26.out 3).trans rfl; have hfs3 := blk_frozen BK26.out 3; have hz3 := (blk_cell B426.out 3).trans rfl; have hfz3 := blk_frozen B426.out 3; have hs4 := (blk_cell BK26.out 4).trans rfl; have hfs4 := blk_frozen BK26.out 4; have hz4 := (blk_cell B426.out 4).trans rfl; have hfz4 := blk_frozen B426.out 4; clear ho hb))
 refine bodyPost_ret (results_ct rfl _ _ g4 31 #[.slice A38 ja.toNat c38, .int .i64 (rd_T29 X ja).f0, .bool (rd_T29 X ja).f1, .slice AM2 (jb.toNat - jc.toNat) cM2, .slice AE2 (X.length - jb.toNat) cE2] (0, 0) _ rfl (by refine blk_put (cs := #[.slice A38 ja.toNat c38, .int .i64 (rd_T29 X ja).f0, .bool (rd_T29 X ja).f1, .slice AM2 (jb.toNat - jc.toNat) cM2, .slice none 0 0]) ?_ 4 _ rfl; refine blk_put (cs := #[.slice A38 ja.toNat c38, .int .i64 (rd_T29 X ja).f0, .bool (rd_T29 X ja).f1, .slice none 0 0, .slice none 0 0]) ?_ 3 _ rfl; refine blk_put (cs := #[.slice A38 ja.toNat c38, .int .i64 (rd_T29 X ja).f0, .bool false, .slice none 0 0, .slice none 0 0]) ?_ 2 _ rfl; refine blk_put (cs := #[.slice A38 ja.toNat c38, .int .i64 0, .bool false, .slice none 0 0, .slice none 0 0]) ?_ 1 _ rfl; refine blk_put (cs := #[.slice none 0 0, .int .i64 0, .bool false, .slice none 0 0, .slice none 0 0]) ?_ 0 _ rfl; exact blk_far B426.out NE.out _) Tryd.underlying31 rfl (by kernel_rfl)) rfl ?_
 rw [HT1.out, HT2.out, HT3.out, HT4.out]
 exact ⟨.slice A38 ja.toNat c38, .slice AM2 (jb.toNat - jc.toNat) cM2, .slice AE2 (X.length - jb.toNat) cE2, rfl, Kd.R_mono (Kd.R_far (p := ⟨g4, 4, none⟩) (Kd.R_far (p := ⟨g4, 3, none⟩) (Kd.R_far (p := ⟨g4, 2, none⟩) (Kd.R_far (p := ⟨g4, 1, none⟩) (Kd.R_far (p := ⟨g4, 0, none⟩) (Kd.R_far (p := ⟨g10, 4, none⟩) (Kd.R_types (Kd.R_types HO38c.out BK26.out (by decide)) B426.out (by decide)) (fun _ hk => hk.1.2) (.slice AE2 (X.length - jb.toNat) cE2)) (fun _ hk => hk.2) (.slice A38 ja.toNat c38)) (fun _ hk => hk.2) (.int .i64 (rd_T29 X ja).f0)) (fun _ hk => hk.2) (.bool (rd_T29 X ja).f1)) (fun _ hk => hk.2) (.slice AM2 (jb.toNat - jc.toNat) cM2)) (fun _ hk => hk.2) (.slice AE2 (X.length - jb.toNat) cE2)) (fun _ hk => ⟨hk.1.1.1.2, hk.1.1.2⟩), Kd.R_mono (Kd.R_far (p := ⟨g4, 4, none⟩) (Kd.R_far (p := ⟨g4, 3, none⟩) (Kd.R_far (p := ⟨g4, 2, none⟩) (Kd.R_far (p := ⟨g4, 1, none⟩) (Kd.R_far (p := ⟨g4, 0, none⟩) (Kd.R_far (p := ⟨g10, 4, none⟩) (Kd.R_types (Kd.R_types HOMc.out BK26.out (by decide)) B426.out (by decide)) (fun _ hk => hk.1.2) (.slice AE2 (X.length - jb.toNat) cE2)) (fun _ hk => hk.2) (.slice A38 ja.toNat c38)) (fun _ hk => hk.2) (.int .i64 (rd_T29 X ja).f0)) (fun _ hk => hk.2) (.bool (rd_T29 X ja).f1)) (fun _ hk => hk.2) (.slice AM2 (jb.toNat - jc.toNat) cM2)) (fun _ hk => hk.2) (.slice AE2 (X.length - jb.toNat) cE2)) (fun _ hk => ⟨hk.1.1.1.2, hk.1.1.2⟩), Kd.R_mono (Kd.R_far (p := ⟨g4, 4, none⟩) (Kd.R_far (p := ⟨g4, 3, none⟩) (Kd.R_far (p := ⟨g4, 2, none⟩) (Kd.R_far (p := ⟨g4, 1, none⟩) (Kd.R_far (p := ⟨g4, 0, none⟩) (Kd.R_far (p := ⟨g10, 4, none⟩) (Kd.R_types (Kd.R_types HOEc.out BK26.out (by decide)) B426.out (by decide)) (fun _ hk => hk.1.2) (.slice AE2 (X.length - jb.toNat) cE2)) (fun _ hk => hk.2) (.slice A38 ja.toNat c38)) (fun _ hk => hk.2) (.int .i64 (rd_T29 X ja).f0)) (fun _ hk => hk.2) (.bool (rd_T29 X ja).f1)) (fun _ hk => hk.2) (.slice AM2 (jb.toNat - jc.toNat) cM2)) (fun _ hk => hk.2) (.slice AE2 (X.length - jb.toNat) cE2)) (fun _ hk => ⟨hk.1.1.1.2, hk.1.1.2⟩), (below_set (below_set (below_set (below_set (below_set (below_set HB26.out GW.out) GE4.out) GE4.out) GE4.out) GE4.out) GE4.out)⟩

end Go.Proofs.YtpcohkffbjdmfaaDoor.Pure
namespace Go.Proofs.YtpcohkffbjdmfaaDoor.PFnExactPsalmMove
set_option linter.unusedVariables false
set_option linter.unusedSimpArgs false
open Go Go.RowKit Go.Proofs.YtpcohkffbjdmfaaDoor.Pure Go.Proofs.YtpcohkffbjdmfaaDoorW.PrintWords Go.Proofs.YtpcohkffbjdmfaaDoorW.PrintLast Go.Proofs.YtpcohkffbjdmfaaDoorW.PrintMore
def spec_PsalmMove.f (l0_0 : List S29) (a0_1 : Int) (a0_2 : Bool) (l0_3 : List S29) (l0_4 : List S29) (a1 : Int) : Option (List S29 × Int × Bool × List S29 × List S29 × Bool) := if l0_0.length ≤ 1000000000000 ∧ l0_3.length ≤ 1000000000000 ∧ l0_4.length ≤ 1000000000000 then some (psMv l0_0 ⟨a0_1, a0_2⟩ l0_3 l0_4 a1) else none
theorem spec_PsalmMove.calls (A0_0 : Option Addr) (c0_0 : Nat) (l0_0 : List S29) (a0_1 : Int) (a0_2 : Bool) (A0_3 : Option Addr) (c0_3 : Nat) (l0_3 : List S29) (A0_4 : Option Addr) (c0_4 : Nat) (l0_4 : List S29) (a1 : Int) (r1 : List S29) (r2 : Int) (r3 : Bool) (r4 : List S29) (r5 : List S29) (r6 : Bool) (w : World) (hr0_0 : Kd.C k29 w A0_0 l0_0.length l0_0) (hc0_0 : l0_0.length ≤ c0_0) (hr0_3 : Kd.C k29 w A0_3 l0_3.length l0_3) (hc0_3 : l0_3.length ≤ c0_3) (hr0_4 : Kd.C k29 w A0_4 l0_4.length l0_4) (hc0_4 : l0_4.length ≤ c0_4) (h : spec_PsalmMove.f l0_0 a0_1 a0_2 l0_3 l0_4 a1 = some (r1, r2, r3, r4, r5, r6)) :
 Calls Tryd.prog 10 #[.agg #[.slice A0_0 l0_0.length c0_0, .int .i64 a0_1, .bool a0_2, .slice A0_3 l0_3.length c0_3, .slice A0_4 l0_4.length c0_4], .int .i64 a1] w fun e w' => ∃ v0_ v3_ v4_ : Value, e = .returned (.tuple #[.agg #[v0_, .int .i64 r2, .bool r3, v3_, v4_], .bool r6]) ∧ Kd.R k29 29 w' w.heap.size (fun k_ => some k_ ≠ (v3_ : Value).ownBlock ∧ some k_ ≠ (v4_ : Value).ownBlock) v0_ r1 ∧ Kd.R k29 29 w' w.heap.size (fun k_ => some k_ ≠ (v0_ : Value).ownBlock ∧ some k_ ≠ (v4_ : Value).ownBlock) v3_ r4 ∧ Kd.R k29 29 w' w.heap.size (fun k_ => some k_ ≠ (v0_ : Value).ownBlock ∧ some k_ ≠ (v3_ : Value).ownBlock) v4_ r5 ∧ Below w.heap.size w w' := by
 unfold spec_PsalmMove.f at h; split at h
 ·
  rename_i hh
  injection h with h
  have := spec_PsalmMove_calls l0_0 ⟨a0_1, a0_2⟩ l0_3 l0_4 a1 A0_0 c0_0 A0_3 c0_3 A0_4 c0_4 w hr0_0 hc0_0 hr0_3 hc0_3 hr0_4 hc0_4 hh.1 hh.2.1 hh.2.2; rw [h] at this; exact this
 ·
  cases h

end Go.Proofs.YtpcohkffbjdmfaaDoor.PFnExactPsalmMove
namespace Go.Proofs.YtpcohkffbjdmfaaDoor.PFnExactPsalmMove
open Go.RowKit Go.Proofs.YtpcohkffbjdmfaaDoorW.PrintWords Go.Proofs.YtpcohkffbjdmfaaDoorW.PrintLast Go.Proofs.YtpcohkffbjdmfaaDoorW.PrintMore
attribute [local go_sem] max2_int min2_int max_two min_two max_three min_three max_four min_four   -- for this text's walks alone
set_option linter.unusedVariables false
set_option linter.unusedSimpArgs false

def laws_toTone.f (a0_0 : Int) (a0_1 : Bool) : Option (Int × Bool) := some (a0_0, a0_1)
set_option maxHeartbeats 8000000 in
set_option maxRecDepth 100000 in
theorem laws_toTone.calls (a0_0 : Int) (a0_1 : Bool) (r1 : Int) (r2 : Bool) (w : World) (h : laws_toTone.f a0_0 a0_1 = some (r1, r2)) :
 Calls Tryd.prog 47 #[.agg #[.int .i64 a0_0, .bool a0_1]] w fun e w' => e = .returned (.agg #[.int .i64 r1, .bool r2]) ∧ Below w.heap.size w w' := by
 have hu24 := Tryd.underlying24; have hu29 := Tryd.underlying29; have HB := Aside0.mk (Below.refl w.heap.size w); have H : (some (a0_0, a0_1)) = some (r1, r2) := h; clear h; simp only [Option.some.injEq, Prod.mk.injEq] at H; obtain ⟨rfl, rfl⟩ := H; go_enter Tryd.func47, Tryd.ntmps47
 go_wp2_with (first | ((with_reducible refine gate_dst (N := 1) rfl ?_); refine box_event ?hg (N := 1) ?hd (cs := #[.int .i64 a0_0, .bool a0_1]) (t := 24) ?hr ?_; (case hd => rfl); (case hg => rfl); (case hr => first | (go_simp; done) | (go_simp; rfl)); intro gb177 hg w2 hbox hb; have n0_ := Aside0.mk (below_step (by repeat (first | (with_reducible first | exact HB.out | apply below_alloc | apply pw_below_drewN | apply below_drew1) | exact HB.out)) hb); have n1_ := Aside0.mk (hbox); have n2_ := Aside0.mk ((by rw [hg]; exact (below_size (by repeat (first | (with_reducible first | exact HB.out | apply below_alloc | apply pw_below_drewN | apply below_drew1) | exact HB.out))) : w.heap.size ≤ gb177)); have n3_ := Aside0.mk ((by rw [hg]; exact (below_size (by repeat (first | (with_reducible first | exact HB.out | apply below_alloc | apply pw_below_drewN | apply below_drew1) | exact HB.out))) : w.heap.size ≤ gb177)); clear HB; have HB := n0_; have BK177 := n1_; have GW177 := n2_; have GE177 := n3_; clear n0_ n1_ n2_ n3_; clear hb hbox hg) | ((with_reducible refine gate_dst (N := 2) rfl ?_); refine box_event ?hg (N := 2) ?hd (cs := #[.int .i64 0, .bool false]) (t := 29) ?hr ?_; (case hd => rfl); (case hg => rfl); (case hr => first | (go_simp; done) | (go_simp; rfl)); intro gb178 hg w3 hbox hb; have n0_ := Aside0.mk (blk_below (g := gb177) (o := .cells #[.int .i64 a0_0, .bool a0_1] 24 (0, 0)) (by (with_reducible repeat (first | refine blk_drewN ?_ _ | refine blk_drew ?_ | refine blk_alloc ?_ _)); exact BK177.out) hb); have n1_ := Aside0.mk (below_step (by repeat (first | (with_reducible first | exact HB.out | apply below_alloc | apply pw_below_drewN | apply below_drew1 | refine below_set ?_ GE177.out) | exact HB.out)) hb); have n2_ := Aside0.mk (hbox); have n3_ := Aside0.mk ((by rw [hg]; exact (below_size (by repeat (first | (with_reducible first | exact HB.out | apply below_alloc | apply pw_below_drewN | apply below_drew1 | refine below_set ?_ GE177.out) | exact HB.out))) : w.heap.size ≤ gb178)); have n4_ := Aside0.mk ((by rw [hg]; exact (below_size (by repeat (first | (with_reducible first | exact HB.out | apply below_alloc | apply pw_below_drewN | apply below_drew1 | refine below_set ?_ GE177.out) | exact HB.out))) : w.heap.size ≤ gb178)); have n5_ := Aside0.mk ((by rw [hg]; exact Nat.ne_of_lt (blk_lt (g := gb177) (o := .cells #[.int .i64 a0_0, .bool a0_1] 24 (0, 0)) (by (with_reducible repeat (first | refine blk_drewN ?_ _ | refine blk_drew ?_ | refine blk_alloc ?_ _)); exact BK177.out)) : gb177 ≠ gb178)); have n6_ := Aside0.mk ((by rw [hg]; exact Nat.ne_of_gt (blk_lt (g := gb177) (o := .cells #[.int .i64 a0_0, .bool a0_1] 24 (0, 0)) (by (with_reducible repeat (first | refine blk_drewN ?_ _ | refine blk_drew ?_ | refine blk_alloc ?_ _)); exact BK177.out)) : gb178 ≠ gb177)); clear BK177; clear HB; have BK177 := n0_; have HB := n1_; have BK178 := n2_; have GW178 := n3_; have GE178 := n4_; have NB177_178 := n5_; have NB178_177 := n6_; clear n0_ n1_ n2_ n3_ n4_ n5_ n6_; clear hb hbox hg) | ((with_reducible refine gate_dst (N := 3) rfl ?_); refine box_event ?hg (N := 3) ?hd (cs := #[.int .i64 0, .bool false]) (t := 29) ?hr ?_; (case hd => rfl); (case hg => rfl); (case hr => first | (go_simp; done) | (go_simp; rfl)); intro gb179 hg w4 hbox hb; have n0_ := Aside0.mk (blk_below (g := gb177) (o := .cells #[.int .i64 a0_0, .bool a0_1] 24 (0, 0)) (by (with_reducible repeat (first | refine blk_drewN ?_ _ | refine blk_drew ?_ | refine blk_alloc ?_ _)); exact BK177.out) hb); have n1_ := Aside0.mk (blk_below (g := gb178) (o := .cells #[.int .i64 0, .bool false] 29 (0, 0)) (by (with_reducible repeat (first | refine blk_drewN ?_ _ | refine blk_drew ?_ | refine blk_alloc ?_ _)); exact BK178.out) hb); have n2_ := Aside0.mk (below_step (by repeat (first | (with_reducible first | exact HB.out | apply below_alloc | apply pw_below_drewN | apply below_drew1 | refine below_set ?_ GE177.out | refine below_set ?_ GE178.out) | exact HB.out)) hb); have n3_ := Aside0.mk (hbox); have n4_ := Aside0.mk ((by rw [hg]; exact (below_size (by repeat (first | (with_reducible first | exact HB.out | apply below_alloc | apply pw_below_drewN | apply below_drew1 | refine below_set ?_ GE177.out | refine below_set ?_ GE178.out) | exact HB.out))) : w.heap.size ≤ gb179)); have n5_ := Aside0.mk ((by rw [hg]; exact (below_size (by repeat (first | (with_reducible first | exact HB.out | apply below_alloc | apply pw_below_drewN | apply below_drew1 | refine below_set ?_ GE177.out | refine below_set ?_ GE178.out) | exact HB.out))) : w.heap.size ≤ gb179)); have n6_ := Aside0.mk ((by rw [hg]; exact Nat.ne_of_lt (blk_lt (g := gb177) (o := .cells #[.int .i64 a0_0, .bool a0_1] 24 (0, 0)) (by (with_reducible repeat (first | refine blk_drewN ?_ _ | refine blk_drew ?_ | refine blk_alloc ?_ _)); exact BK177.out)) : gb177 ≠ gb179)); have n7_ := Aside0.mk ((by rw [hg]; exact Nat.ne_of_gt (blk_lt (g := gb177) (o := .cells #[.int .i64 a0_0, .bool a0_1] 24 (0, 0)) (by (with_reducible repeat (first | refine blk_drewN ?_ _ | refine blk_drew ?_ | refine blk_alloc ?_ _)); exact BK177.out)) : gb179 ≠ gb177)); have n8_ := Aside0.mk ((by rw [hg]; exact Nat.ne_of_lt (blk_lt (g := gb178) (o := .cells #[.int .i64 0, .bool false] 29 (0, 0)) (by (with_reducible repeat (first | refine blk_drewN ?_ _ | refine blk_drew ?_ | refine blk_alloc ?_ _)); exact BK178.out)) : gb178 ≠ gb179)); have n9_ := Aside0.mk ((by rw [hg]; exact Nat.ne_of_gt (blk_lt (g := gb178) (o := .cells #[.int .i64 0, .bool false] 29 (0, 0)) (by (with_reducible repeat (first | refine blk_drewN ?_ _ | refine blk_drew ?_ | refine blk_alloc ?_ _)); exact BK178.out)) : gb179 ≠ gb178)); clear BK177; clear BK178; clear HB; have BK177 := n0_; have BK178 := n1_; have HB := n2_; have BK179 := n3_; have GW179 := n4_; have GE179 := n5_; have NB177_179 := n6_; have NB179_177 := n7_; have NB178_179 := n8_; have NB179_178 := n9_; clear n0_ n1_ n2_ n3_ n4_ n5_ n6_ n7_ n8_ n9_; clear hb hbox hg; have hnb5 := NB177_178.out; have hnc5 := NB178_177.out; have hnb6 := NB177_179.out; have hnc6 := NB179_177.out; have hcz7_0 : w4.cell? ⟨gb177, 0, none⟩ = some (.int .i64 a0_0) := (blk_cell BK177.out 0).trans rfl; have hcz7_1 : w4.cell? ⟨gb177, 1, none⟩ = some (.bool a0_1) := (blk_cell BK177.out 1).trans rfl; have hfz7_0 := blk_frozen BK177.out 0; have hfz7_1 := blk_frozen BK177.out 1; have hnb8 := NB179_178.out; have hnc8 := NB178_179.out; have hcz9_0 : w4.cell? ⟨gb179, 0, none⟩ = some (.int .i64 0) := (blk_cell BK179.out 0).trans rfl; have hcz9_1 : w4.cell? ⟨gb179, 1, none⟩ = some (.bool false) := (blk_cell BK179.out 1).trans rfl; have hfz9_0 := blk_frozen BK179.out 0; have hfz9_1 := blk_frozen BK179.out 1; have hcz10_0 : w4.cell? ⟨gb178, 0, none⟩ = some (.int .i64 0) := (blk_cell BK178.out 0).trans rfl; have hcz10_1 : w4.cell? ⟨gb178, 1, none⟩ = some (.bool false) := (blk_cell BK178.out 1).trans rfl; have hfz10_0 := blk_frozen BK178.out 0; have hfz10_1 := blk_frozen BK178.out 1))
 refine bodyPost_ret (results_cell_row rfl _ _ gb178 29 #[.int .i64 a0_0, .bool a0_1] (0, 0) _ rfl (by (with_reducible repeat (first | refine blk_drewN ?_ _ | refine blk_drew ?_ | refine blk_alloc ?_ _)); refine blk_put (cs := #[.int .i64 a0_0, .bool false]) ?_ 1 _ rfl; (with_reducible repeat (first | refine blk_drewN ?_ _ | refine blk_drew ?_ | refine blk_alloc ?_ _)); refine blk_put (cs := #[.int .i64 0, .bool false]) ?_ 0 _ rfl; (with_reducible repeat (first | refine blk_drewN ?_ _ | refine blk_drew ?_ | refine blk_alloc ?_ _)); refine blk_far ?_ NB178_179.out _; (with_reducible repeat (first | refine blk_drewN ?_ _ | refine blk_drew ?_ | refine blk_alloc ?_ _)); refine blk_far ?_ NB178_179.out _; (with_reducible repeat (first | refine blk_drewN ?_ _ | refine blk_drew ?_ | refine blk_alloc ?_ _)); exact BK178.out) Tryd.underlying29 rfl (by kernel_rfl)) rfl ?_; exact ⟨by first | rfl | (simp [errW_none, errW_some] <;> rfl) | (simp [*, errW_none, errW_some] <;> rfl), by repeat (first | (with_reducible first | exact HB.out | apply below_alloc | apply pw_below_drewN | apply below_drew1 | refine below_set ?_ GE177.out | refine below_set ?_ GE178.out | refine below_set ?_ GE179.out) | exact HB.out)⟩

end Go.Proofs.YtpcohkffbjdmfaaDoor.PFnExactPsalmMove
namespace Go.Proofs.YtpcohkffbjdmfaaDoor.PFnExactPsalmMove
open Go.RowKit Go.Proofs.YtpcohkffbjdmfaaDoorW.PrintWords Go.Proofs.YtpcohkffbjdmfaaDoorW.PrintLast Go.Proofs.YtpcohkffbjdmfaaDoorW.PrintMore
attribute [local go_sem] max2_int min2_int max_two min_two max_three min_three max_four min_four   -- for this text's walks alone
set_option linter.unusedVariables false
set_option linter.unusedSimpArgs false

def laws_toToneS.l0 : Nat → List (S24) → List (S29) → Int → Option ((List (S29)))
 | 0, _, _, _ => none
 | k + 1, x0, x3, x4 => if x4 < (x0.length : Int) then (if 0 ≤ x4 then ((laws_toTone.f ((rd_T24 x0 x4).f0) ((rd_T24 x0 x4).f1)).bind fun bt184 => (if x4 < (x3.length : Int) then (laws_toToneS.l0 k x0 (x3.set (x4 : Int).toNat (⟨bt184.1, bt184.2⟩ : S29)) (wrap64 (x4 + 1))) else (none))) else (none)) else (some x3)
def laws_toToneS.f (k : Nat) (l0 : List (S24)) : Option ((List (S29))) := if 0 ≤ (l0.length : Int) then (if ((l0.length : Int) : Int).toNat ≤ 17592186044416 then (laws_toToneS.l0 k l0 (List.replicate ((l0.length : Int) : Int).toNat z29) 0) else (none)) else (none)
set_option maxHeartbeats 8000000 in
set_option maxRecDepth 100000 in
theorem laws_toToneS.calls (k : Nat) (A0 : Option Addr) (c0 : Nat) (l0 : List (S24)) (r : List (S29)) (w : World) (hr0 : Kd.C k24 w A0 l0.length l0) (hc0 : l0.length ≤ c0) (h : laws_toToneS.f k l0 = some r) :
 Calls Tryd.prog 32 #[.slice A0 l0.length c0] w fun e w' => ∃ v0_ : Value, e = .returned (v0_) ∧ Kd.R k29 29 w' w.heap.size (fun _ => True) v0_ r ∧ Below w.heap.size w w' := by
 have hu24 := Tryd.underlying24; have hu29 := Tryd.underlying29; have HR0 := Aside0.mk hr0; have HC0 := Aside0.mk hc0; clear hr0 hc0; have HB := Aside0.mk (Below.refl w.heap.size w); have H : (if 0 ≤ (l0.length : Int) then (if ((l0.length : Int) : Int).toNat ≤ 17592186044416 then (laws_toToneS.l0 k l0 (List.replicate ((l0.length : Int) : Int).toNat z29) 0) else (none)) else (none)) = some r := h; clear h; by_cases c2 : 0 ≤ (l0.length : Int)
 ·
  rw [if_pos c2] at H; have c2b0 := eq_true c2; have c2b1 : decide (0 ≤ (l0.length : Int)) = true := decide_eq_true c2; clear c2; by_cases c3 : ((l0.length : Int) : Int).toNat ≤ 17592186044416
  ·
   rw [if_pos c3] at H; have c3b0 := eq_true c3; have c3b1 : decide (((l0.length : Int) : Int).toNat ≤ 17592186044416) = true := decide_eq_true c3; clear c3; obtain ⟨y180, hy180⟩ : ∃ y_ : List (S29), y_ = (List.replicate ((l0.length : Int) : Int).toNat z29) := ⟨_, rfl⟩
   replace H : (laws_toToneS.l0 k l0 y180 0) = some r := by first | (rw [hy180]; with_reducible exact H) | (have H2_ := (Option.bind_some _ _).symm.trans H; rw [hy180]; with_reducible exact H2_) | (have H2_ := (Option.bind_some _ _).symm.trans H; with_reducible exact H2_) | with_reducible exact H | (rw [hy180]; exact H) | exact H
   have Ny180 := Aside0.mk hy180; clear hy180; have H' := Aside0.mk H; clear H; go_enter Tryd.func32, Tryd.ntmps32
   go_wp2_with (first | ((with_reducible refine gate_dst (N := 7) rfl ?_); refine Kd.R_make k29 _ 29 rfl (N := 7) rfl 28 _ _ rfl (l0.length : Int) rfl rfl Tryd.underlying28 (.agg #[(.int .i64 0), (.bool false)]) 16 info29 rfl (by decide) (by omega) z29 (ok := fun _ => True) (okp := fun _ => True) (k29_mkM _ _ _ z29 ) (fun _ hk => hk) trivial (of_decide_eq_true (by first | (with_reducible assumption) | assumption)) (Nat.le_trans (Nat.mul_le_mul_right _ (of_decide_eq_true (by first | (with_reducible assumption) | assumption) : (l0.length : Int).toNat ≤ 17592186044416)) (by omega)) (Below.refl _ _) (Nat.le_refl _) ?_; intro v181 w4 ho5 hb hg_ hnew_; clear hg_ hnew_; (first | rw [← Ny180.out] at ho5 | (simp only [Int.reduceToNat] at ho5; rw [← Ny180.out] at ho5)); have n0_ := Aside0.mk (Kd.R_lower ho5 (below_size (by repeat (first | (with_reducible first | exact HB.out | apply below_alloc | apply pw_below_drewN | apply below_drew1) | exact HB.out)))); have n1_ := Aside0.mk (below_step (by repeat (first | (with_reducible first | exact HB.out | apply below_alloc | apply pw_below_drewN | apply below_drew1) | exact HB.out)) hb); clear HB; have HO182 := n0_; have HB := n1_; clear n0_ n1_; clear hb ho5))
   go_loopg [4] k (fun kq v4 w' => ∃ (x3_1 : List (S29)) (x4_1 : Int), v4 = .int .i64 x4_1 ∧ Aside0 (laws_toToneS.l0 kq l0 x3_1 x4_1 = some r) ∧ Aside0 (kq ≤ k) ∧ Aside0 (Kd.R k29 29 w' w.heap.size (fun _ => True) v181 x3_1) ∧ Aside0 (Below w.heap.size w w'))
   case atStart => exact ⟨(y180), (0), (by first | rfl | (simp; done) | (simp [*]; done)), H', ⟨Nat.le_refl _⟩, ⟨by (with_reducible repeat (first | apply Kd.R_alloc | apply Kd.R_drewN | apply Kd.R_drew)); exact HO182.out⟩, ⟨by repeat (first | (with_reducible first | exact HB.out | apply below_alloc | apply pw_below_drewN | apply below_drew1) | exact HB.out)⟩⟩
   case round =>
    clear H'; try clear c2
    try clear c2b0
    try clear c2b1
    try clear p2
    try clear c3
    try clear c3b0
    try clear c3b1
    obtain ⟨x3_1, x4_1, rfl, HA, HK1, HO_3, HB⟩ := hrel; cases gk with
    | zero => exact absurd HA.out (by simp [laws_toToneS.l0])
    | succ k1 =>
     have H := HA.out; clear HA; simp only [laws_toToneS.l0] at H; by_cases c6 : x4_1 < (l0.length : Int)
     ·
      rw [if_pos c6] at H; have c6b0 : decide (x4_1 < (l0.length : Int)) = true := decide_eq_true c6; clear c6; by_cases c7 : 0 ≤ x4_1
      ·
       rw [if_pos c7] at H; have c7b0 : decide (0 ≤ x4_1) = true := decide_eq_true c7; clear c7; replace H := Option.bind_eq_some_iff.mp H; obtain ⟨⟨t184, t185⟩, A80, H⟩ := H; replace H : (if x4_1 < (x3_1.length : Int) then (laws_toToneS.l0 k1 l0 (x3_1.set (x4_1 : Int).toNat (⟨t184, t185⟩ : S29)) (wrap64 (x4_1 + 1))) else (none)) = some r := H; have A8 := Aside0.mk A80; clear A80; by_cases c9 : x4_1 < (x3_1.length : Int)
       ·
        rw [if_pos c9] at H; have c9b0 : decide (x4_1 < (x3_1.length : Int)) = true := decide_eq_true c9; clear c9; obtain ⟨y186, hy186⟩ : ∃ y_ : List (S29), y_ = (x3_1.set (x4_1 : Int).toNat (⟨t184, t185⟩ : S29)) := ⟨_, rfl⟩
        replace H : (laws_toToneS.l0 k1 l0 y186 (wrap64 (x4_1 + 1))) = some r := by first | (rw [hy186]; with_reducible exact H) | (have H2_ := (Option.bind_some _ _).symm.trans H; rw [hy186]; with_reducible exact H2_) | (have H2_ := (Option.bind_some _ _).symm.trans H; with_reducible exact H2_) | with_reducible exact H | (rw [hy186]; exact H) | exact H
        have Ny186 := Aside0.mk hy186; clear hy186; have H' := Aside0.mk H; clear H; have p183 : 0 ≤ (x4_1 : Int) := of_decide_eq_true (by first | (with_reducible assumption) | assumption); have q183 : x4_1 < (l0.length : Int) := of_decide_eq_true (by first | (with_reducible assumption) | assumption); obtain ⟨ad183, e183, hx183_0, hx183_1⟩ := at_T24 HR0.out x4_1 p183 q183; cases e183; replace hx183_0 := (HB.out.cell (World.block_lt_of_cell? w _ hx183_0)).trans hx183_0; replace hx183_1 := (HB.out.cell (World.block_lt_of_cell? w _ hx183_1)).trans hx183_1; replace p183 := eq_true p183; replace q183 := eq_true q183; go_wp2_with (first | ((with_reducible refine gate_callee (f := 47) rfl ?_); refine goesL_ (some 20) rfl rfl Tryd.func47 (by kernel_rfl) rfl #[.agg #[.int .i64 ((rd_T24 l0 x4_1).f0), .bool ((rd_T24 l0 x4_1).f1)]] rfl (by (try simp only [List.map_toArray, List.map_cons, List.map_nil]); first | done | rfl | (simp only [List.length_drop, List.length_take]; rfl)) ?_; (with_reducible refine (laws_toTone.calls ((rd_T24 l0 x4_1).f0) ((rd_T24 l0 x4_1).f1) t184 t185 _ A8.out).mono ?_); rintro e w11 ⟨rfl, hb⟩; refine ⟨_, rfl, ?_⟩; have n0_ := Aside0.mk (Kd.R_below (by (with_reducible repeat (first | apply Kd.R_alloc | apply Kd.R_drewN | apply Kd.R_drew)); exact HO_3.out) hb); have n1_ := Aside0.mk (below_step (by repeat (first | (with_reducible first | exact HB.out | apply below_alloc | apply pw_below_drewN | apply below_drew1) | exact HB.out)) hb); clear HO_3; clear HB; have HO_3 := n0_; have HB := n1_; clear n0_ n1_; (try clear hb); (try clear hb2); (try clear hk); (try clear hi); have p10 : 0 ≤ (x4_1 : Int) := of_decide_eq_true (by first | (with_reducible assumption) | assumption); have q10 : (x4_1 : Int) < ((x3_1.length : Int) : Int) := of_decide_eq_true (by first | (with_reducible assumption) | assumption); obtain ⟨go10, co10, eo10, gb10, gl10, cl10, HG10⟩ := Kd.R_form HO_3.out (by omega); (first | cases eo10 | (injection eo10 with ea_ en_ ec_; (first | subst ea_ | (injection ea_ with ea_; subst ea_)); subst ec_; clear en_)); have GB10 := Aside0.mk gb10; have GG10 := Aside0.mk HG10; clear gb10 gl10 HG10; obtain ⟨ce10, hcl10, hM10, hcc10, hfr10⟩ := Kd.R_elem HO_3.out z29 (x4_1 : Int) p10 q10; obtain rfl := k29_openM hM10; have hx10_0 : w11.cell? ⟨go10, (x4_1 : Int).toNat * 2, none⟩ = some (.int .i64 ((rd_T29 x3_1 x4_1).f0)) := hcc10 0 _ rfl; have hx10_1 : w11.cell? ⟨go10, (x4_1 : Int).toNat * 2 + 1, none⟩ = some (.bool ((rd_T29 x3_1 x4_1).f1)) := hcc10 1 _ rfl; have hf10_0 : w11.frozen? ⟨go10, (x4_1 : Int).toNat * 2, none⟩ = false := hfr10 0; have hf10_1 : w11.frozen? ⟨go10, (x4_1 : Int).toNat * 2 + 1, none⟩ = false := hfr10 1; clear hcl10 hcc10 hfr10 hM10; replace p10 := eq_true p10; replace q10 := eq_true q10; have HX12 := Aside0.mk (show Kd.R k29 29 w11 w.heap.size (fun _ => True) (.slice (some ⟨go10, 0, none⟩) x3_1.length co10) x3_1 from (by (with_reducible repeat (first | apply Kd.R_alloc | apply Kd.R_drewN | apply Kd.R_drew)); exact HO_3.out)); obtain ⟨ce12, hcl12, hM12, hcc12, hfr12⟩ := Kd.R_elem HX12.out z29 (x4_1 : Int) (of_decide_eq_true (by first | (with_reducible assumption) | assumption)) (by have h_ : (x4_1 : Int) < ((x3_1.length : Int) : Int) := of_decide_eq_true (by first | (with_reducible assumption) | assumption); first | exact h_ | (have e_ := (Kd.R_reads' HO_3.out).1; omega) | simpa using h_); obtain rfl := k29_openM hM12; have HP12 := Kd.R_seg HX12.out (x4_1 : Int) (of_decide_eq_true (by first | (with_reducible assumption) | assumption)) (by have h_ : (x4_1 : Int) < ((x3_1.length : Int) : Int) := of_decide_eq_true (by first | (with_reducible assumption) | assumption); first | exact h_ | (have e_ := (Kd.R_reads' HO_3.out).1; omega) | simpa using h_) (seg := [.int .i64 t184, .bool t185]) (j := 0) hcl12 hcc12 (show 2 ≤ 2 from by decide) (x' := (⟨t184, t185⟩ : S29)) (k29_mkM _ _ _ (⟨t184, t185⟩ : S29) ) (fun _ hk => hk); have hx12_0 := hcc12 0 _ rfl; (try simp only [show (k29).sz = 2 from rfl, Nat.mul_one, Nat.add_zero] at hx12_0); have hf12_0 := hfr12 0; (try simp only [show (k29).sz = 2 from rfl, Nat.mul_one, Nat.add_zero] at hf12_0); have hx12_1 := hcc12 1 _ rfl; (try simp only [show (k29).sz = 2 from rfl, Nat.mul_one, Nat.add_zero] at hx12_1); have hf12_1 := hfr12 1; (try simp only [show (k29).sz = 2 from rfl, Nat.mul_one, Nat.add_zero] at hf12_1); clear hcl12 hcc12 hfr12 hM12) | ((with_reducible refine gate_store (t := 29) (p := 21) rfl ?_); refine store_event (t := 29) (p := 21) (v := ?vo_w13) (w1 := ((w11.setCell ⟨go10, (x4_1 : Int).toNat * 2, none⟩ (.int .i64 t184)).setCell ⟨go10, (x4_1 : Int).toNat * 2 + 1, none⟩ (.bool t185))) ?hg ?ho ?hn ?hr ?_; (case ho => rfl); (case hg => rfl); (case hn => rfl); (case hr => first | (go_simp; done) | (go_simp; rfl)); intro w13 hw; have hg : w11.grownBy w13 (some go10) := (by rw [hw]; exact HP12.2); have hp_ : Kd.R k29 29 w13 w.heap.size (fun _ => True) (.slice (some ⟨go10, 0, none⟩) x3_1.length co10) y186 := (by rw [hw, Ny186.out]; exact HP12.1); clear HP12; have n0_ := Aside0.mk (hp_); have n1_ := Aside0.mk ((by rw [hw]; exact below_set (below_set (HB.out) GB10.out) GB10.out : Below w.heap.size w w13)); clear HO_3; clear HB; have HO_3 := n0_; have HB := n1_; clear n0_ n1_; clear hg hw hp_))
        go_roundg k1
        case measure => have := HK1.out; omega
        case rel => exact ⟨(y186), (wrap64 (x4_1 + 1)), (by first | rfl | (simp; done) | (simp [*]; done)), H', ⟨by have := HK1.out; omega⟩, ⟨by (with_reducible repeat (first | apply Kd.R_alloc | apply Kd.R_drewN | apply Kd.R_drew)); exact HO_3.out⟩, ⟨by repeat (first | (with_reducible first | exact HB.out | apply below_alloc | apply pw_below_drewN | apply below_drew1) | exact HB.out)⟩⟩
       ·
        rw [if_neg c9] at H; exact absurd H (by simp)
      ·
       rw [if_neg c7] at H; exact absurd H (by simp)
     ·
      rw [if_neg c6] at H; have c6b0 : decide (x4_1 < (l0.length : Int)) = false := decide_eq_false c6; clear c6; obtain rfl := Option.some.inj H; go_wp2; go_ret
      exact ⟨_, by first | rfl | (simp [errW_none, errW_some] <;> rfl) | (simp [*, errW_none, errW_some] <;> rfl), by (with_reducible repeat (first | apply Kd.R_alloc | apply Kd.R_drewN | apply Kd.R_drew)); exact HO_3.out, by repeat (first | (with_reducible first | exact HB.out | apply below_alloc | apply pw_below_drewN | apply below_drew1) | exact HB.out)⟩
  ·
   rw [if_neg c3] at H; exact absurd H (by simp)
 ·
  rw [if_neg c2] at H; exact absurd H (by simp)

end Go.Proofs.YtpcohkffbjdmfaaDoor.PFnExactPsalmMove
namespace Go.Proofs.YtpcohkffbjdmfaaDoor.PFnExactPsalmMove
open Go.RowKit Go.Proofs.YtpcohkffbjdmfaaDoorW.PrintWords Go.Proofs.YtpcohkffbjdmfaaDoorW.PrintLast Go.Proofs.YtpcohkffbjdmfaaDoorW.PrintMore
attribute [local go_sem] max2_int min2_int max_two min_two max_three min_three max_four min_four   -- for this text's walks alone
set_option linter.unusedVariables false
set_option linter.unusedSimpArgs false

def laws_toPsalm.f (k : Nat) (l0_0 : List (S24)) (a0_1 : Int) (a0_2 : Bool) (l0_3 : List (S24)) (l0_4 : List (S24)) : Option ((List (S29)) × Int × Bool × (List (S29)) × (List (S29))) := (laws_toToneS.f k l0_0).bind fun t190 => ((laws_toTone.f a0_1 a0_2).bind fun bt193 => ((laws_toToneS.f k l0_3).bind fun t195 => ((laws_toToneS.f k l0_4).bind fun t198 => (some (t190, bt193.1, bt193.2, t195, t198)))))
set_option maxHeartbeats 8000000 in
set_option maxRecDepth 100000 in
theorem laws_toPsalm.calls (k : Nat) (A0_0 : Option Addr) (c0_0 : Nat) (l0_0 : List (S24)) (a0_1 : Int) (a0_2 : Bool) (A0_3 : Option Addr) (c0_3 : Nat) (l0_3 : List (S24)) (A0_4 : Option Addr) (c0_4 : Nat) (l0_4 : List (S24)) (r1 : List (S29)) (r2 : Int) (r3 : Bool) (r4 : List (S29)) (r5 : List (S29)) (w : World) (hr0_0 : Kd.C k24 w A0_0 l0_0.length l0_0) (hc0_0 : l0_0.length ≤ c0_0) (hr0_3 : Kd.C k24 w A0_3 l0_3.length l0_3) (hc0_3 : l0_3.length ≤ c0_3) (hr0_4 : Kd.C k24 w A0_4 l0_4.length l0_4) (hc0_4 : l0_4.length ≤ c0_4) (h : laws_toPsalm.f k l0_0 a0_1 a0_2 l0_3 l0_4 = some (r1, r2, r3, r4, r5)) :
 Calls Tryd.prog 11 #[.agg #[.slice A0_0 l0_0.length c0_0, .int .i64 a0_1, .bool a0_2, .slice A0_3 l0_3.length c0_3, .slice A0_4 l0_4.length c0_4]] w fun e w' => ∃ v0_ v3_ v4_ : Value, e = .returned (.agg #[v0_, .int .i64 r2, .bool r3, v3_, v4_]) ∧ Kd.R k29 29 w' w.heap.size (fun k_ => some k_ ≠ (v3_ : Value).ownBlock ∧ some k_ ≠ (v4_ : Value).ownBlock) v0_ r1 ∧ Kd.R k29 29 w' w.heap.size (fun k_ => some k_ ≠ (v0_ : Value).ownBlock ∧ some k_ ≠ (v4_ : Value).ownBlock) v3_ r4 ∧ Kd.R k29 29 w' w.heap.size (fun k_ => some k_ ≠ (v0_ : Value).ownBlock ∧ some k_ ≠ (v3_ : Value).ownBlock) v4_ r5 ∧ Below w.heap.size w w' := by
 have hu26 := Tryd.underlying26; have hu31 := Tryd.underlying31; have hu24 := Tryd.underlying24; have hu29 := Tryd.underlying29; have HR0_0 := Aside0.mk hr0_0; have HC0_0 := Aside0.mk hc0_0; clear hr0_0 hc0_0; have HR0_3 := Aside0.mk hr0_3; have HC0_3 := Aside0.mk hc0_3; clear hr0_3 hc0_3; have HR0_4 := Aside0.mk hr0_4; have HC0_4 := Aside0.mk hc0_4; clear hr0_4 hc0_4; have HB := Aside0.mk (Below.refl w.heap.size w); have H : ((laws_toToneS.f k l0_0).bind fun t190 => ((laws_toTone.f a0_1 a0_2).bind fun bt193 => ((laws_toToneS.f k l0_3).bind fun t195 => ((laws_toToneS.f k l0_4).bind fun t198 => (some (t190, bt193.1, bt193.2, t195, t198)))))) = some (r1, r2, r3, r4, r5) := h; clear h; replace H := Option.bind_eq_some_iff.mp H; obtain ⟨t190, A20, H⟩ := H; replace H : ((laws_toTone.f a0_1 a0_2).bind fun bt193 => ((laws_toToneS.f k l0_3).bind fun t195 => ((laws_toToneS.f k l0_4).bind fun t198 => (some (t190, bt193.1, bt193.2, t195, t198))))) = some (r1, r2, r3, r4, r5) := H; have A2 := Aside0.mk A20; clear A20; replace H := Option.bind_eq_some_iff.mp H; obtain ⟨⟨t193, t194⟩, A30, H⟩ := H; replace H : ((laws_toToneS.f k l0_3).bind fun t195 => ((laws_toToneS.f k l0_4).bind fun t198 => (some (t190, t193, t194, t195, t198)))) = some (r1, r2, r3, r4, r5) := H; have A3 := Aside0.mk A30; clear A30; replace H := Option.bind_eq_some_iff.mp H; obtain ⟨t195, A40, H⟩ := H; replace H : ((laws_toToneS.f k l0_4).bind fun t198 => (some (t190, t193, t194, t195, t198))) = some (r1, r2, r3, r4, r5) := H; have A4 := Aside0.mk A40; clear A40; replace H := Option.bind_eq_some_iff.mp H; obtain ⟨t198, A50, H⟩ := H; replace H : (some (t190, t193, t194, t195, t198)) = some (r1, r2, r3, r4, r5) := H; have A5 := Aside0.mk A50; clear A50; simp only [Option.some.injEq, Prod.mk.injEq] at H; obtain ⟨rfl, rfl, rfl, rfl, rfl⟩ := H; go_enter Tryd.func11, Tryd.ntmps11
 go_wp2_with (first | ((with_reducible refine gate_dst (N := 1) rfl ?_); refine box_event ?hg (N := 1) ?hd (cs := #[.slice A0_0 l0_0.length c0_0, .int .i64 a0_1, .bool a0_2, .slice A0_3 l0_3.length c0_3, .slice A0_4 l0_4.length c0_4]) (t := 26) ?hr ?_; (case hd => rfl); (case hg => rfl); (case hr => first | (go_simp; done) | (go_simp; rfl)); intro gb187 hg w6 hbox hb; have n0_ := Aside0.mk (below_step (by repeat (first | (with_reducible first | exact HB.out | apply below_alloc | apply pw_below_drewN | apply below_drew1) | exact HB.out)) hb); have n1_ := Aside0.mk (hbox); have n2_ := Aside0.mk ((by rw [hg]; exact (below_size (by repeat (first | (with_reducible first | exact HB.out | apply below_alloc | apply pw_below_drewN | apply below_drew1) | exact HB.out))) : w.heap.size ≤ gb187)); have n3_ := Aside0.mk ((by rw [hg]; exact (below_size (by repeat (first | (with_reducible first | exact HB.out | apply below_alloc | apply pw_below_drewN | apply below_drew1) | exact HB.out))) : w.heap.size ≤ gb187)); clear HB; have HB := n0_; have BK187 := n1_; have GW187 := n2_; have GE187 := n3_; clear n0_ n1_ n2_ n3_; clear hb hbox hg) | ((with_reducible refine gate_dst (N := 2) rfl ?_); refine box_event ?hg (N := 2) ?hd (cs := #[.slice none 0 0, .int .i64 0, .bool false, .slice none 0 0, .slice none 0 0]) (t := 31) ?hr ?_; (case hd => rfl); (case hg => rfl); (case hr => first | (go_simp; done) | (go_simp; rfl)); intro gb188 hg w7 hbox hb; have n0_ := Aside0.mk (blk_below (g := gb187) (o := .cells #[.slice A0_0 l0_0.length c0_0, .int .i64 a0_1, .bool a0_2, .slice A0_3 l0_3.length c0_3, .slice A0_4 l0_4.length c0_4] 26 (0, 0)) (by (with_reducible repeat (first | refine blk_drewN ?_ _ | refine blk_drew ?_ | refine blk_alloc ?_ _)); exact BK187.out) hb); have n1_ := Aside0.mk (below_step (by repeat (first | (with_reducible first | exact HB.out | apply below_alloc | apply pw_below_drewN | apply below_drew1 | refine below_set ?_ GE187.out) | exact HB.out)) hb); have n2_ := Aside0.mk (hbox); have n3_ := Aside0.mk ((by rw [hg]; exact (below_size (by repeat (first | (with_reducible first | exact HB.out | apply below_alloc | apply pw_below_drewN | apply below_drew1 | refine below_set ?_ GE187.out) | exact HB.out))) : w.heap.size ≤ gb188)); have n4_ := Aside0.mk ((by rw [hg]; exact (below_size (by repeat (first | (with_reducible first | exact HB.out | apply below_alloc | apply pw_below_drewN | apply below_drew1 | refine below_set ?_ GE187.out) | exact HB.out))) : w.heap.size ≤ gb188)); have n5_ := Aside0.mk ((by rw [hg]; exact Nat.ne_of_lt (blk_lt (g := gb187) (o := .cells #[.slice A0_0 l0_0.length c0_0, .int .i64 a0_1, .bool a0_2, .slice A0_3 l0_3.length c0_3, .slice A0_4 l0_4.length c0_4] 26 (0, 0)) (by (with_reducible repeat (first | refine blk_drewN ?_ _ | refine blk_drew ?_ | refine blk_alloc ?_ _)); exact BK187.out)) : gb187 ≠ gb188)); have n6_ := Aside0.mk ((by rw [hg]; exact Nat.ne_of_gt (blk_lt (g := gb187) (o := .cells #[.slice A0_0 l0_0.length c0_0, .int .i64 a0_1, .bool a0_2, .slice A0_3 l0_3.length c0_3, .slice A0_4 l0_4.length c0_4] 26 (0, 0)) (by (with_reducible repeat (first | refine blk_drewN ?_ _ | refine blk_drew ?_ | refine blk_alloc ?_ _)); exact BK187.out)) : gb188 ≠ gb187)); clear BK187; clear HB; have BK187 := n0_; have HB := n1_; have BK188 := n2_; have GW188 := n3_; have GE188 := n4_; have NB187_188 := n5_; have NB188_187 := n6_; clear n0_ n1_ n2_ n3_ n4_ n5_ n6_; clear hb hbox hg) | ((with_reducible refine gate_dst (N := 3) rfl ?_); refine box_event ?hg (N := 3) ?hd (cs := #[.slice none 0 0, .int .i64 0, .bool false, .slice none 0 0, .slice none 0 0]) (t := 31) ?hr ?_; (case hd => rfl); (case hg => rfl); (case hr => first | (go_simp; done) | (go_simp; rfl)); intro gb189 hg w8 hbox hb; have n0_ := Aside0.mk (blk_below (g := gb187) (o := .cells #[.slice A0_0 l0_0.length c0_0, .int .i64 a0_1, .bool a0_2, .slice A0_3 l0_3.length c0_3, .slice A0_4 l0_4.length c0_4] 26 (0, 0)) (by (with_reducible repeat (first | refine blk_drewN ?_ _ | refine blk_drew ?_ | refine blk_alloc ?_ _)); exact BK187.out) hb); have n1_ := Aside0.mk (blk_below (g := gb188) (o := .cells #[.slice none 0 0, .int .i64 0, .bool false, .slice none 0 0, .slice none 0 0] 31 (0, 0)) (by (with_reducible repeat (first | refine blk_drewN ?_ _ | refine blk_drew ?_ | refine blk_alloc ?_ _)); exact BK188.out) hb); have n2_ := Aside0.mk (below_step (by repeat (first | (with_reducible first | exact HB.out | apply below_alloc | apply pw_below_drewN | apply below_drew1 | refine below_set ?_ GE187.out | refine below_set ?_ GE188.out) | exact HB.out)) hb); have n3_ := Aside0.mk (hbox); have n4_ := Aside0.mk ((by rw [hg]; exact (below_size (by repeat (first | (with_reducible first | exact HB.out | apply below_alloc | apply pw_below_drewN | apply below_drew1 | refine below_set ?_ GE187.out | refine below_set ?_ GE188.out) | exact HB.out))) : w.heap.size ≤ gb189)); have n5_ := Aside0.mk ((by rw [hg]; exact (below_size (by repeat (first | (with_reducible first | exact HB.out | apply below_alloc | apply pw_below_drewN | apply below_drew1 | refine below_set ?_ GE187.out | refine below_set ?_ GE188.out) | exact HB.out))) : w.heap.size ≤ gb189)); have n6_ := Aside0.mk ((by rw [hg]; exact Nat.ne_of_lt (blk_lt (g := gb187) (o := .cells #[.slice A0_0 l0_0.length c0_0, .int .i64 a0_1, .bool a0_2, .slice A0_3 l0_3.length c0_3, .slice A0_4 l0_4.length c0_4] 26 (0, 0)) (by (with_reducible repeat (first | refine blk_drewN ?_ _ | refine blk_drew ?_ | refine blk_alloc ?_ _)); exact BK187.out)) : gb187 ≠ gb189)); have n7_ := Aside0.mk ((by rw [hg]; exact Nat.ne_of_gt (blk_lt (g := gb187) (o := .cells #[.slice A0_0 l0_0.length c0_0, .int .i64 a0_1, .bool a0_2, .slice A0_3 l0_3.length c0_3, .slice A0_4 l0_4.length c0_4] 26 (0, 0)) (by (with_reducible repeat (first | refine blk_drewN ?_ _ | refine blk_drew ?_ | refine blk_alloc ?_ _)); exact BK187.out)) : gb189 ≠ gb187)); have n8_ := Aside0.mk ((by rw [hg]; exact Nat.ne_of_lt (blk_lt (g := gb188) (o := .cells #[.slice none 0 0, .int .i64 0, .bool false, .slice none 0 0, .slice none 0 0] 31 (0, 0)) (by (with_reducible repeat (first | refine blk_drewN ?_ _ | refine blk_drew ?_ | refine blk_alloc ?_ _)); exact BK188.out)) : gb188 ≠ gb189)); have n9_ := Aside0.mk ((by rw [hg]; exact Nat.ne_of_gt (blk_lt (g := gb188) (o := .cells #[.slice none 0 0, .int .i64 0, .bool false, .slice none 0 0, .slice none 0 0] 31 (0, 0)) (by (with_reducible repeat (first | refine blk_drewN ?_ _ | refine blk_drew ?_ | refine blk_alloc ?_ _)); exact BK188.out)) : gb189 ≠ gb188)); clear BK187; clear BK188; clear HB; have BK187 := n0_; have BK188 := n1_; have HB := n2_; have BK189 := n3_; have GW189 := n4_; have GE189 := n5_; have NB187_189 := n6_; have NB189_187 := n7_; have NB188_189 := n8_; have NB189_188 := n9_; clear n0_ n1_ n2_ n3_ n4_ n5_ n6_ n7_ n8_ n9_; clear hb hbox hg; have hnb9 := NB187_188.out; have hnc9 := NB188_187.out; have hnb10 := NB187_189.out; have hnc10 := NB189_187.out; have hcz11_0 : w8.cell? ⟨gb187, 0, none⟩ = some (.slice A0_0 l0_0.length c0_0) := (blk_cell BK187.out 0).trans rfl; have hcz11_1 : w8.cell? ⟨gb187, 1, none⟩ = some (.int .i64 a0_1) := (blk_cell BK187.out 1).trans rfl; have hcz11_2 : w8.cell? ⟨gb187, 2, none⟩ = some (.bool a0_2) := (blk_cell BK187.out 2).trans rfl; have hcz11_3 : w8.cell? ⟨gb187, 3, none⟩ = some (.slice A0_3 l0_3.length c0_3) := (blk_cell BK187.out 3).trans rfl; have hcz11_4 : w8.cell? ⟨gb187, 4, none⟩ = some (.slice A0_4 l0_4.length c0_4) := (blk_cell BK187.out 4).trans rfl; have hfz11_0 := blk_frozen BK187.out 0; have hfz11_1 := blk_frozen BK187.out 1; have hfz11_2 := blk_frozen BK187.out 2; have hfz11_3 := blk_frozen BK187.out 3; have hfz11_4 := blk_frozen BK187.out 4) | ((with_reducible refine gate_callee (f := 32) rfl ?_); refine goesL_ (some 6) rfl rfl Tryd.func32 (by kernel_rfl) rfl #[.slice A0_0 l0_0.length c0_0] rfl (by (try simp only [List.map_toArray, List.map_cons, List.map_nil]); first | done | rfl | (simp only [List.length_drop, List.length_take]; rfl)) ?_; (with_reducible refine (laws_toToneS.calls k _ _ l0_0 t190 _ ?side1 ?side2 A2.out).mono ?_); (case side1 => repeat (first | exact (Kd.C_below HR0_0.out HB.out) | (with_reducible refine Kd.C_alloc ?_ _) | (with_reducible refine Kd.C_drewN ?_ _) | (with_reducible refine Kd.C_drew ?_))); (case side2 => exact HC0_0.out); rintro e w12 ⟨v191, rfl, ho0, hb⟩; refine ⟨_, rfl, ?_⟩; have n0_ := Aside0.mk (Kd.R_lower ho0 (below_size (by repeat (first | (with_reducible first | exact HB.out | apply below_alloc | apply pw_below_drewN | apply below_drew1 | refine below_set ?_ GE187.out | refine below_set ?_ GE188.out | refine below_set ?_ GE189.out) | exact HB.out)))); have n1_ := Aside0.mk (blk_below (g := gb187) (o := .cells #[.slice A0_0 l0_0.length c0_0, .int .i64 a0_1, .bool a0_2, .slice A0_3 l0_3.length c0_3, .slice A0_4 l0_4.length c0_4] 26 (0, 0)) (by (with_reducible repeat (first | refine blk_drewN ?_ _ | refine blk_drew ?_ | refine blk_alloc ?_ _)); exact BK187.out) hb); have n2_ := Aside0.mk (blk_below (g := gb188) (o := .cells #[.slice none 0 0, .int .i64 0, .bool false, .slice none 0 0, .slice none 0 0] 31 (0, 0)) (by (with_reducible repeat (first | refine blk_drewN ?_ _ | refine blk_drew ?_ | refine blk_alloc ?_ _)); exact BK188.out) hb); have n3_ := Aside0.mk (blk_below (g := gb189) (o := .cells #[.slice none 0 0, .int .i64 0, .bool false, .slice none 0 0, .slice none 0 0] 31 (0, 0)) (by (with_reducible repeat (first | refine blk_drewN ?_ _ | refine blk_drew ?_ | refine blk_alloc ?_ _)); exact BK189.out) hb); have n4_ := Aside0.mk (below_step (by repeat (first | (with_reducible first | exact HB.out | apply below_alloc | apply pw_below_drewN | apply below_drew1 | refine below_set ?_ GE187.out | refine below_set ?_ GE188.out | refine below_set ?_ GE189.out) | exact HB.out)) hb); clear BK187; clear BK188; clear BK189; clear HB; have HO192 := n0_; have BK187 := n1_; have BK188 := n2_; have BK189 := n3_; have HB := n4_; clear n0_ n1_ n2_ n3_ n4_; (try clear hb); (try clear hb2); (try clear hk); (try clear hi); (try clear ho0); obtain ⟨Ao13, co13, eo13⟩ := Kd.R_slice HO192.out; subst eo13; have hnb14 := NB189_188.out; have hnc14 := NB188_189.out; have hcz15_0 : w12.cell? ⟨gb189, 0, none⟩ = some (.slice none 0 0) := (blk_cell BK189.out 0).trans rfl; have hcz15_1 : w12.cell? ⟨gb189, 1, none⟩ = some (.int .i64 0) := (blk_cell BK189.out 1).trans rfl; have hcz15_2 : w12.cell? ⟨gb189, 2, none⟩ = some (.bool false) := (blk_cell BK189.out 2).trans rfl; have hcz15_3 : w12.cell? ⟨gb189, 3, none⟩ = some (.slice none 0 0) := (blk_cell BK189.out 3).trans rfl; have hcz15_4 : w12.cell? ⟨gb189, 4, none⟩ = some (.slice none 0 0) := (blk_cell BK189.out 4).trans rfl; have hfz15_0 := blk_frozen BK189.out 0; have hfz15_1 := blk_frozen BK189.out 1; have hfz15_2 := blk_frozen BK189.out 2; have hfz15_3 := blk_frozen BK189.out 3; have hfz15_4 := blk_frozen BK189.out 4; have hcz16_0 : w12.cell? ⟨gb187, 0, none⟩ = some (.slice A0_0 l0_0.length c0_0) := (blk_cell BK187.out 0).trans rfl; have hcz16_1 : w12.cell? ⟨gb187, 1, none⟩ = some (.int .i64 a0_1) := (blk_cell BK187.out 1).trans rfl; have hcz16_2 : w12.cell? ⟨gb187, 2, none⟩ = some (.bool a0_2) := (blk_cell BK187.out 2).trans rfl; have hcz16_3 : w12.cell? ⟨gb187, 3, none⟩ = some (.slice A0_3 l0_3.length c0_3) := (blk_cell BK187.out 3).trans rfl; have hcz16_4 : w12.cell? ⟨gb187, 4, none⟩ = some (.slice A0_4 l0_4.length c0_4) := (blk_cell BK187.out 4).trans rfl; have hfz16_0 := blk_frozen BK187.out 0; have hfz16_1 := blk_frozen BK187.out 1; have hfz16_2 := blk_frozen BK187.out 2; have hfz16_3 := blk_frozen BK187.out 3; have hfz16_4 := blk_frozen BK187.out 4) | ((with_reducible refine gate_callee (f := 47) rfl ?_); refine goesL_ (some 10) rfl rfl Tryd.func47 (by kernel_rfl) rfl #[.agg #[.int .i64 a0_1, .bool a0_2]] rfl (by (try simp only [List.map_toArray, List.map_cons, List.map_nil]); first | done | rfl | (simp only [List.length_drop, List.length_take]; rfl)) ?_; (with_reducible refine (laws_toTone.calls a0_1 a0_2 t193 t194 _ A3.out).mono ?_); rintro e w17 ⟨rfl, hb⟩; refine ⟨_, rfl, ?_⟩; have n0_ := Aside0.mk (Kd.R_below (by (with_reducible repeat (first | apply Kd.R_alloc | apply Kd.R_drewN | apply Kd.R_drew)); exact (Kd.R_mono (Kd.R_far (p := ⟨gb189, 0, none⟩) (Kd.R_types HO192.out BK189.out (by decide)) (fun _ hk => hk.2) (.slice Ao13 t190.length co13)) (fun _ h_ => h_.1))) hb); have n1_ := Aside0.mk (blk_below (g := gb187) (o := .cells #[.slice A0_0 l0_0.length c0_0, .int .i64 a0_1, .bool a0_2, .slice A0_3 l0_3.length c0_3, .slice A0_4 l0_4.length c0_4] 26 (0, 0)) (by (with_reducible repeat (first | refine blk_drewN ?_ _ | refine blk_drew ?_ | refine blk_alloc ?_ _)); refine blk_far ?_ NB187_189.out _; (with_reducible repeat (first | refine blk_drewN ?_ _ | refine blk_drew ?_ | refine blk_alloc ?_ _)); exact BK187.out) hb); have n2_ := Aside0.mk (blk_below (g := gb188) (o := .cells #[.slice none 0 0, .int .i64 0, .bool false, .slice none 0 0, .slice none 0 0] 31 (0, 0)) (by (with_reducible repeat (first | refine blk_drewN ?_ _ | refine blk_drew ?_ | refine blk_alloc ?_ _)); refine blk_far ?_ NB188_189.out _; (with_reducible repeat (first | refine blk_drewN ?_ _ | refine blk_drew ?_ | refine blk_alloc ?_ _)); exact BK188.out) hb); have n3_ := Aside0.mk (blk_below (g := gb189) (o := .cells #[.slice Ao13 t190.length co13, .int .i64 0, .bool false, .slice none 0 0, .slice none 0 0] 31 (0, 0)) (by (with_reducible repeat (first | refine blk_drewN ?_ _ | refine blk_drew ?_ | refine blk_alloc ?_ _)); refine blk_put (cs := #[.slice none 0 0, .int .i64 0, .bool false, .slice none 0 0, .slice none 0 0]) ?_ 0 _ rfl; (with_reducible repeat (first | refine blk_drewN ?_ _ | refine blk_drew ?_ | refine blk_alloc ?_ _)); exact BK189.out) hb); have n4_ := Aside0.mk (below_step (by repeat (first | (with_reducible first | exact HB.out | apply below_alloc | apply pw_below_drewN | apply below_drew1 | refine below_set ?_ GE187.out | refine below_set ?_ GE188.out | refine below_set ?_ GE189.out) | exact HB.out)) hb); clear HO192; clear BK187; clear BK188; clear BK189; clear HB; have HO192 := n0_; have BK187 := n1_; have BK188 := n2_; have BK189 := n3_; have HB := n4_; clear n0_ n1_ n2_ n3_ n4_; (try clear hb); (try clear hb2); (try clear hk); (try clear hi); have hcz18_0 : w17.cell? ⟨gb189, 0, none⟩ = some (.slice Ao13 t190.length co13) := (blk_cell BK189.out 0).trans rfl; have hcz18_1 : w17.cell? ⟨gb189, 1, none⟩ = some (.int .i64 0) := (blk_cell BK189.out 1).trans rfl; have hcz18_2 : w17.cell? ⟨gb189, 2, none⟩ = some (.bool false) := (blk_cell BK189.out 2).trans rfl; have hcz18_3 : w17.cell? ⟨gb189, 3, none⟩ = some (.slice none 0 0) := (blk_cell BK189.out 3).trans rfl; have hcz18_4 : w17.cell? ⟨gb189, 4, none⟩ = some (.slice none 0 0) := (blk_cell BK189.out 4).trans rfl; have hfz18_0 := blk_frozen BK189.out 0; have hfz18_1 := blk_frozen BK189.out 1; have hfz18_2 := blk_frozen BK189.out 2; have hfz18_3 := blk_frozen BK189.out 3; have hfz18_4 := blk_frozen BK189.out 4; have hcz19_0 : w17.cell? ⟨gb187, 0, none⟩ = some (.slice A0_0 l0_0.length c0_0) := (blk_cell BK187.out 0).trans rfl; have hcz19_1 : w17.cell? ⟨gb187, 1, none⟩ = some (.int .i64 a0_1) := (blk_cell BK187.out 1).trans rfl; have hcz19_2 : w17.cell? ⟨gb187, 2, none⟩ = some (.bool a0_2) := (blk_cell BK187.out 2).trans rfl; have hcz19_3 : w17.cell? ⟨gb187, 3, none⟩ = some (.slice A0_3 l0_3.length c0_3) := (blk_cell BK187.out 3).trans rfl; have hcz19_4 : w17.cell? ⟨gb187, 4, none⟩ = some (.slice A0_4 l0_4.length c0_4) := (blk_cell BK187.out 4).trans rfl; have hfz19_0 := blk_frozen BK187.out 0; have hfz19_1 := blk_frozen BK187.out 1; have hfz19_2 := blk_frozen BK187.out 2; have hfz19_3 := blk_frozen BK187.out 3; have hfz19_4 := blk_frozen BK187.out 4) | ((with_reducible refine gate_callee (f := 32) rfl ?_); refine goesL_ (some 14) rfl rfl Tryd.func32 (by kernel_rfl) rfl #[.slice A0_3 l0_3.length c0_3] rfl (by (try simp only [List.map_toArray, List.map_cons, List.map_nil]); first | done | rfl | (simp only [List.length_drop, List.length_take]; rfl)) ?_; (with_reducible refine (laws_toToneS.calls k _ _ l0_3 t195 _ ?side1 ?side2 A4.out).mono ?_); (case side1 => exact Kd.C_below HR0_3.out (by repeat (first | (with_reducible first | exact HB.out | apply below_alloc | apply pw_below_drewN | apply below_drew1 | refine below_set ?_ GE187.out | refine below_set ?_ GE188.out | refine below_set ?_ GE189.out) | exact HB.out))); (case side2 => exact HC0_3.out); rintro e w20 ⟨v196, rfl, ho0, hb⟩; refine ⟨_, rfl, ?_⟩; have n0_ := Aside0.mk (Kd.R_elder' (by (with_reducible repeat (first | apply Kd.R_alloc | apply Kd.R_drewN | apply Kd.R_drew)); exact (Kd.R_mono (Kd.R_far (p := ⟨gb189, 2, none⟩) (Kd.R_far (p := ⟨gb189, 1, none⟩) (Kd.R_types HO192.out BK189.out (by decide)) (fun _ hk => hk.2) (.int .i64 t193)) (fun _ hk => hk.2) (.bool t194)) (fun _ h_ => h_.1))) (Kd.R_base ho0) hb); have n1_ := Aside0.mk (Kd.R_lower (Kd.R_new' ho0 (Kd.R_lt (by (with_reducible repeat (first | apply Kd.R_alloc | apply Kd.R_drewN | apply Kd.R_drew)); exact (Kd.R_mono (Kd.R_far (p := ⟨gb189, 2, none⟩) (Kd.R_far (p := ⟨gb189, 1, none⟩) (Kd.R_types HO192.out BK189.out (by decide)) (fun _ hk => hk.2) (.int .i64 t193)) (fun _ hk => hk.2) (.bool t194)) (fun _ h_ => h_.1))))) (below_size (by repeat (first | (with_reducible first | exact HB.out | apply below_alloc | apply pw_below_drewN | apply below_drew1 | refine below_set ?_ GE187.out | refine below_set ?_ GE188.out | refine below_set ?_ GE189.out) | exact HB.out)))); have n2_ := Aside0.mk (blk_below (g := gb187) (o := .cells #[.slice A0_0 l0_0.length c0_0, .int .i64 a0_1, .bool a0_2, .slice A0_3 l0_3.length c0_3, .slice A0_4 l0_4.length c0_4] 26 (0, 0)) (by (with_reducible repeat (first | refine blk_drewN ?_ _ | refine blk_drew ?_ | refine blk_alloc ?_ _)); refine blk_far ?_ NB187_189.out _; (with_reducible repeat (first | refine blk_drewN ?_ _ | refine blk_drew ?_ | refine blk_alloc ?_ _)); refine blk_far ?_ NB187_189.out _; (with_reducible repeat (first | refine blk_drewN ?_ _ | refine blk_drew ?_ | refine blk_alloc ?_ _)); exact BK187.out) hb); have n3_ := Aside0.mk (blk_below (g := gb188) (o := .cells #[.slice none 0 0, .int .i64 0, .bool false, .slice none 0 0, .slice none 0 0] 31 (0, 0)) (by (with_reducible repeat (first | refine blk_drewN ?_ _ | refine blk_drew ?_ | refine blk_alloc ?_ _)); refine blk_far ?_ NB188_189.out _; (with_reducible repeat (first | refine blk_drewN ?_ _ | refine blk_drew ?_ | refine blk_alloc ?_ _)); refine blk_far ?_ NB188_189.out _; (with_reducible repeat (first | refine blk_drewN ?_ _ | refine blk_drew ?_ | refine blk_alloc ?_ _)); exact BK188.out) hb); have n4_ := Aside0.mk (blk_below (g := gb189) (o := .cells #[.slice Ao13 t190.length co13, .int .i64 t193, .bool t194, .slice none 0 0, .slice none 0 0] 31 (0, 0)) (by (with_reducible repeat (first | refine blk_drewN ?_ _ | refine blk_drew ?_ | refine blk_alloc ?_ _)); refine blk_put (cs := #[.slice Ao13 t190.length co13, .int .i64 t193, .bool false, .slice none 0 0, .slice none 0 0]) ?_ 2 _ rfl; (with_reducible repeat (first | refine blk_drewN ?_ _ | refine blk_drew ?_ | refine blk_alloc ?_ _)); refine blk_put (cs := #[.slice Ao13 t190.length co13, .int .i64 0, .bool false, .slice none 0 0, .slice none 0 0]) ?_ 1 _ rfl; (with_reducible repeat (first | refine blk_drewN ?_ _ | refine blk_drew ?_ | refine blk_alloc ?_ _)); exact BK189.out) hb); have n5_ := Aside0.mk (below_step (by repeat (first | (with_reducible first | exact HB.out | apply below_alloc | apply pw_below_drewN | apply below_drew1 | refine below_set ?_ GE187.out | refine below_set ?_ GE188.out | refine below_set ?_ GE189.out) | exact HB.out)) hb); clear HO192; clear BK187; clear BK188; clear BK189; clear HB; have HO192 := n0_; have HO197 := n1_; have BK187 := n2_; have BK188 := n3_; have BK189 := n4_; have HB := n5_; clear n0_ n1_ n2_ n3_ n4_ n5_; (try clear hb); (try clear hb2); (try clear hk); (try clear hi); (try clear ho0); obtain ⟨Ao21, co21, eo21⟩ := Kd.R_slice HO197.out; subst eo21; have hcz22_0 : w20.cell? ⟨gb189, 0, none⟩ = some (.slice Ao13 t190.length co13) := (blk_cell BK189.out 0).trans rfl; have hcz22_1 : w20.cell? ⟨gb189, 1, none⟩ = some (.int .i64 t193) := (blk_cell BK189.out 1).trans rfl; have hcz22_2 : w20.cell? ⟨gb189, 2, none⟩ = some (.bool t194) := (blk_cell BK189.out 2).trans rfl; have hcz22_3 : w20.cell? ⟨gb189, 3, none⟩ = some (.slice none 0 0) := (blk_cell BK189.out 3).trans rfl; have hcz22_4 : w20.cell? ⟨gb189, 4, none⟩ = some (.slice none 0 0) := (blk_cell BK189.out 4).trans rfl; have hfz22_0 := blk_frozen BK189.out 0; have hfz22_1 := blk_frozen BK189.out 1; have hfz22_2 := blk_frozen BK189.out 2; have hfz22_3 := blk_frozen BK189.out 3; have hfz22_4 := blk_frozen BK189.out 4; have hcz23_0 : w20.cell? ⟨gb187, 0, none⟩ = some (.slice A0_0 l0_0.length c0_0) := (blk_cell BK187.out 0).trans rfl; have hcz23_1 : w20.cell? ⟨gb187, 1, none⟩ = some (.int .i64 a0_1) := (blk_cell BK187.out 1).trans rfl; have hcz23_2 : w20.cell? ⟨gb187, 2, none⟩ = some (.bool a0_2) := (blk_cell BK187.out 2).trans rfl; have hcz23_3 : w20.cell? ⟨gb187, 3, none⟩ = some (.slice A0_3 l0_3.length c0_3) := (blk_cell BK187.out 3).trans rfl; have hcz23_4 : w20.cell? ⟨gb187, 4, none⟩ = some (.slice A0_4 l0_4.length c0_4) := (blk_cell BK187.out 4).trans rfl; have hfz23_0 := blk_frozen BK187.out 0; have hfz23_1 := blk_frozen BK187.out 1; have hfz23_2 := blk_frozen BK187.out 2; have hfz23_3 := blk_frozen BK187.out 3; have hfz23_4 := blk_frozen BK187.out 4) | ((with_reducible refine gate_callee (f := 32) rfl ?_); refine goesL_ (some 18) rfl rfl Tryd.func32 (by kernel_rfl) rfl #[.slice A0_4 l0_4.length c0_4] rfl (by (try simp only [List.map_toArray, List.map_cons, List.map_nil]); first | done | rfl | (simp only [List.length_drop, List.length_take]; rfl)) ?_; (with_reducible refine (laws_toToneS.calls k _ _ l0_4 t198 _ ?side1 ?side2 A5.out).mono ?_); (case side1 => exact Kd.C_below HR0_4.out (by repeat (first | (with_reducible first | exact HB.out | apply below_alloc | apply pw_below_drewN | apply below_drew1 | refine below_set ?_ GE187.out | refine below_set ?_ GE188.out | refine below_set ?_ GE189.out) | exact HB.out))); (case side2 => exact HC0_4.out); rintro e w24 ⟨v199, rfl, ho0, hb⟩; refine ⟨_, rfl, ?_⟩; have n0_ := Aside0.mk (Kd.R_elder' (by (with_reducible repeat (first | apply Kd.R_alloc | apply Kd.R_drewN | apply Kd.R_drew)); exact (Kd.R_mono (Kd.R_far (p := ⟨gb189, 3, none⟩) (Kd.R_types HO192.out BK189.out (by decide)) (fun _ hk => hk.2) (.slice Ao21 t195.length co21)) (fun _ h_ => h_.1))) (Kd.R_base ho0) hb); have n1_ := Aside0.mk (Kd.R_elder' (by (with_reducible repeat (first | apply Kd.R_alloc | apply Kd.R_drewN | apply Kd.R_drew)); exact (Kd.R_mono (Kd.R_far (p := ⟨gb189, 3, none⟩) (Kd.R_types HO197.out BK189.out (by decide)) (fun _ hk => hk.2) (.slice Ao21 t195.length co21)) (fun _ h_ => h_.1))) (Kd.R_base ho0) hb); have n2_ := Aside0.mk (Kd.R_lower (Kd.R_new' (Kd.R_new' ho0 (Kd.R_lt (by (with_reducible repeat (first | apply Kd.R_alloc | apply Kd.R_drewN | apply Kd.R_drew)); exact (Kd.R_mono (Kd.R_far (p := ⟨gb189, 3, none⟩) (Kd.R_types HO192.out BK189.out (by decide)) (fun _ hk => hk.2) (.slice Ao21 t195.length co21)) (fun _ h_ => h_.1))))) (Kd.R_lt (by (with_reducible repeat (first | apply Kd.R_alloc | apply Kd.R_drewN | apply Kd.R_drew)); exact (Kd.R_mono (Kd.R_far (p := ⟨gb189, 3, none⟩) (Kd.R_types HO197.out BK189.out (by decide)) (fun _ hk => hk.2) (.slice Ao21 t195.length co21)) (fun _ h_ => h_.1))))) (below_size (by repeat (first | (with_reducible first | exact HB.out | apply below_alloc | apply pw_below_drewN | apply below_drew1 | refine below_set ?_ GE187.out | refine below_set ?_ GE188.out | refine below_set ?_ GE189.out) | exact HB.out)))); have n3_ := Aside0.mk (blk_below (g := gb187) (o := .cells #[.slice A0_0 l0_0.length c0_0, .int .i64 a0_1, .bool a0_2, .slice A0_3 l0_3.length c0_3, .slice A0_4 l0_4.length c0_4] 26 (0, 0)) (by (with_reducible repeat (first | refine blk_drewN ?_ _ | refine blk_drew ?_ | refine blk_alloc ?_ _)); refine blk_far ?_ NB187_189.out _; (with_reducible repeat (first | refine blk_drewN ?_ _ | refine blk_drew ?_ | refine blk_alloc ?_ _)); exact BK187.out) hb); have n4_ := Aside0.mk (blk_below (g := gb188) (o := .cells #[.slice none 0 0, .int .i64 0, .bool false, .slice none 0 0, .slice none 0 0] 31 (0, 0)) (by (with_reducible repeat (first | refine blk_drewN ?_ _ | refine blk_drew ?_ | refine blk_alloc ?_ _)); refine blk_far ?_ NB188_189.out _; (with_reducible repeat (first | refine blk_drewN ?_ _ | refine blk_drew ?_ | refine blk_alloc ?_ _)); exact BK188.out) hb); have n5_ := Aside0.mk (blk_below (g := gb189) (o := .cells #[.slice Ao13 t190.length co13, .int .i64 t193, .bool t194, .slice Ao21 t195.length co21, .slice none 0 0] 31 (0, 0)) (by (with_reducible repeat (first | refine blk_drewN ?_ _ | refine blk_drew ?_ | refine blk_alloc ?_ _)); refine blk_put (cs := #[.slice Ao13 t190.length co13, .int .i64 t193, .bool t194, .slice none 0 0, .slice none 0 0]) ?_ 3 _ rfl; (with_reducible repeat (first | refine blk_drewN ?_ _ | refine blk_drew ?_ | refine blk_alloc ?_ _)); exact BK189.out) hb); have n6_ := Aside0.mk (below_step (by repeat (first | (with_reducible first | exact HB.out | apply below_alloc | apply pw_below_drewN | apply below_drew1 | refine below_set ?_ GE187.out | refine below_set ?_ GE188.out | refine below_set ?_ GE189.out) | exact HB.out)) hb); clear HO192; clear HO197; clear BK187; clear BK188; clear BK189; clear HB; have HO192 := n0_; have HO197 := n1_; have HO200 := n2_; have BK187 := n3_; have BK188 := n4_; have BK189 := n5_; have HB := n6_; clear n0_ n1_ n2_ n3_ n4_ n5_ n6_; (try clear hb); (try clear hb2); (try clear hk); (try clear hi); (try clear ho0); obtain ⟨Ao25, co25, eo25⟩ := Kd.R_slice HO200.out; subst eo25; have hcz26_0 : w24.cell? ⟨gb189, 0, none⟩ = some (.slice Ao13 t190.length co13) := (blk_cell BK189.out 0).trans rfl; have hcz26_1 : w24.cell? ⟨gb189, 1, none⟩ = some (.int .i64 t193) := (blk_cell BK189.out 1).trans rfl; have hcz26_2 : w24.cell? ⟨gb189, 2, none⟩ = some (.bool t194) := (blk_cell BK189.out 2).trans rfl; have hcz26_3 : w24.cell? ⟨gb189, 3, none⟩ = some (.slice Ao21 t195.length co21) := (blk_cell BK189.out 3).trans rfl; have hcz26_4 : w24.cell? ⟨gb189, 4, none⟩ = some (.slice none 0 0) := (blk_cell BK189.out 4).trans rfl; have hfz26_0 := blk_frozen BK189.out 0; have hfz26_1 := blk_frozen BK189.out 1; have hfz26_2 := blk_frozen BK189.out 2; have hfz26_3 := blk_frozen BK189.out 3; have hfz26_4 := blk_frozen BK189.out 4; have hcz27_0 : w24.cell? ⟨gb188, 0, none⟩ = some (.slice none 0 0) := (blk_cell BK188.out 0).trans rfl; have hcz27_1 : w24.cell? ⟨gb188, 1, none⟩ = some (.int .i64 0) := (blk_cell BK188.out 1).trans rfl; have hcz27_2 : w24.cell? ⟨gb188, 2, none⟩ = some (.bool false) := (blk_cell BK188.out 2).trans rfl; have hcz27_3 : w24.cell? ⟨gb188, 3, none⟩ = some (.slice none 0 0) := (blk_cell BK188.out 3).trans rfl; have hcz27_4 : w24.cell? ⟨gb188, 4, none⟩ = some (.slice none 0 0) := (blk_cell BK188.out 4).trans rfl; have hfz27_0 := blk_frozen BK188.out 0; have hfz27_1 := blk_frozen BK188.out 1; have hfz27_2 := blk_frozen BK188.out 2; have hfz27_3 := blk_frozen BK188.out 3; have hfz27_4 := blk_frozen BK188.out 4))
 refine bodyPost_ret (results_cell_row rfl _ _ gb188 31 #[.slice Ao13 t190.length co13, .int .i64 t193, .bool t194, .slice Ao21 t195.length co21, .slice Ao25 t198.length co25] (0, 0) _ rfl (by (with_reducible repeat (first | refine blk_drewN ?_ _ | refine blk_drew ?_ | refine blk_alloc ?_ _)); refine blk_put (cs := #[.slice Ao13 t190.length co13, .int .i64 t193, .bool t194, .slice Ao21 t195.length co21, .slice none 0 0]) ?_ 4 _ rfl; (with_reducible repeat (first | refine blk_drewN ?_ _ | refine blk_drew ?_ | refine blk_alloc ?_ _)); refine blk_put (cs := #[.slice Ao13 t190.length co13, .int .i64 t193, .bool t194, .slice none 0 0, .slice none 0 0]) ?_ 3 _ rfl; (with_reducible repeat (first | refine blk_drewN ?_ _ | refine blk_drew ?_ | refine blk_alloc ?_ _)); refine blk_put (cs := #[.slice Ao13 t190.length co13, .int .i64 t193, .bool false, .slice none 0 0, .slice none 0 0]) ?_ 2 _ rfl; (with_reducible repeat (first | refine blk_drewN ?_ _ | refine blk_drew ?_ | refine blk_alloc ?_ _)); refine blk_put (cs := #[.slice Ao13 t190.length co13, .int .i64 0, .bool false, .slice none 0 0, .slice none 0 0]) ?_ 1 _ rfl; (with_reducible repeat (first | refine blk_drewN ?_ _ | refine blk_drew ?_ | refine blk_alloc ?_ _)); refine blk_put (cs := #[.slice none 0 0, .int .i64 0, .bool false, .slice none 0 0, .slice none 0 0]) ?_ 0 _ rfl; (with_reducible repeat (first | refine blk_drewN ?_ _ | refine blk_drew ?_ | refine blk_alloc ?_ _)); refine blk_far ?_ NB188_189.out _; (with_reducible repeat (first | refine blk_drewN ?_ _ | refine blk_drew ?_ | refine blk_alloc ?_ _)); exact BK188.out) Tryd.underlying31 rfl (by kernel_rfl)) rfl ?_; exact ⟨_, _, _, by first | rfl | (simp [errW_none, errW_some] <;> rfl) | (simp [*, errW_none, errW_some] <;> rfl), by (with_reducible repeat (first | apply Kd.R_alloc | apply Kd.R_drewN | apply Kd.R_drew)); exact Kd.R_mono (Kd.R_far (p := ⟨gb188, 4, none⟩) (Kd.R_far (p := ⟨gb188, 3, none⟩) (Kd.R_far (p := ⟨gb188, 2, none⟩) (Kd.R_far (p := ⟨gb188, 1, none⟩) (Kd.R_far (p := ⟨gb188, 0, none⟩) (Kd.R_far (p := ⟨gb189, 4, none⟩) (Kd.R_types (Kd.R_types HO192.out BK189.out (by decide)) BK188.out (by decide)) (fun _ hk => hk.1.2) (.slice Ao25 t198.length co25)) (fun _ hk => hk.2) (.slice Ao13 t190.length co13)) (fun _ hk => hk.2) (.int .i64 t193)) (fun _ hk => hk.2) (.bool t194)) (fun _ hk => hk.2) (.slice Ao21 t195.length co21)) (fun _ hk => hk.2) (.slice Ao25 t198.length co25)) (fun _ hk => ⟨hk.1.1.1.2, hk.1.1.2⟩), by (with_reducible repeat (first | apply Kd.R_alloc | apply Kd.R_drewN | apply Kd.R_drew)); exact Kd.R_mono (Kd.R_far (p := ⟨gb188, 4, none⟩) (Kd.R_far (p := ⟨gb188, 3, none⟩) (Kd.R_far (p := ⟨gb188, 2, none⟩) (Kd.R_far (p := ⟨gb188, 1, none⟩) (Kd.R_far (p := ⟨gb188, 0, none⟩) (Kd.R_far (p := ⟨gb189, 4, none⟩) (Kd.R_types (Kd.R_types HO197.out BK189.out (by decide)) BK188.out (by decide)) (fun _ hk => hk.1.2) (.slice Ao25 t198.length co25)) (fun _ hk => hk.2) (.slice Ao13 t190.length co13)) (fun _ hk => hk.2) (.int .i64 t193)) (fun _ hk => hk.2) (.bool t194)) (fun _ hk => hk.2) (.slice Ao21 t195.length co21)) (fun _ hk => hk.2) (.slice Ao25 t198.length co25)) (fun _ hk => ⟨hk.1.1.1.2, hk.1.1.2⟩), by (with_reducible repeat (first | apply Kd.R_alloc | apply Kd.R_drewN | apply Kd.R_drew)); exact Kd.R_mono (Kd.R_far (p := ⟨gb188, 4, none⟩) (Kd.R_far (p := ⟨gb188, 3, none⟩) (Kd.R_far (p := ⟨gb188, 2, none⟩) (Kd.R_far (p := ⟨gb188, 1, none⟩) (Kd.R_far (p := ⟨gb188, 0, none⟩) (Kd.R_far (p := ⟨gb189, 4, none⟩) (Kd.R_types (Kd.R_types HO200.out BK189.out (by decide)) BK188.out (by decide)) (fun _ hk => hk.1.2) (.slice Ao25 t198.length co25)) (fun _ hk => hk.2) (.slice Ao13 t190.length co13)) (fun _ hk => hk.2) (.int .i64 t193)) (fun _ hk => hk.2) (.bool t194)) (fun _ hk => hk.2) (.slice Ao21 t195.length co21)) (fun _ hk => hk.2) (.slice Ao25 t198.length co25)) (fun _ hk => ⟨hk.1.1.1.2, hk.1.1.2⟩), by repeat (first | (with_reducible first | exact HB.out | apply below_alloc | apply pw_below_drewN | apply below_drew1 | refine below_set ?_ GE187.out | refine below_set ?_ GE188.out | refine below_set ?_ GE189.out) | exact HB.out)⟩

end Go.Proofs.YtpcohkffbjdmfaaDoor.PFnExactPsalmMove
namespace Go.Proofs.YtpcohkffbjdmfaaDoor.PFnExactPsalmMove
set_option linter.unusedVariables false
set_option linter.unusedSimpArgs false
open Go Go.RowKit Go.Proofs.YtpcohkffbjdmfaaDoor.Pure Go.Proofs.YtpcohkffbjdmfaaDoorW.PrintWords Go.Proofs.YtpcohkffbjdmfaaDoorW.PrintLast Go.Proofs.YtpcohkffbjdmfaaDoorW.PrintMore
def impl_MelodyMove.f (l0 : List S29) (a1 : Int) : Option (List S29 × Bool) := if l0.length ≤ 1000000000000 then some (mmove l0 a1) else none
theorem impl_MelodyMove.calls (A0 : Option Addr) (c0 : Nat) (l0 : List S29) (a1 : Int) (r1 : List S29) (r2 : Bool) (w : World) (ht : HTab w) (hr0 : Kd.C k29 w A0 l0.length l0) (hc0 : l0.length ≤ c0) (h : impl_MelodyMove.f l0 a1 = some (r1, r2)) :
 Calls Tryd.prog 23 #[.slice A0 l0.length c0, .int .i64 a1] w fun e w' => ∃ v0_ : Value, e = .returned (.tuple #[v0_, .bool r2]) ∧ Kd.R k29 29 w' w.heap.size (fun _ => True) v0_ r1 ∧ Below w.heap.size w w' := by
 unfold impl_MelodyMove.f at h; split at h
 ·
  rename_i hh
  injection h with h
  have := impl_MelodyMove_calls l0 a1 A0 c0 w ht hr0 hc0 hh; rw [h] at this; exact this
 ·
  cases h

end Go.Proofs.YtpcohkffbjdmfaaDoor.PFnExactPsalmMove
namespace Go.Proofs.YtpcohkffbjdmfaaDoor.PFnExactPsalmMove
open Go.RowKit Go.Proofs.YtpcohkffbjdmfaaDoorW.PrintWords Go.Proofs.YtpcohkffbjdmfaaDoorW.PrintLast Go.Proofs.YtpcohkffbjdmfaaDoorW.PrintMore
attribute [local go_sem] max2_int min2_int max_two min_two max_three min_three max_four min_four   -- for this text's walks alone
set_option linter.unusedVariables false
set_option linter.unusedSimpArgs false

def impl_tonesValid.f (k : Nat) (l0 : List (S29)) (a1 : Int) (a2 : Int) : Option (Bool) := if (l0.length : Int) ≥ a1 then (if (l0.length : Int) ≤ a2 then ((impl_MelodyValid.f k l0).bind fun t220 => (some t220)) else (some false)) else (some false)
set_option maxHeartbeats 8000000 in
set_option maxRecDepth 100000 in
theorem impl_tonesValid.calls (k : Nat) (A0 : Option Addr) (c0 : Nat) (l0 : List (S29)) (a1 : Int) (a2 : Int) (r : Bool) (w : World) (hr0 : Kd.C k29 w A0 l0.length l0) (hc0 : l0.length ≤ c0) (h : impl_tonesValid.f k l0 a1 a2 = some r) :
 Calls Tryd.prog 87 #[.slice A0 l0.length c0, .int .i64 a1, .int .i64 a2] w fun e w' => e = .returned (.bool r) ∧ Below w.heap.size w w' := by
 have HR0 := Aside0.mk hr0; have HC0 := Aside0.mk hc0; clear hr0 hc0; have HB := Aside0.mk (Below.refl w.heap.size w); have H : (if (l0.length : Int) ≥ a1 then (if (l0.length : Int) ≤ a2 then ((impl_MelodyValid.f k l0).bind fun t220 => (some t220)) else (some false)) else (some false)) = some r := h; clear h; by_cases c4 : (l0.length : Int) ≥ a1
 ·
  rw [if_pos c4] at H; have c4b0 : decide (a1 ≤ (l0.length : Int)) = true := decide_eq_true c4; clear c4; by_cases c5 : (l0.length : Int) ≤ a2
  ·
   rw [if_pos c5] at H; have c5b0 : decide ((l0.length : Int) ≤ a2) = true := decide_eq_true c5; clear c5; replace H := Option.bind_eq_some_iff.mp H; obtain ⟨t220, A60, H⟩ := H; replace H : (some t220) = some r := H; have A6 := Aside0.mk A60; clear A60; obtain rfl := Option.some.inj H; go_enter Tryd.func87, Tryd.ntmps87
   go_wp2_with (first | (go_at_call 61; (with_reducible refine (impl_MelodyValid.calls k _ _ l0 t220 _ ?side1 ?side2 A6.out).mono ?_); (case side1 => repeat (first | exact HR0.out | (with_reducible refine Kd.C_alloc ?_ _) | (with_reducible refine Kd.C_drewN ?_ _) | (with_reducible refine Kd.C_drew ?_))); (case side2 => exact HC0.out); rintro e w7 ⟨rfl, hb⟩; have n0_ := Aside0.mk (below_step (by repeat (first | (with_reducible first | exact HB.out | apply below_alloc | apply pw_below_drewN | apply below_drew1) | exact HB.out)) hb); clear HB; have HB := n0_; clear n0_; (try clear hb); (try clear hb2); (try clear hk); (try clear hi)))
   go_ret
   exact ⟨by first | rfl | (simp [errW_none, errW_some] <;> rfl) | (simp [*, errW_none, errW_some] <;> rfl), by repeat (first | (with_reducible first | exact HB.out | apply below_alloc | apply pw_below_drewN | apply below_drew1) | exact HB.out)⟩
  ·
   rw [if_neg c5] at H; have c5b0 : decide ((l0.length : Int) ≤ a2) = false := decide_eq_false c5; clear c5; obtain rfl := Option.some.inj H; go_enter Tryd.func87, Tryd.ntmps87
   go_wp2; go_ret
   exact ⟨by first | rfl | (simp [errW_none, errW_some] <;> rfl) | (simp [*, errW_none, errW_some] <;> rfl), by repeat (first | (with_reducible first | exact HB.out | apply below_alloc | apply pw_below_drewN | apply below_drew1) | exact HB.out)⟩
 ·
  rw [if_neg c4] at H; have c4b0 : decide (a1 ≤ (l0.length : Int)) = false := decide_eq_false c4; clear c4; obtain rfl := Option.some.inj H; go_enter Tryd.func87, Tryd.ntmps87
  go_wp2; go_ret
  exact ⟨by first | rfl | (simp [errW_none, errW_some] <;> rfl) | (simp [*, errW_none, errW_some] <;> rfl), by repeat (first | (with_reducible first | exact HB.out | apply below_alloc | apply pw_below_drewN | apply below_drew1) | exact HB.out)⟩

end Go.Proofs.YtpcohkffbjdmfaaDoor.PFnExactPsalmMove
namespace Go.Proofs.YtpcohkffbjdmfaaDoor.PFnExactPsalmMove
open Go.RowKit Go.Proofs.YtpcohkffbjdmfaaDoorW.PrintWords Go.Proofs.YtpcohkffbjdmfaaDoorW.PrintLast Go.Proofs.YtpcohkffbjdmfaaDoorW.PrintMore
attribute [local go_sem] max2_int min2_int max_two min_two max_three min_three max_four min_four   -- for this text's walks alone
set_option linter.unusedVariables false
set_option linter.unusedSimpArgs false

def impl_PsalmValid.f (k : Nat) (l0_0 : List (S29)) (a0_1 : Int) (a0_2 : Bool) (l0_3 : List (S29)) (l0_4 : List (S29)) : Option (Bool) := (impl_tonesValid.f k l0_0 0 3).bind fun t222 => (if t222 = true then ((impl_Tone_valid.f a0_1 a0_2).bind fun t223 => (if t223 = true then ((impl_tonesValid.f k l0_3 1 4).bind fun t224 => (if t224 = true then ((impl_tonesValid.f k l0_4 1 4).bind fun t225 => (some t225)) else (some false))) else (some false))) else (some false))
set_option maxHeartbeats 8000000 in
set_option maxRecDepth 100000 in
theorem impl_PsalmValid.calls (k : Nat) (A0_0 : Option Addr) (c0_0 : Nat) (l0_0 : List (S29)) (a0_1 : Int) (a0_2 : Bool) (A0_3 : Option Addr) (c0_3 : Nat) (l0_3 : List (S29)) (A0_4 : Option Addr) (c0_4 : Nat) (l0_4 : List (S29)) (r : Bool) (w : World) (hr0_0 : Kd.C k29 w A0_0 l0_0.length l0_0) (hc0_0 : l0_0.length ≤ c0_0) (hr0_3 : Kd.C k29 w A0_3 l0_3.length l0_3) (hc0_3 : l0_3.length ≤ c0_3) (hr0_4 : Kd.C k29 w A0_4 l0_4.length l0_4) (hc0_4 : l0_4.length ≤ c0_4) (h : impl_PsalmValid.f k l0_0 a0_1 a0_2 l0_3 l0_4 = some r) :
 Calls Tryd.prog 48 #[.agg #[.slice A0_0 l0_0.length c0_0, .int .i64 a0_1, .bool a0_2, .slice A0_3 l0_3.length c0_3, .slice A0_4 l0_4.length c0_4]] w fun e w' => e = .returned (.bool r) ∧ Below w.heap.size w w' := by
 have hu31 := Tryd.underlying31; have hu29 := Tryd.underlying29; have HR0_0 := Aside0.mk hr0_0; have HC0_0 := Aside0.mk hc0_0; clear hr0_0 hc0_0; have HR0_3 := Aside0.mk hr0_3; have HC0_3 := Aside0.mk hc0_3; clear hr0_3 hc0_3; have HR0_4 := Aside0.mk hr0_4; have HC0_4 := Aside0.mk hc0_4; clear hr0_4 hc0_4; have HB := Aside0.mk (Below.refl w.heap.size w); have H : ((impl_tonesValid.f k l0_0 0 3).bind fun t222 => (if t222 = true then ((impl_Tone_valid.f a0_1 a0_2).bind fun t223 => (if t223 = true then ((impl_tonesValid.f k l0_3 1 4).bind fun t224 => (if t224 = true then ((impl_tonesValid.f k l0_4 1 4).bind fun t225 => (some t225)) else (some false))) else (some false))) else (some false))) = some r := h; clear h; replace H := Option.bind_eq_some_iff.mp H; obtain ⟨t222, A20, H⟩ := H; replace H : (if t222 = true then ((impl_Tone_valid.f a0_1 a0_2).bind fun t223 => (if t223 = true then ((impl_tonesValid.f k l0_3 1 4).bind fun t224 => (if t224 = true then ((impl_tonesValid.f k l0_4 1 4).bind fun t225 => (some t225)) else (some false))) else (some false))) else (some false)) = some r := H; have A2 := Aside0.mk A20; clear A20; by_cases c3 : t222 = true
 ·
  subst c3; have H1 : ((impl_Tone_valid.f a0_1 a0_2).bind fun t223 => (if t223 = true then ((impl_tonesValid.f k l0_3 1 4).bind fun t224 => (if t224 = true then ((impl_tonesValid.f k l0_4 1 4).bind fun t225 => (some t225)) else (some false))) else (some false))) = some r := by rw [if_pos rfl] at H; exact H
  clear H; have H := H1; clear H1; replace H := Option.bind_eq_some_iff.mp H; obtain ⟨t223, A40, H⟩ := H; replace H : (if t223 = true then ((impl_tonesValid.f k l0_3 1 4).bind fun t224 => (if t224 = true then ((impl_tonesValid.f k l0_4 1 4).bind fun t225 => (some t225)) else (some false))) else (some false)) = some r := H; have A4 := Aside0.mk A40; clear A40; by_cases c5 : t223 = true
  ·
   subst c5; have H1 : ((impl_tonesValid.f k l0_3 1 4).bind fun t224 => (if t224 = true then ((impl_tonesValid.f k l0_4 1 4).bind fun t225 => (some t225)) else (some false))) = some r := by rw [if_pos rfl] at H; exact H
   clear H; have H := H1; clear H1; replace H := Option.bind_eq_some_iff.mp H; obtain ⟨t224, A60, H⟩ := H; replace H : (if t224 = true then ((impl_tonesValid.f k l0_4 1 4).bind fun t225 => (some t225)) else (some false)) = some r := H; have A6 := Aside0.mk A60; clear A60; by_cases c7 : t224 = true
   ·
    subst c7; have H1 : ((impl_tonesValid.f k l0_4 1 4).bind fun t225 => (some t225)) = some r := by rw [if_pos rfl] at H; exact H
    clear H; have H := H1; clear H1; replace H := Option.bind_eq_some_iff.mp H; obtain ⟨t225, A80, H⟩ := H; replace H : (some t225) = some r := H; have A8 := Aside0.mk A80; clear A80; obtain rfl := Option.some.inj H; go_enter Tryd.func48, Tryd.ntmps48
    go_wp2_with (first | ((with_reducible refine gate_dst (N := 1) rfl ?_); refine box_event ?hg (N := 1) ?hd (cs := #[.slice A0_0 l0_0.length c0_0, .int .i64 a0_1, .bool a0_2, .slice A0_3 l0_3.length c0_3, .slice A0_4 l0_4.length c0_4]) (t := 31) ?hr ?_; (case hd => rfl); (case hg => rfl); (case hr => first | (go_simp; done) | (go_simp; rfl)); intro gb221 hg w9 hbox hb; have n0_ := Aside0.mk (below_step (by repeat (first | (with_reducible first | exact HB.out | apply below_alloc | apply pw_below_drewN | apply below_drew1) | exact HB.out)) hb); have n1_ := Aside0.mk (hbox); have n2_ := Aside0.mk ((by rw [hg]; exact (below_size (by repeat (first | (with_reducible first | exact HB.out | apply below_alloc | apply pw_below_drewN | apply below_drew1) | exact HB.out))) : w.heap.size ≤ gb221)); have n3_ := Aside0.mk ((by rw [hg]; exact (below_size (by repeat (first | (with_reducible first | exact HB.out | apply below_alloc | apply pw_below_drewN | apply below_drew1) | exact HB.out))) : w.heap.size ≤ gb221)); clear HB; have HB := n0_; have BK221 := n1_; have GW221 := n2_; have GE221 := n3_; clear n0_ n1_ n2_ n3_; clear hb hbox hg; have hcz10_0 : w9.cell? ⟨gb221, 0, none⟩ = some (.slice A0_0 l0_0.length c0_0) := (blk_cell BK221.out 0).trans rfl; have hcz10_1 : w9.cell? ⟨gb221, 1, none⟩ = some (.int .i64 a0_1) := (blk_cell BK221.out 1).trans rfl; have hcz10_2 : w9.cell? ⟨gb221, 2, none⟩ = some (.bool a0_2) := (blk_cell BK221.out 2).trans rfl; have hcz10_3 : w9.cell? ⟨gb221, 3, none⟩ = some (.slice A0_3 l0_3.length c0_3) := (blk_cell BK221.out 3).trans rfl; have hcz10_4 : w9.cell? ⟨gb221, 4, none⟩ = some (.slice A0_4 l0_4.length c0_4) := (blk_cell BK221.out 4).trans rfl; have hfz10_0 := blk_frozen BK221.out 0; have hfz10_1 := blk_frozen BK221.out 1; have hfz10_2 := blk_frozen BK221.out 2; have hfz10_3 := blk_frozen BK221.out 3; have hfz10_4 := blk_frozen BK221.out 4) | ((with_reducible refine gate_callee (f := 87) rfl ?_); refine goesL_ (some 5) rfl rfl Tryd.func87 (by kernel_rfl) rfl #[.slice A0_0 l0_0.length c0_0, .int .i64 0, .int .i64 3] rfl (by (try simp only [List.map_toArray, List.map_cons, List.map_nil]); first | done | rfl | (simp only [List.length_drop, List.length_take]; rfl)) ?_; (with_reducible refine (impl_tonesValid.calls k _ _ l0_0 0 3 true _ ?side1 ?side2 A2.out).mono ?_); (case side1 => repeat (first | exact (Kd.C_below HR0_0.out HB.out) | (with_reducible refine Kd.C_alloc ?_ _) | (with_reducible refine Kd.C_drewN ?_ _) | (with_reducible refine Kd.C_drew ?_))); (case side2 => exact HC0_0.out); rintro e w11 ⟨rfl, hb⟩; refine ⟨_, rfl, ?_⟩; have n0_ := Aside0.mk (blk_below (g := gb221) (o := .cells #[.slice A0_0 l0_0.length c0_0, .int .i64 a0_1, .bool a0_2, .slice A0_3 l0_3.length c0_3, .slice A0_4 l0_4.length c0_4] 31 (0, 0)) (by (with_reducible repeat (first | refine blk_drewN ?_ _ | refine blk_drew ?_ | refine blk_alloc ?_ _)); exact BK221.out) hb); have n1_ := Aside0.mk (below_step (by repeat (first | (with_reducible first | exact HB.out | apply below_alloc | apply pw_below_drewN | apply below_drew1 | refine below_set ?_ GE221.out) | exact HB.out)) hb); clear BK221; clear HB; have BK221 := n0_; have HB := n1_; clear n0_ n1_; (try clear hb); (try clear hb2); (try clear hk); (try clear hi); have hcz12_0 : w11.cell? ⟨gb221, 0, none⟩ = some (.slice A0_0 l0_0.length c0_0) := (blk_cell BK221.out 0).trans rfl; have hcz12_1 : w11.cell? ⟨gb221, 1, none⟩ = some (.int .i64 a0_1) := (blk_cell BK221.out 1).trans rfl; have hcz12_2 : w11.cell? ⟨gb221, 2, none⟩ = some (.bool a0_2) := (blk_cell BK221.out 2).trans rfl; have hcz12_3 : w11.cell? ⟨gb221, 3, none⟩ = some (.slice A0_3 l0_3.length c0_3) := (blk_cell BK221.out 3).trans rfl; have hcz12_4 : w11.cell? ⟨gb221, 4, none⟩ = some (.slice A0_4 l0_4.length c0_4) := (blk_cell BK221.out 4).trans rfl; have hfz12_0 := blk_frozen BK221.out 0; have hfz12_1 := blk_frozen BK221.out 1; have hfz12_2 := blk_frozen BK221.out 2; have hfz12_3 := blk_frozen BK221.out 3; have hfz12_4 := blk_frozen BK221.out 4) | (go_at_call 68; (with_reducible refine (impl_Tone_valid.calls a0_1 a0_2 true _ A4.out).mono ?_); rintro e w13 ⟨rfl, hb⟩; have n0_ := Aside0.mk (blk_below (g := gb221) (o := .cells #[.slice A0_0 l0_0.length c0_0, .int .i64 a0_1, .bool a0_2, .slice A0_3 l0_3.length c0_3, .slice A0_4 l0_4.length c0_4] 31 (0, 0)) (by (with_reducible repeat (first | refine blk_drewN ?_ _ | refine blk_drew ?_ | refine blk_alloc ?_ _)); exact BK221.out) hb); have n1_ := Aside0.mk (below_step (by repeat (first | (with_reducible first | exact HB.out | apply below_alloc | apply pw_below_drewN | apply below_drew1 | refine below_set ?_ GE221.out) | exact HB.out)) hb); clear BK221; clear HB; have BK221 := n0_; have HB := n1_; clear n0_ n1_; (try clear hb); (try clear hb2); (try clear hk); (try clear hi); have hcz14_0 : w13.cell? ⟨gb221, 0, none⟩ = some (.slice A0_0 l0_0.length c0_0) := (blk_cell BK221.out 0).trans rfl; have hcz14_1 : w13.cell? ⟨gb221, 1, none⟩ = some (.int .i64 a0_1) := (blk_cell BK221.out 1).trans rfl; have hcz14_2 : w13.cell? ⟨gb221, 2, none⟩ = some (.bool a0_2) := (blk_cell BK221.out 2).trans rfl; have hcz14_3 : w13.cell? ⟨gb221, 3, none⟩ = some (.slice A0_3 l0_3.length c0_3) := (blk_cell BK221.out 3).trans rfl; have hcz14_4 : w13.cell? ⟨gb221, 4, none⟩ = some (.slice A0_4 l0_4.length c0_4) := (blk_cell BK221.out 4).trans rfl; have hfz14_0 := blk_frozen BK221.out 0; have hfz14_1 := blk_frozen BK221.out 1; have hfz14_2 := blk_frozen BK221.out 2; have hfz14_3 := blk_frozen BK221.out 3; have hfz14_4 := blk_frozen BK221.out 4) | (go_at_call 87; (with_reducible refine (impl_tonesValid.calls k _ _ l0_3 1 4 true _ ?side1 ?side2 A6.out).mono ?_); (case side1 => repeat (first | exact (Kd.C_below HR0_3.out HB.out) | (with_reducible refine Kd.C_alloc ?_ _) | (with_reducible refine Kd.C_drewN ?_ _) | (with_reducible refine Kd.C_drew ?_))); (case side2 => exact HC0_3.out); rintro e w15 ⟨rfl, hb⟩; have n0_ := Aside0.mk (blk_below (g := gb221) (o := .cells #[.slice A0_0 l0_0.length c0_0, .int .i64 a0_1, .bool a0_2, .slice A0_3 l0_3.length c0_3, .slice A0_4 l0_4.length c0_4] 31 (0, 0)) (by (with_reducible repeat (first | refine blk_drewN ?_ _ | refine blk_drew ?_ | refine blk_alloc ?_ _)); exact BK221.out) hb); have n1_ := Aside0.mk (below_step (by repeat (first | (with_reducible first | exact HB.out | apply below_alloc | apply pw_below_drewN | apply below_drew1 | refine below_set ?_ GE221.out) | exact HB.out)) hb); clear BK221; clear HB; have BK221 := n0_; have HB := n1_; clear n0_ n1_; (try clear hb); (try clear hb2); (try clear hk); (try clear hi); have hcz16_0 : w15.cell? ⟨gb221, 0, none⟩ = some (.slice A0_0 l0_0.length c0_0) := (blk_cell BK221.out 0).trans rfl; have hcz16_1 : w15.cell? ⟨gb221, 1, none⟩ = some (.int .i64 a0_1) := (blk_cell BK221.out 1).trans rfl; have hcz16_2 : w15.cell? ⟨gb221, 2, none⟩ = some (.bool a0_2) := (blk_cell BK221.out 2).trans rfl; have hcz16_3 : w15.cell? ⟨gb221, 3, none⟩ = some (.slice A0_3 l0_3.length c0_3) := (blk_cell BK221.out 3).trans rfl; have hcz16_4 : w15.cell? ⟨gb221, 4, none⟩ = some (.slice A0_4 l0_4.length c0_4) := (blk_cell BK221.out 4).trans rfl; have hfz16_0 := blk_frozen BK221.out 0; have hfz16_1 := blk_frozen BK221.out 1; have hfz16_2 := blk_frozen BK221.out 2; have hfz16_3 := blk_frozen BK221.out 3; have hfz16_4 := blk_frozen BK221.out 4) | (go_at_call 87; (with_reducible refine (impl_tonesValid.calls k _ _ l0_4 1 4 t225 _ ?side1 ?side2 A8.out).mono ?_); (case side1 => repeat (first | exact (Kd.C_below HR0_4.out HB.out) | (with_reducible refine Kd.C_alloc ?_ _) | (with_reducible refine Kd.C_drewN ?_ _) | (with_reducible refine Kd.C_drew ?_))); (case side2 => exact HC0_4.out); rintro e w17 ⟨rfl, hb⟩; have n0_ := Aside0.mk (blk_below (g := gb221) (o := .cells #[.slice A0_0 l0_0.length c0_0, .int .i64 a0_1, .bool a0_2, .slice A0_3 l0_3.length c0_3, .slice A0_4 l0_4.length c0_4] 31 (0, 0)) (by (with_reducible repeat (first | refine blk_drewN ?_ _ | refine blk_drew ?_ | refine blk_alloc ?_ _)); exact BK221.out) hb); have n1_ := Aside0.mk (below_step (by repeat (first | (with_reducible first | exact HB.out | apply below_alloc | apply pw_below_drewN | apply below_drew1 | refine below_set ?_ GE221.out) | exact HB.out)) hb); clear BK221; clear HB; have BK221 := n0_; have HB := n1_; clear n0_ n1_; (try clear hb); (try clear hb2); (try clear hk); (try clear hi)))
    go_ret
    exact ⟨by first | rfl | (simp [errW_none, errW_some] <;> rfl) | (simp [*, errW_none, errW_some] <;> rfl), by repeat (first | (with_reducible first | exact HB.out | apply below_alloc | apply pw_below_drewN | apply below_drew1 | refine below_set ?_ GE221.out) | exact HB.out)⟩
   ·
    replace c7 := Bool.eq_false_iff.mpr c7; subst c7; have H1 : (some false) = some r := by rw [if_neg (show ¬ (false = true) by decide)] at H; exact H
    clear H; have H := H1; clear H1; obtain rfl := Option.some.inj H; go_enter Tryd.func48, Tryd.ntmps48
    go_wp2_with (first | ((with_reducible refine gate_dst (N := 1) rfl ?_); refine box_event ?hg (N := 1) ?hd (cs := #[.slice A0_0 l0_0.length c0_0, .int .i64 a0_1, .bool a0_2, .slice A0_3 l0_3.length c0_3, .slice A0_4 l0_4.length c0_4]) (t := 31) ?hr ?_; (case hd => rfl); (case hg => rfl); (case hr => first | (go_simp; done) | (go_simp; rfl)); intro gb221 hg w18 hbox hb; have n0_ := Aside0.mk (below_step (by repeat (first | (with_reducible first | exact HB.out | apply below_alloc | apply pw_below_drewN | apply below_drew1) | exact HB.out)) hb); have n1_ := Aside0.mk (hbox); have n2_ := Aside0.mk ((by rw [hg]; exact (below_size (by repeat (first | (with_reducible first | exact HB.out | apply below_alloc | apply pw_below_drewN | apply below_drew1) | exact HB.out))) : w.heap.size ≤ gb221)); have n3_ := Aside0.mk ((by rw [hg]; exact (below_size (by repeat (first | (with_reducible first | exact HB.out | apply below_alloc | apply pw_below_drewN | apply below_drew1) | exact HB.out))) : w.heap.size ≤ gb221)); clear HB; have HB := n0_; have BK221 := n1_; have GW221 := n2_; have GE221 := n3_; clear n0_ n1_ n2_ n3_; clear hb hbox hg; have hcz19_0 : w18.cell? ⟨gb221, 0, none⟩ = some (.slice A0_0 l0_0.length c0_0) := (blk_cell BK221.out 0).trans rfl; have hcz19_1 : w18.cell? ⟨gb221, 1, none⟩ = some (.int .i64 a0_1) := (blk_cell BK221.out 1).trans rfl; have hcz19_2 : w18.cell? ⟨gb221, 2, none⟩ = some (.bool a0_2) := (blk_cell BK221.out 2).trans rfl; have hcz19_3 : w18.cell? ⟨gb221, 3, none⟩ = some (.slice A0_3 l0_3.length c0_3) := (blk_cell BK221.out 3).trans rfl; have hcz19_4 : w18.cell? ⟨gb221, 4, none⟩ = some (.slice A0_4 l0_4.length c0_4) := (blk_cell BK221.out 4).trans rfl; have hfz19_0 := blk_frozen BK221.out 0; have hfz19_1 := blk_frozen BK221.out 1; have hfz19_2 := blk_frozen BK221.out 2; have hfz19_3 := blk_frozen BK221.out 3; have hfz19_4 := blk_frozen BK221.out 4) | ((with_reducible refine gate_callee (f := 87) rfl ?_); refine goesL_ (some 5) rfl rfl Tryd.func87 (by kernel_rfl) rfl #[.slice A0_0 l0_0.length c0_0, .int .i64 0, .int .i64 3] rfl (by (try simp only [List.map_toArray, List.map_cons, List.map_nil]); first | done | rfl | (simp only [List.length_drop, List.length_take]; rfl)) ?_; (with_reducible refine (impl_tonesValid.calls k _ _ l0_0 0 3 true _ ?side1 ?side2 A2.out).mono ?_); (case side1 => repeat (first | exact (Kd.C_below HR0_0.out HB.out) | (with_reducible refine Kd.C_alloc ?_ _) | (with_reducible refine Kd.C_drewN ?_ _) | (with_reducible refine Kd.C_drew ?_))); (case side2 => exact HC0_0.out); rintro e w20 ⟨rfl, hb⟩; refine ⟨_, rfl, ?_⟩; have n0_ := Aside0.mk (blk_below (g := gb221) (o := .cells #[.slice A0_0 l0_0.length c0_0, .int .i64 a0_1, .bool a0_2, .slice A0_3 l0_3.length c0_3, .slice A0_4 l0_4.length c0_4] 31 (0, 0)) (by (with_reducible repeat (first | refine blk_drewN ?_ _ | refine blk_drew ?_ | refine blk_alloc ?_ _)); exact BK221.out) hb); have n1_ := Aside0.mk (below_step (by repeat (first | (with_reducible first | exact HB.out | apply below_alloc | apply pw_below_drewN | apply below_drew1 | refine below_set ?_ GE221.out) | exact HB.out)) hb); clear BK221; clear HB; have BK221 := n0_; have HB := n1_; clear n0_ n1_; (try clear hb); (try clear hb2); (try clear hk); (try clear hi); have hcz21_0 : w20.cell? ⟨gb221, 0, none⟩ = some (.slice A0_0 l0_0.length c0_0) := (blk_cell BK221.out 0).trans rfl; have hcz21_1 : w20.cell? ⟨gb221, 1, none⟩ = some (.int .i64 a0_1) := (blk_cell BK221.out 1).trans rfl; have hcz21_2 : w20.cell? ⟨gb221, 2, none⟩ = some (.bool a0_2) := (blk_cell BK221.out 2).trans rfl; have hcz21_3 : w20.cell? ⟨gb221, 3, none⟩ = some (.slice A0_3 l0_3.length c0_3) := (blk_cell BK221.out 3).trans rfl; have hcz21_4 : w20.cell? ⟨gb221, 4, none⟩ = some (.slice A0_4 l0_4.length c0_4) := (blk_cell BK221.out 4).trans rfl; have hfz21_0 := blk_frozen BK221.out 0; have hfz21_1 := blk_frozen BK221.out 1; have hfz21_2 := blk_frozen BK221.out 2; have hfz21_3 := blk_frozen BK221.out 3; have hfz21_4 := blk_frozen BK221.out 4) | (go_at_call 68; (with_reducible refine (impl_Tone_valid.calls a0_1 a0_2 true _ A4.out).mono ?_); rintro e w22 ⟨rfl, hb⟩; have n0_ := Aside0.mk (blk_below (g := gb221) (o := .cells #[.slice A0_0 l0_0.length c0_0, .int .i64 a0_1, .bool a0_2, .slice A0_3 l0_3.length c0_3, .slice A0_4 l0_4.length c0_4] 31 (0, 0)) (by (with_reducible repeat (first | refine blk_drewN ?_ _ | refine blk_drew ?_ | refine blk_alloc ?_ _)); exact BK221.out) hb); have n1_ := Aside0.mk (below_step (by repeat (first | (with_reducible first | exact HB.out | apply below_alloc | apply pw_below_drewN | apply below_drew1 | refine below_set ?_ GE221.out) | exact HB.out)) hb); clear BK221; clear HB; have BK221 := n0_; have HB := n1_; clear n0_ n1_; (try clear hb); (try clear hb2); (try clear hk); (try clear hi); have hcz23_0 : w22.cell? ⟨gb221, 0, none⟩ = some (.slice A0_0 l0_0.length c0_0) := (blk_cell BK221.out 0).trans rfl; have hcz23_1 : w22.cell? ⟨gb221, 1, none⟩ = some (.int .i64 a0_1) := (blk_cell BK221.out 1).trans rfl; have hcz23_2 : w22.cell? ⟨gb221, 2, none⟩ = some (.bool a0_2) := (blk_cell BK221.out 2).trans rfl; have hcz23_3 : w22.cell? ⟨gb221, 3, none⟩ = some (.slice A0_3 l0_3.length c0_3) := (blk_cell BK221.out 3).trans rfl; have hcz23_4 : w22.cell? ⟨gb221, 4, none⟩ = some (.slice A0_4 l0_4.length c0_4) := (blk_cell BK221.out 4).trans rfl; have hfz23_0 := blk_frozen BK221.out 0; have hfz23_1 := blk_frozen BK221.out 1; have hfz23_2 := blk_frozen BK221.out 2; have hfz23_3 := blk_frozen BK221.out 3; have hfz23_4 := blk_frozen BK221.out 4) | (go_at_call 87; (with_reducible refine (impl_tonesValid.calls k _ _ l0_3 1 4 false _ ?side1 ?side2 A6.out).mono ?_); (case side1 => repeat (first | exact (Kd.C_below HR0_3.out HB.out) | (with_reducible refine Kd.C_alloc ?_ _) | (with_reducible refine Kd.C_drewN ?_ _) | (with_reducible refine Kd.C_drew ?_))); (case side2 => exact HC0_3.out); rintro e w24 ⟨rfl, hb⟩; have n0_ := Aside0.mk (blk_below (g := gb221) (o := .cells #[.slice A0_0 l0_0.length c0_0, .int .i64 a0_1, .bool a0_2, .slice A0_3 l0_3.length c0_3, .slice A0_4 l0_4.length c0_4] 31 (0, 0)) (by (with_reducible repeat (first | refine blk_drewN ?_ _ | refine blk_drew ?_ | refine blk_alloc ?_ _)); exact BK221.out) hb); have n1_ := Aside0.mk (below_step (by repeat (first | (with_reducible first | exact HB.out | apply below_alloc | apply pw_below_drewN | apply below_drew1 | refine below_set ?_ GE221.out) | exact HB.out)) hb); clear BK221; clear HB; have BK221 := n0_; have HB := n1_; clear n0_ n1_; (try clear hb); (try clear hb2); (try clear hk); (try clear hi)))
    go_ret
    exact ⟨by first | rfl | (simp [errW_none, errW_some] <;> rfl) | (simp [*, errW_none, errW_some] <;> rfl), by repeat (first | (with_reducible first | exact HB.out | apply below_alloc | apply pw_below_drewN | apply below_drew1 | refine below_set ?_ GE221.out) | exact HB.out)⟩
  ·
   replace c5 := Bool.eq_false_iff.mpr c5; subst c5; have H1 : (some false) = some r := by rw [if_neg (show ¬ (false = true) by decide)] at H; exact H
   clear H; have H := H1; clear H1; obtain rfl := Option.some.inj H; go_enter Tryd.func48, Tryd.ntmps48
   go_wp2_with (first | ((with_reducible refine gate_dst (N := 1) rfl ?_); refine box_event ?hg (N := 1) ?hd (cs := #[.slice A0_0 l0_0.length c0_0, .int .i64 a0_1, .bool a0_2, .slice A0_3 l0_3.length c0_3, .slice A0_4 l0_4.length c0_4]) (t := 31) ?hr ?_; (case hd => rfl); (case hg => rfl); (case hr => first | (go_simp; done) | (go_simp; rfl)); intro gb221 hg w25 hbox hb; have n0_ := Aside0.mk (below_step (by repeat (first | (with_reducible first | exact HB.out | apply below_alloc | apply pw_below_drewN | apply below_drew1) | exact HB.out)) hb); have n1_ := Aside0.mk (hbox); have n2_ := Aside0.mk ((by rw [hg]; exact (below_size (by repeat (first | (with_reducible first | exact HB.out | apply below_alloc | apply pw_below_drewN | apply below_drew1) | exact HB.out))) : w.heap.size ≤ gb221)); have n3_ := Aside0.mk ((by rw [hg]; exact (below_size (by repeat (first | (with_reducible first | exact HB.out | apply below_alloc | apply pw_below_drewN | apply below_drew1) | exact HB.out))) : w.heap.size ≤ gb221)); clear HB; have HB := n0_; have BK221 := n1_; have GW221 := n2_; have GE221 := n3_; clear n0_ n1_ n2_ n3_; clear hb hbox hg; have hcz26_0 : w25.cell? ⟨gb221, 0, none⟩ = some (.slice A0_0 l0_0.length c0_0) := (blk_cell BK221.out 0).trans rfl; have hcz26_1 : w25.cell? ⟨gb221, 1, none⟩ = some (.int .i64 a0_1) := (blk_cell BK221.out 1).trans rfl; have hcz26_2 : w25.cell? ⟨gb221, 2, none⟩ = some (.bool a0_2) := (blk_cell BK221.out 2).trans rfl; have hcz26_3 : w25.cell? ⟨gb221, 3, none⟩ = some (.slice A0_3 l0_3.length c0_3) := (blk_cell BK221.out 3).trans rfl; have hcz26_4 : w25.cell? ⟨gb221, 4, none⟩ = some (.slice A0_4 l0_4.length c0_4) := (blk_cell BK221.out 4).trans rfl; have hfz26_0 := blk_frozen BK221.out 0; have hfz26_1 := blk_frozen BK221.out 1; have hfz26_2 := blk_frozen BK221.out 2; have hfz26_3 := blk_frozen BK221.out 3; have hfz26_4 := blk_frozen BK221.out 4) | ((with_reducible refine gate_callee (f := 87) rfl ?_); refine goesL_ (some 5) rfl rfl Tryd.func87 (by kernel_rfl) rfl #[.slice A0_0 l0_0.length c0_0, .int .i64 0, .int .i64 3] rfl (by (try simp only [List.map_toArray, List.map_cons, List.map_nil]); first | done | rfl | (simp only [List.length_drop, List.length_take]; rfl)) ?_; (with_reducible refine (impl_tonesValid.calls k _ _ l0_0 0 3 true _ ?side1 ?side2 A2.out).mono ?_); (case side1 => repeat (first | exact (Kd.C_below HR0_0.out HB.out) | (with_reducible refine Kd.C_alloc ?_ _) | (with_reducible refine Kd.C_drewN ?_ _) | (with_reducible refine Kd.C_drew ?_))); (case side2 => exact HC0_0.out); rintro e w27 ⟨rfl, hb⟩; refine ⟨_, rfl, ?_⟩; have n0_ := Aside0.mk (blk_below (g := gb221) (o := .cells #[.slice A0_0 l0_0.length c0_0, .int .i64 a0_1, .bool a0_2, .slice A0_3 l0_3.length c0_3, .slice A0_4 l0_4.length c0_4] 31 (0, 0)) (by (with_reducible repeat (first | refine blk_drewN ?_ _ | refine blk_drew ?_ | refine blk_alloc ?_ _)); exact BK221.out) hb); have n1_ := Aside0.mk (below_step (by repeat (first | (with_reducible first | exact HB.out | apply below_alloc | apply pw_below_drewN | apply below_drew1 | refine below_set ?_ GE221.out) | exact HB.out)) hb); clear BK221; clear HB; have BK221 := n0_; have HB := n1_; clear n0_ n1_; (try clear hb); (try clear hb2); (try clear hk); (try clear hi); have hcz28_0 : w27.cell? ⟨gb221, 0, none⟩ = some (.slice A0_0 l0_0.length c0_0) := (blk_cell BK221.out 0).trans rfl; have hcz28_1 : w27.cell? ⟨gb221, 1, none⟩ = some (.int .i64 a0_1) := (blk_cell BK221.out 1).trans rfl; have hcz28_2 : w27.cell? ⟨gb221, 2, none⟩ = some (.bool a0_2) := (blk_cell BK221.out 2).trans rfl; have hcz28_3 : w27.cell? ⟨gb221, 3, none⟩ = some (.slice A0_3 l0_3.length c0_3) := (blk_cell BK221.out 3).trans rfl; have hcz28_4 : w27.cell? ⟨gb221, 4, none⟩ = some (.slice A0_4 l0_4.length c0_4) := (blk_cell BK221.out 4).trans rfl; have hfz28_0 := blk_frozen BK221.out 0; have hfz28_1 := blk_frozen BK221.out 1; have hfz28_2 := blk_frozen BK221.out 2; have hfz28_3 := blk_frozen BK221.out 3; have hfz28_4 := blk_frozen BK221.out 4) | (go_at_call 68; (with_reducible refine (impl_Tone_valid.calls a0_1 a0_2 false _ A4.out).mono ?_); rintro e w29 ⟨rfl, hb⟩; have n0_ := Aside0.mk (blk_below (g := gb221) (o := .cells #[.slice A0_0 l0_0.length c0_0, .int .i64 a0_1, .bool a0_2, .slice A0_3 l0_3.length c0_3, .slice A0_4 l0_4.length c0_4] 31 (0, 0)) (by (with_reducible repeat (first | refine blk_drewN ?_ _ | refine blk_drew ?_ | refine blk_alloc ?_ _)); exact BK221.out) hb); have n1_ := Aside0.mk (below_step (by repeat (first | (with_reducible first | exact HB.out | apply below_alloc | apply pw_below_drewN | apply below_drew1 | refine below_set ?_ GE221.out) | exact HB.out)) hb); clear BK221; clear HB; have BK221 := n0_; have HB := n1_; clear n0_ n1_; (try clear hb); (try clear hb2); (try clear hk); (try clear hi)))
   go_ret
   exact ⟨by first | rfl | (simp [errW_none, errW_some] <;> rfl) | (simp [*, errW_none, errW_some] <;> rfl), by repeat (first | (with_reducible first | exact HB.out | apply below_alloc | apply pw_below_drewN | apply below_drew1 | refine below_set ?_ GE221.out) | exact HB.out)⟩
 ·
  replace c3 := Bool.eq_false_iff.mpr c3; subst c3; have H1 : (some false) = some r := by rw [if_neg (show ¬ (false = true) by decide)] at H; exact H
  clear H; have H := H1; clear H1; obtain rfl := Option.some.inj H; go_enter Tryd.func48, Tryd.ntmps48
  go_wp2_with (first | ((with_reducible refine gate_dst (N := 1) rfl ?_); refine box_event ?hg (N := 1) ?hd (cs := #[.slice A0_0 l0_0.length c0_0, .int .i64 a0_1, .bool a0_2, .slice A0_3 l0_3.length c0_3, .slice A0_4 l0_4.length c0_4]) (t := 31) ?hr ?_; (case hd => rfl); (case hg => rfl); (case hr => first | (go_simp; done) | (go_simp; rfl)); intro gb221 hg w30 hbox hb; have n0_ := Aside0.mk (below_step (by repeat (first | (with_reducible first | exact HB.out | apply below_alloc | apply pw_below_drewN | apply below_drew1) | exact HB.out)) hb); have n1_ := Aside0.mk (hbox); have n2_ := Aside0.mk ((by rw [hg]; exact (below_size (by repeat (first | (with_reducible first | exact HB.out | apply below_alloc | apply pw_below_drewN | apply below_drew1) | exact HB.out))) : w.heap.size ≤ gb221)); have n3_ := Aside0.mk ((by rw [hg]; exact (below_size (by repeat (first | (with_reducible first | exact HB.out | apply below_alloc | apply pw_below_drewN | apply below_drew1) | exact HB.out))) : w.heap.size ≤ gb221)); clear HB; have HB := n0_; have BK221 := n1_; have GW221 := n2_; have GE221 := n3_; clear n0_ n1_ n2_ n3_; clear hb hbox hg; have hcz31_0 : w30.cell? ⟨gb221, 0, none⟩ = some (.slice A0_0 l0_0.length c0_0) := (blk_cell BK221.out 0).trans rfl; have hcz31_1 : w30.cell? ⟨gb221, 1, none⟩ = some (.int .i64 a0_1) := (blk_cell BK221.out 1).trans rfl; have hcz31_2 : w30.cell? ⟨gb221, 2, none⟩ = some (.bool a0_2) := (blk_cell BK221.out 2).trans rfl; have hcz31_3 : w30.cell? ⟨gb221, 3, none⟩ = some (.slice A0_3 l0_3.length c0_3) := (blk_cell BK221.out 3).trans rfl; have hcz31_4 : w30.cell? ⟨gb221, 4, none⟩ = some (.slice A0_4 l0_4.length c0_4) := (blk_cell BK221.out 4).trans rfl; have hfz31_0 := blk_frozen BK221.out 0; have hfz31_1 := blk_frozen BK221.out 1; have hfz31_2 := blk_frozen BK221.out 2; have hfz31_3 := blk_frozen BK221.out 3; have hfz31_4 := blk_frozen BK221.out 4) | ((with_reducible refine gate_callee (f := 87) rfl ?_); refine goesL_ (some 5) rfl rfl Tryd.func87 (by kernel_rfl) rfl #[.slice A0_0 l0_0.length c0_0, .int .i64 0, .int .i64 3] rfl (by (try simp only [List.map_toArray, List.map_cons, List.map_nil]); first | done | rfl | (simp only [List.length_drop, List.length_take]; rfl)) ?_; (with_reducible refine (impl_tonesValid.calls k _ _ l0_0 0 3 false _ ?side1 ?side2 A2.out).mono ?_); (case side1 => repeat (first | exact (Kd.C_below HR0_0.out HB.out) | (with_reducible refine Kd.C_alloc ?_ _) | (with_reducible refine Kd.C_drewN ?_ _) | (with_reducible refine Kd.C_drew ?_))); (case side2 => exact HC0_0.out); rintro e w32 ⟨rfl, hb⟩; refine ⟨_, rfl, ?_⟩; have n0_ := Aside0.mk (blk_below (g := gb221) (o := .cells #[.slice A0_0 l0_0.length c0_0, .int .i64 a0_1, .bool a0_2, .slice A0_3 l0_3.length c0_3, .slice A0_4 l0_4.length c0_4] 31 (0, 0)) (by (with_reducible repeat (first | refine blk_drewN ?_ _ | refine blk_drew ?_ | refine blk_alloc ?_ _)); exact BK221.out) hb); have n1_ := Aside0.mk (below_step (by repeat (first | (with_reducible first | exact HB.out | apply below_alloc | apply pw_below_drewN | apply below_drew1 | refine below_set ?_ GE221.out) | exact HB.out)) hb); clear BK221; clear HB; have BK221 := n0_; have HB := n1_; clear n0_ n1_; (try clear hb); (try clear hb2); (try clear hk); (try clear hi)))
  go_ret
  exact ⟨by first | rfl | (simp [errW_none, errW_some] <;> rfl) | (simp [*, errW_none, errW_some] <;> rfl), by repeat (first | (with_reducible first | exact HB.out | apply below_alloc | apply pw_below_drewN | apply below_drew1 | refine below_set ?_ GE221.out) | exact HB.out)⟩

end Go.Proofs.YtpcohkffbjdmfaaDoor.PFnExactPsalmMove
namespace Go.Proofs.YtpcohkffbjdmfaaDoor.PFnExactPsalmMove
set_option linter.unusedVariables false
set_option linter.unusedSimpArgs false
open Go Go.RowKit Go.Proofs.YtpcohkffbjdmfaaDoor.Pure Go.Proofs.YtpcohkffbjdmfaaDoorW.PrintWords Go.Proofs.YtpcohkffbjdmfaaDoorW.PrintLast Go.Proofs.YtpcohkffbjdmfaaDoorW.PrintMore
def impl_copiedTones.f (l0 : List S29) : Option (List S29) := if l0.length ≤ 1000000000000 then some l0 else none
theorem impl_copiedTones.calls (A0 : Option Addr) (c0 : Nat) (l0 : List S29) (r : List S29) (w : World) (hr0 : Kd.C k29 w A0 l0.length l0) (hc0 : l0.length ≤ c0) (h : impl_copiedTones.f l0 = some r) :
 Calls Tryd.prog 49 #[.slice A0 l0.length c0] w fun e w' => ∃ v0_ : Value, e = .returned (v0_) ∧ Kd.R k29 29 w' w.heap.size (fun _ => True) v0_ r ∧ Below w.heap.size w w' := by
 unfold impl_copiedTones.f at h; split at h
 ·
  rename_i hh
  injection h with h
  subst h; exact impl_copiedTones_calls l0 A0 c0 w hr0 hc0 hh
 ·
  cases h

end Go.Proofs.YtpcohkffbjdmfaaDoor.PFnExactPsalmMove
