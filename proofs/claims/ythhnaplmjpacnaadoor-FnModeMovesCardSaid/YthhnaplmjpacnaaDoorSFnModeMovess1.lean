/- Lemmas for the law FnModeMoves. -/
import Derived.Test.YthhnaplmjpacnaaDoorProg
import Derived.BigRegion
import Derived.Deep.Slices
import Derived.Laws.CopyOwn
import Derived.Test.YthhnaplmjpacnaaDoorSFnModeMovess0
namespace Go.Proofs.YthhnaplmjpacnaaDoor.PFnModeMoves
open Go.RowKit Go.Proofs.YthhnaplmjpacnaaDoorW.PrintWords Go.Proofs.YthhnaplmjpacnaaDoorW.PrintLast Go.Proofs.YthhnaplmjpacnaaDoorW.PrintMore
attribute [local go_sem] max2_int min2_int max_two min_two max_three min_three max_four min_four   -- for this text's walks alone
set_option linter.unusedVariables false
set_option linter.unusedSimpArgs false



def errW : Option Int → Value
 | none => .nilIface
 | some c => .iface 0 (.int .i64 c)
theorem errW_none : errW none = .nilIface := rfl
theorem errW_some (c : Int) : errW (some c) = .iface 0 (.int .i64 c) := rfl

theorem info3 : (Tryd.prog.info? 3).map (fun i => (i.zero, i.size, i.bytes)) = some (some (.int .i64 0), 1, 8) := by kernel_rfl
theorem info5 : (Tryd.prog.info? 5).map (fun i => (i.zero, i.size, i.bytes)) = some (some (.int .u8 0), 1, 1) := by kernel_rfl
theorem info29 : (Tryd.prog.info? 29).map (fun i => (i.zero, i.size, i.bytes)) = some (some (.agg #[(.int .i64 0), (.bool false)]), 2, 16) := by kernel_rfl
structure S29 where
 f0 : Int
 f1 : Bool
def z29 : S29 := ⟨(0 : Int), false⟩
def k29 : Kd S29 := Kd.iso (Kd.pair (Kd.int .i64) Kd.bool) (fun x : S29 => (x.f0, x.f1))
theorem k29_open {w : World} {x : S29} {cs : List Value} (h : k29.K w x cs) : cs = [.int .i64 x.f0, .bool x.f1] := by
 obtain ⟨_, _, rfl, rfl, rfl⟩ := h; exact rfl
theorem k29_openM {w : World} {base : Nat} {ok : Nat → Prop} {x : S29} {cs : List Value} (h : k29.M w base ok x cs) : cs = [.int .i64 x.f0, .bool x.f1] := by
 obtain ⟨_, _, rfl, rfl, rfl⟩ := h; exact rfl
theorem k29_mkM (w : World) (base : Nat) (ok : Nat → Prop) (x : S29)  : k29.M w base ok x [.int .i64 x.f0, .bool x.f1] := ⟨[.int .i64 x.f0], [.bool x.f1], rfl, rfl, rfl⟩
def rd_T29 (xs : List S29) (i : Int) : S29 := xs.getD i.toNat z29
theorem at_T29 {w : World} {A : Option Addr} {n : Nat} {xs : List S29} (h : Kd.C k29 w A n xs) (i : Int) (h0 : 0 ≤ i) (h1 : i < n) : ∃ ad , A = some ad ∧ w.cell? (ad.add (i.toNat * 2)) = some (.int .i64 (rd_T29 xs i).f0) ∧ w.cell? ⟨(ad.add (i.toNat * 2)).block, (ad.add (i.toNat * 2)).off + 1, none⟩ = some (.bool (rd_T29 xs i).f1) := by
 obtain ⟨ad, c, e, _, hK, hc0⟩ := Kd.C_get h z29 i h0 h1; have hc : ∀ j u, c[j]? = some u → w.cell? (ad.add (i.toNat * 2 + j)) = some u := hc0; obtain rfl := k29_open hK; exact ⟨ad, e, hc 0 _ rfl, by rw [← add_field _ _ 1 (by omega)]; exact hc 1 _ rfl⟩

end Go.Proofs.YthhnaplmjpacnaaDoor.PFnModeMoves
namespace Go.Proofs.YthhnaplmjpacnaaDoor.PFnModeMoves
open Go.RowKit Go.Proofs.YthhnaplmjpacnaaDoorW.PrintWords Go.Proofs.YthhnaplmjpacnaaDoorW.PrintLast Go.Proofs.YthhnaplmjpacnaaDoorW.PrintMore
attribute [local go_sem] max2_int min2_int max_two min_two max_three min_three max_four min_four   -- for this text's walks alone
set_option linter.unusedVariables false
set_option linter.unusedSimpArgs false

def impl_Tone_valid.f (a0_0 : Int) (a0_1 : Bool) : Option (Bool) := if a0_0 ≥ 0 then (if a0_0 ≤ 20 then (if a0_1 = true then (some ((Int.tmod a0_0 7) == 2)) else (some true)) else (some false)) else (some false)
set_option maxHeartbeats 8000000 in
set_option maxRecDepth 100000 in
theorem impl_Tone_valid.calls (a0_0 : Int) (a0_1 : Bool) (r : Bool) (w : World) (h : impl_Tone_valid.f a0_0 a0_1 = some r) :
 Calls Tryd.prog 88 #[.agg #[.int .i64 a0_0, .bool a0_1]] w fun e w' => e = .returned (.bool r) ∧ Below w.heap.size w w' := by
 have hu29 := Tryd.underlying29; have HB := Aside0.mk (Below.refl w.heap.size w); have H : (if a0_0 ≥ 0 then (if a0_0 ≤ 20 then (if a0_1 = true then (some ((Int.tmod a0_0 7) == 2)) else (some true)) else (some false)) else (some false)) = some r := h; clear h; by_cases c2 : a0_0 ≥ 0
 ·
  rw [if_pos c2] at H; have c2b0 : decide (0 ≤ a0_0) = true := decide_eq_true c2; clear c2; by_cases c3 : a0_0 ≤ 20
  ·
   rw [if_pos c3] at H; have c3b0 : decide (a0_0 ≤ 20) = true := decide_eq_true c3; clear c3; by_cases c4 : a0_1 = true
   ·
    subst c4; have H1 : (some ((Int.tmod a0_0 7) == 2)) = some r := by rw [if_pos rfl] at H; exact H
    clear H; have H := H1; clear H1; obtain rfl := Option.some.inj H; go_enter Tryd.func88, Tryd.ntmps88
    go_wp2_with (first | ((with_reducible refine gate_dst (N := 1) rfl ?_); refine box_event ?hg (N := 1) ?hd (cs := #[.int .i64 a0_0, .bool true]) (t := 29) ?hr ?_; (case hd => rfl); (case hg => rfl); (case hr => first | (go_simp; done) | (go_simp; rfl)); intro gb101 hg w5 hbox hb; have n0_ := Aside0.mk (below_step (by repeat (first | (with_reducible first | exact HB.out | apply below_alloc | apply pw_below_drewN | apply below_drew1) | exact HB.out)) hb); have n1_ := Aside0.mk (hbox); have n2_ := Aside0.mk ((by rw [hg]; exact (below_size (by repeat (first | (with_reducible first | exact HB.out | apply below_alloc | apply pw_below_drewN | apply below_drew1) | exact HB.out))) : w.heap.size ≤ gb101)); have n3_ := Aside0.mk ((by rw [hg]; exact (below_size (by repeat (first | (with_reducible first | exact HB.out | apply below_alloc | apply pw_below_drewN | apply below_drew1) | exact HB.out))) : w.heap.size ≤ gb101)); clear HB; have HB := n0_; have BK101 := n1_; have GW101 := n2_; have GE101 := n3_; clear n0_ n1_ n2_ n3_; clear hb hbox hg; have hcz6_0 : w5.cell? ⟨gb101, 0, none⟩ = some (.int .i64 a0_0) := (blk_cell BK101.out 0).trans rfl; have hcz6_1 : w5.cell? ⟨gb101, 1, none⟩ = some (.bool true) := (blk_cell BK101.out 1).trans rfl; have hfz6_0 := blk_frozen BK101.out 0; have hfz6_1 := blk_frozen BK101.out 1))
    go_ret
    exact ⟨by first | rfl | (simp [errW_none, errW_some] <;> rfl) | (simp [*, errW_none, errW_some] <;> rfl), by repeat (first | (with_reducible first | exact HB.out | apply below_alloc | apply pw_below_drewN | apply below_drew1 | refine below_set ?_ GE101.out) | exact HB.out)⟩
   ·
    replace c4 := Bool.eq_false_iff.mpr c4; subst c4; have H1 : (some true) = some r := by rw [if_neg (show ¬ (false = true) by decide)] at H; exact H
    clear H; have H := H1; clear H1; obtain rfl := Option.some.inj H; go_enter Tryd.func88, Tryd.ntmps88
    go_wp2_with (first | ((with_reducible refine gate_dst (N := 1) rfl ?_); refine box_event ?hg (N := 1) ?hd (cs := #[.int .i64 a0_0, .bool false]) (t := 29) ?hr ?_; (case hd => rfl); (case hg => rfl); (case hr => first | (go_simp; done) | (go_simp; rfl)); intro gb101 hg w7 hbox hb; have n0_ := Aside0.mk (below_step (by repeat (first | (with_reducible first | exact HB.out | apply below_alloc | apply pw_below_drewN | apply below_drew1) | exact HB.out)) hb); have n1_ := Aside0.mk (hbox); have n2_ := Aside0.mk ((by rw [hg]; exact (below_size (by repeat (first | (with_reducible first | exact HB.out | apply below_alloc | apply pw_below_drewN | apply below_drew1) | exact HB.out))) : w.heap.size ≤ gb101)); have n3_ := Aside0.mk ((by rw [hg]; exact (below_size (by repeat (first | (with_reducible first | exact HB.out | apply below_alloc | apply pw_below_drewN | apply below_drew1) | exact HB.out))) : w.heap.size ≤ gb101)); clear HB; have HB := n0_; have BK101 := n1_; have GW101 := n2_; have GE101 := n3_; clear n0_ n1_ n2_ n3_; clear hb hbox hg; have hcz8_0 : w7.cell? ⟨gb101, 0, none⟩ = some (.int .i64 a0_0) := (blk_cell BK101.out 0).trans rfl; have hcz8_1 : w7.cell? ⟨gb101, 1, none⟩ = some (.bool false) := (blk_cell BK101.out 1).trans rfl; have hfz8_0 := blk_frozen BK101.out 0; have hfz8_1 := blk_frozen BK101.out 1))
    go_ret
    exact ⟨by first | rfl | (simp [errW_none, errW_some] <;> rfl) | (simp [*, errW_none, errW_some] <;> rfl), by repeat (first | (with_reducible first | exact HB.out | apply below_alloc | apply pw_below_drewN | apply below_drew1 | refine below_set ?_ GE101.out) | exact HB.out)⟩
  ·
   rw [if_neg c3] at H; have c3b0 : decide (a0_0 ≤ 20) = false := decide_eq_false c3; clear c3; obtain rfl := Option.some.inj H; go_enter Tryd.func88, Tryd.ntmps88
   go_wp2_with (first | ((with_reducible refine gate_dst (N := 1) rfl ?_); refine box_event ?hg (N := 1) ?hd (cs := #[.int .i64 a0_0, .bool a0_1]) (t := 29) ?hr ?_; (case hd => rfl); (case hg => rfl); (case hr => first | (go_simp; done) | (go_simp; rfl)); intro gb101 hg w9 hbox hb; have n0_ := Aside0.mk (below_step (by repeat (first | (with_reducible first | exact HB.out | apply below_alloc | apply pw_below_drewN | apply below_drew1) | exact HB.out)) hb); have n1_ := Aside0.mk (hbox); have n2_ := Aside0.mk ((by rw [hg]; exact (below_size (by repeat (first | (with_reducible first | exact HB.out | apply below_alloc | apply pw_below_drewN | apply below_drew1) | exact HB.out))) : w.heap.size ≤ gb101)); have n3_ := Aside0.mk ((by rw [hg]; exact (below_size (by repeat (first | (with_reducible first | exact HB.out | apply below_alloc | apply pw_below_drewN | apply below_drew1) | exact HB.out))) : w.heap.size ≤ gb101)); clear HB; have HB := n0_; have BK101 := n1_; have GW101 := n2_; have GE101 := n3_; clear n0_ n1_ n2_ n3_; clear hb hbox hg; have hcz10_0 : w9.cell? ⟨gb101, 0, none⟩ = some (.int .i64 a0_0) := (blk_cell BK101.out 0).trans rfl; have hcz10_1 : w9.cell? ⟨gb101, 1, none⟩ = some (.bool a0_1) := (blk_cell BK101.out 1).trans rfl; have hfz10_0 := blk_frozen BK101.out 0; have hfz10_1 := blk_frozen BK101.out 1))
   go_ret
   exact ⟨by first | rfl | (simp [errW_none, errW_some] <;> rfl) | (simp [*, errW_none, errW_some] <;> rfl), by repeat (first | (with_reducible first | exact HB.out | apply below_alloc | apply pw_below_drewN | apply below_drew1 | refine below_set ?_ GE101.out) | exact HB.out)⟩
 ·
  rw [if_neg c2] at H; have c2b0 : decide (0 ≤ a0_0) = false := decide_eq_false c2; clear c2; obtain rfl := Option.some.inj H; go_enter Tryd.func88, Tryd.ntmps88
  go_wp2_with (first | ((with_reducible refine gate_dst (N := 1) rfl ?_); refine box_event ?hg (N := 1) ?hd (cs := #[.int .i64 a0_0, .bool a0_1]) (t := 29) ?hr ?_; (case hd => rfl); (case hg => rfl); (case hr => first | (go_simp; done) | (go_simp; rfl)); intro gb101 hg w11 hbox hb; have n0_ := Aside0.mk (below_step (by repeat (first | (with_reducible first | exact HB.out | apply below_alloc | apply pw_below_drewN | apply below_drew1) | exact HB.out)) hb); have n1_ := Aside0.mk (hbox); have n2_ := Aside0.mk ((by rw [hg]; exact (below_size (by repeat (first | (with_reducible first | exact HB.out | apply below_alloc | apply pw_below_drewN | apply below_drew1) | exact HB.out))) : w.heap.size ≤ gb101)); have n3_ := Aside0.mk ((by rw [hg]; exact (below_size (by repeat (first | (with_reducible first | exact HB.out | apply below_alloc | apply pw_below_drewN | apply below_drew1) | exact HB.out))) : w.heap.size ≤ gb101)); clear HB; have HB := n0_; have BK101 := n1_; have GW101 := n2_; have GE101 := n3_; clear n0_ n1_ n2_ n3_; clear hb hbox hg; have hcz12_0 : w11.cell? ⟨gb101, 0, none⟩ = some (.int .i64 a0_0) := (blk_cell BK101.out 0).trans rfl; have hcz12_1 : w11.cell? ⟨gb101, 1, none⟩ = some (.bool a0_1) := (blk_cell BK101.out 1).trans rfl; have hfz12_0 := blk_frozen BK101.out 0; have hfz12_1 := blk_frozen BK101.out 1))
  go_ret
  exact ⟨by first | rfl | (simp [errW_none, errW_some] <;> rfl) | (simp [*, errW_none, errW_some] <;> rfl), by repeat (first | (with_reducible first | exact HB.out | apply below_alloc | apply pw_below_drewN | apply below_drew1 | refine below_set ?_ GE101.out) | exact HB.out)⟩

end Go.Proofs.YthhnaplmjpacnaaDoor.PFnModeMoves
namespace Go.Proofs.YthhnaplmjpacnaaDoor.PFnModeMoves
open Go.RowKit Go.Proofs.YthhnaplmjpacnaaDoorW.PrintWords Go.Proofs.YthhnaplmjpacnaaDoorW.PrintLast Go.Proofs.YthhnaplmjpacnaaDoorW.PrintMore
attribute [local go_sem] max2_int min2_int max_two min_two max_three min_three max_four min_four   -- for this text's walks alone
set_option linter.unusedVariables false
set_option linter.unusedSimpArgs false

def impl_MelodyValid.l0 : Nat → List (S29) → Int → Int → Option (Bool)
 | 0, _, _, _ => none
 | k + 1, x8, x9, x10 => if x10 < x9 then (if 0 ≤ x10 then (if x10 < (x8.length : Int) then ((impl_Tone_valid.f ((rd_T29 x8 x10).f0) ((rd_T29 x8 x10).f1)).bind fun t109 => (if t109 = true then (impl_MelodyValid.l0 k x8 x9 (wrap64 (x10 + 1))) else (some false))) else (none)) else (none)) else (some true)
def impl_MelodyValid.f (k : Nat) (l0 : List (S29)) : Option (Bool) := if (l0.length : Int) > 24 then (some false) else (impl_MelodyValid.l0 k l0 (l0.length : Int) 0)
set_option maxHeartbeats 8000000 in
set_option maxRecDepth 100000 in
theorem impl_MelodyValid.calls (k : Nat) (A0 : Option Addr) (c0 : Nat) (l0 : List (S29)) (r : Bool) (w : World) (hr0 : Kd.C k29 w A0 l0.length l0) (hc0 : l0.length ≤ c0) (h : impl_MelodyValid.f k l0 = some r) :
 Calls Tryd.prog 71 #[.slice A0 l0.length c0] w fun e w' => e = .returned (.bool r) ∧ Below w.heap.size w w' := by
 have hu29 := Tryd.underlying29; have HR0 := Aside0.mk hr0; have HC0 := Aside0.mk hc0; clear hr0 hc0; have HB := Aside0.mk (Below.refl w.heap.size w); have H : (if (l0.length : Int) > 24 then (some false) else (impl_MelodyValid.l0 k l0 (l0.length : Int) 0)) = some r := h; clear h; by_cases c2 : (l0.length : Int) > 24
 ·
  rw [if_pos c2] at H; have c2b0 : decide (24 < (l0.length : Int)) = true := decide_eq_true c2; have c2b1 : decide (24 < l0.length) = true := decide_eq_true (by omega); clear c2; obtain rfl := Option.some.inj H; go_enter Tryd.func71, Tryd.ntmps71
  go_wp2; go_ret
  exact ⟨by first | rfl | (simp [errW_none, errW_some] <;> rfl) | (simp [*, errW_none, errW_some] <;> rfl), by repeat (first | (with_reducible first | exact HB.out | apply below_alloc | apply pw_below_drewN | apply below_drew1) | exact HB.out)⟩
 ·
  rw [if_neg c2] at H; have c2b0 : decide (24 < (l0.length : Int)) = false := decide_eq_false c2; have c2b1 : decide (24 < l0.length) = false := decide_eq_false (by omega); clear c2; have H' := Aside0.mk H; clear H; go_enter Tryd.func71, Tryd.ntmps71
  go_wp2; go_loopg [10] k (fun kq v10 w' => ∃ (x10_1 : Int), v10 = .int .i64 x10_1 ∧ Aside0 (impl_MelodyValid.l0 kq l0 (l0.length : Int) x10_1 = some r) ∧ Aside0 (kq ≤ k) ∧ Aside0 (Below w.heap.size w w'))
  case atStart => exact ⟨(0), (by first | rfl | (simp; done) | (simp [*]; done)), H', ⟨Nat.le_refl _⟩, ⟨by repeat (first | (with_reducible first | exact HB.out | apply below_alloc | apply pw_below_drewN | apply below_drew1) | exact HB.out)⟩⟩
  case round =>
   clear H'; try clear c2
   try clear c2b0
   try clear c2b1
   try clear p2
   obtain ⟨x10_1, rfl, HA, HK1, HB⟩ := hrel; cases gk with
   | zero => exact absurd HA.out (by simp [impl_MelodyValid.l0])
   | succ k1 =>
    have H := HA.out; clear HA; simp only [impl_MelodyValid.l0] at H; by_cases c3 : x10_1 < (l0.length : Int)
    ·
     rw [if_pos c3] at H; have c3b0 : decide (x10_1 < (l0.length : Int)) = true := decide_eq_true c3; clear c3; by_cases c4 : 0 ≤ x10_1
     ·
      rw [if_pos c4] at H; have c4b0 : decide (0 ≤ x10_1) = true := decide_eq_true c4; clear c4; by_cases c5 : x10_1 < (l0.length : Int)
      ·
       rw [if_pos c5] at H; have c5b0 : decide (x10_1 < (l0.length : Int)) = true := decide_eq_true c5; clear c5; replace H := Option.bind_eq_some_iff.mp H; obtain ⟨t109, A60, H⟩ := H; replace H : (if t109 = true then (impl_MelodyValid.l0 k1 l0 (l0.length : Int) (wrap64 (x10_1 + 1))) else (some false)) = some r := H; have A6 := Aside0.mk A60; clear A60; by_cases c7 : t109 = true
       ·
        subst c7; have H1 : (impl_MelodyValid.l0 k1 l0 (l0.length : Int) (wrap64 (x10_1 + 1))) = some r := by rw [if_pos rfl] at H; exact H
        clear H; have H := H1; clear H1; have H' := Aside0.mk H; clear H; have p107 : 0 ≤ (x10_1 : Int) := of_decide_eq_true (by first | (with_reducible assumption) | assumption); have q107 : x10_1 < (l0.length : Int) := of_decide_eq_true (by first | (with_reducible assumption) | assumption); obtain ⟨ad107, e107, hx107_0, hx107_1⟩ := at_T29 HR0.out x10_1 p107 q107; cases e107; replace hx107_0 := (HB.out.cell (World.block_lt_of_cell? w _ hx107_0)).trans hx107_0; replace hx107_1 := (HB.out.cell (World.block_lt_of_cell? w _ hx107_1)).trans hx107_1; replace p107 := eq_true p107; replace q107 := eq_true q107; go_wp2_with (first | ((with_reducible refine gate_dst (N := 4) rfl ?_); refine box_event ?hg (N := 4) ?hd (cs := #[.int .i64 0, .bool false]) (t := 29) ?hr ?_; (case hd => rfl); (case hg => rfl); (case hr => first | (go_simp; done) | (go_simp; rfl)); intro gb108 hg w8 hbox hb; have n0_ := Aside0.mk (below_step (by repeat (first | (with_reducible first | exact HB.out | apply below_alloc | apply pw_below_drewN | apply below_drew1) | exact HB.out)) hb); have n1_ := Aside0.mk (hbox); have n2_ := Aside0.mk ((by rw [hg]; exact (below_size (by repeat (first | (with_reducible first | exact HB.out | apply below_alloc | apply pw_below_drewN | apply below_drew1) | exact HB.out))) : w.heap.size ≤ gb108)); have n3_ := Aside0.mk ((by rw [hg]; exact (below_size (by repeat (first | (with_reducible first | exact HB.out | apply below_alloc | apply pw_below_drewN | apply below_drew1) | exact HB.out))) : w.heap.size ≤ gb108)); clear HB; have HB := n0_; have BK108 := n1_; have GW108 := n2_; have GE108 := n3_; clear n0_ n1_ n2_ n3_; clear hb hbox hg; have hcz9_0 : w8.cell? ⟨gb108, 0, none⟩ = some (.int .i64 0) := (blk_cell BK108.out 0).trans rfl; have hcz9_1 : w8.cell? ⟨gb108, 1, none⟩ = some (.bool false) := (blk_cell BK108.out 1).trans rfl; have hfz9_0 := blk_frozen BK108.out 0; have hfz9_1 := blk_frozen BK108.out 1) | ((with_reducible refine gate_callee (f := 88) rfl ?_); refine goesL_ (some 15) rfl rfl Tryd.func88 (by kernel_rfl) rfl #[.agg #[.int .i64 ((rd_T29 l0 x10_1).f0), .bool ((rd_T29 l0 x10_1).f1)]] rfl (by (try simp only [List.map_toArray, List.map_cons, List.map_nil]); first | done | rfl | (simp only [List.length_drop, List.length_take]; rfl)) ?_; (with_reducible refine (impl_Tone_valid.calls ((rd_T29 l0 x10_1).f0) ((rd_T29 l0 x10_1).f1) true _ A6.out).mono ?_); rintro e w10 ⟨rfl, hb⟩; refine ⟨_, rfl, ?_⟩; have n0_ := Aside0.mk (blk_below (g := gb108) (o := .cells #[.int .i64 ((rd_T29 l0 x10_1).f0), .bool ((rd_T29 l0 x10_1).f1)] 29 (0, 0)) (by (with_reducible repeat (first | refine blk_drewN ?_ _ | refine blk_drew ?_ | refine blk_alloc ?_ _)); refine blk_put (cs := #[.int .i64 ((rd_T29 l0 x10_1).f0), .bool false]) ?_ 1 _ rfl; (with_reducible repeat (first | refine blk_drewN ?_ _ | refine blk_drew ?_ | refine blk_alloc ?_ _)); refine blk_put (cs := #[.int .i64 0, .bool false]) ?_ 0 _ rfl; (with_reducible repeat (first | refine blk_drewN ?_ _ | refine blk_drew ?_ | refine blk_alloc ?_ _)); exact BK108.out) hb); have n1_ := Aside0.mk (below_step (by repeat (first | (with_reducible first | exact HB.out | apply below_alloc | apply pw_below_drewN | apply below_drew1 | refine below_set ?_ GE108.out) | exact HB.out)) hb); clear BK108; clear HB; have BK108 := n0_; have HB := n1_; clear n0_ n1_; (try clear hb); (try clear hb2); (try clear hk); (try clear hi)))
        go_roundg k1
        case measure => have := HK1.out; omega
        case rel => exact ⟨(wrap64 (x10_1 + 1)), (by first | rfl | (simp; done) | (simp [*]; done)), H', ⟨by have := HK1.out; omega⟩, ⟨by repeat (first | (with_reducible first | exact HB.out | apply below_alloc | apply pw_below_drewN | apply below_drew1 | refine below_set ?_ GE108.out) | exact HB.out)⟩⟩
       ·
        replace c7 := Bool.eq_false_iff.mpr c7; subst c7; have H1 : (some false) = some r := by rw [if_neg (show ¬ (false = true) by decide)] at H; exact H
        clear H; have H := H1; clear H1; obtain rfl := Option.some.inj H; have p107 : 0 ≤ (x10_1 : Int) := of_decide_eq_true (by first | (with_reducible assumption) | assumption); have q107 : x10_1 < (l0.length : Int) := of_decide_eq_true (by first | (with_reducible assumption) | assumption); obtain ⟨ad107, e107, hx107_0, hx107_1⟩ := at_T29 HR0.out x10_1 p107 q107; cases e107; replace hx107_0 := (HB.out.cell (World.block_lt_of_cell? w _ hx107_0)).trans hx107_0; replace hx107_1 := (HB.out.cell (World.block_lt_of_cell? w _ hx107_1)).trans hx107_1; replace p107 := eq_true p107; replace q107 := eq_true q107; go_wp2_with (first | ((with_reducible refine gate_dst (N := 4) rfl ?_); refine box_event ?hg (N := 4) ?hd (cs := #[.int .i64 0, .bool false]) (t := 29) ?hr ?_; (case hd => rfl); (case hg => rfl); (case hr => first | (go_simp; done) | (go_simp; rfl)); intro gb108 hg w11 hbox hb; have n0_ := Aside0.mk (below_step (by repeat (first | (with_reducible first | exact HB.out | apply below_alloc | apply pw_below_drewN | apply below_drew1) | exact HB.out)) hb); have n1_ := Aside0.mk (hbox); have n2_ := Aside0.mk ((by rw [hg]; exact (below_size (by repeat (first | (with_reducible first | exact HB.out | apply below_alloc | apply pw_below_drewN | apply below_drew1) | exact HB.out))) : w.heap.size ≤ gb108)); have n3_ := Aside0.mk ((by rw [hg]; exact (below_size (by repeat (first | (with_reducible first | exact HB.out | apply below_alloc | apply pw_below_drewN | apply below_drew1) | exact HB.out))) : w.heap.size ≤ gb108)); clear HB; have HB := n0_; have BK108 := n1_; have GW108 := n2_; have GE108 := n3_; clear n0_ n1_ n2_ n3_; clear hb hbox hg; have hcz12_0 : w11.cell? ⟨gb108, 0, none⟩ = some (.int .i64 0) := (blk_cell BK108.out 0).trans rfl; have hcz12_1 : w11.cell? ⟨gb108, 1, none⟩ = some (.bool false) := (blk_cell BK108.out 1).trans rfl; have hfz12_0 := blk_frozen BK108.out 0; have hfz12_1 := blk_frozen BK108.out 1) | ((with_reducible refine gate_callee (f := 88) rfl ?_); refine goesL_ (some 15) rfl rfl Tryd.func88 (by kernel_rfl) rfl #[.agg #[.int .i64 ((rd_T29 l0 x10_1).f0), .bool ((rd_T29 l0 x10_1).f1)]] rfl (by (try simp only [List.map_toArray, List.map_cons, List.map_nil]); first | done | rfl | (simp only [List.length_drop, List.length_take]; rfl)) ?_; (with_reducible refine (impl_Tone_valid.calls ((rd_T29 l0 x10_1).f0) ((rd_T29 l0 x10_1).f1) false _ A6.out).mono ?_); rintro e w13 ⟨rfl, hb⟩; refine ⟨_, rfl, ?_⟩; have n0_ := Aside0.mk (blk_below (g := gb108) (o := .cells #[.int .i64 ((rd_T29 l0 x10_1).f0), .bool ((rd_T29 l0 x10_1).f1)] 29 (0, 0)) (by (with_reducible repeat (first | refine blk_drewN ?_ _ | refine blk_drew ?_ | refine blk_alloc ?_ _)); refine blk_put (cs := #[.int .i64 ((rd_T29 l0 x10_1).f0), .bool false]) ?_ 1 _ rfl; (with_reducible repeat (first | refine blk_drewN ?_ _ | refine blk_drew ?_ | refine blk_alloc ?_ _)); refine blk_put (cs := #[.int .i64 0, .bool false]) ?_ 0 _ rfl; (with_reducible repeat (first | refine blk_drewN ?_ _ | refine blk_drew ?_ | refine blk_alloc ?_ _)); exact BK108.out) hb); have n1_ := Aside0.mk (below_step (by repeat (first | (with_reducible first | exact HB.out | apply below_alloc | apply pw_below_drewN | apply below_drew1 | refine below_set ?_ GE108.out) | exact HB.out)) hb); clear BK108; clear HB; have BK108 := n0_; have HB := n1_; clear n0_ n1_; (try clear hb); (try clear hb2); (try clear hk); (try clear hi)))
        go_ret
        exact ⟨by first | rfl | (simp [errW_none, errW_some] <;> rfl) | (simp [*, errW_none, errW_some] <;> rfl), by repeat (first | (with_reducible first | exact HB.out | apply below_alloc | apply pw_below_drewN | apply below_drew1 | refine below_set ?_ GE108.out) | exact HB.out)⟩
      ·
       rw [if_neg c5] at H; exact absurd H (by simp)
     ·
      rw [if_neg c4] at H; exact absurd H (by simp)
    ·
     rw [if_neg c3] at H; have c3b0 : decide (x10_1 < (l0.length : Int)) = false := decide_eq_false c3; clear c3; obtain rfl := Option.some.inj H; go_wp2; go_ret
     exact ⟨by first | rfl | (simp [errW_none, errW_some] <;> rfl) | (simp [*, errW_none, errW_some] <;> rfl), by repeat (first | (with_reducible first | exact HB.out | apply below_alloc | apply pw_below_drewN | apply below_drew1) | exact HB.out)⟩

end Go.Proofs.YthhnaplmjpacnaaDoor.PFnModeMoves
namespace Go.Proofs.YthhnaplmjpacnaaDoor.PFnModeMoves
open Go.RowKit Go.Proofs.YthhnaplmjpacnaaDoorW.PrintWords Go.Proofs.YthhnaplmjpacnaaDoorW.PrintLast Go.Proofs.YthhnaplmjpacnaaDoorW.PrintMore
attribute [local go_sem] max2_int min2_int max_two min_two max_three min_three max_four min_four   -- for this text's walks alone
set_option linter.unusedVariables false
set_option linter.unusedSimpArgs false

def impl_ToneAbove.j0 : Nat → Int → Bool → Bool → Int → Bool → Option (Int × Bool × Bool)
 | 0, _, _, _, _, _ => none
 | k + 1, x1, x2, x19, x103000, x103001 => if x19 = true then (some (0, false, false)) else ((impl_Tone_valid.f (wrap64 (x103000 + x1)) x2).bind fun t106 => (if t106 = true then (some (wrap64 (x103000 + x1), x2, true)) else (some (0, false, false))))
def impl_ToneAbove.f (k : Nat) (a0_0 : Int) (a0_1 : Bool) (a1 : Int) (a2 : Bool) : Option (Int × Bool × Bool) := (impl_Tone_valid.f a0_0 a0_1).bind fun t104 => (if t104 = true then (if a1 < (-20) then (impl_ToneAbove.j0 k a1 a2 true a0_0 a0_1) else (impl_ToneAbove.j0 k a1 a2 (decide (a1 > 20)) a0_0 a0_1)) else (impl_ToneAbove.j0 k a1 a2 true a0_0 a0_1))
set_option maxHeartbeats 8000000 in
set_option maxRecDepth 100000 in
theorem impl_ToneAbove.calls (k : Nat) (a0_0 : Int) (a0_1 : Bool) (a1 : Int) (a2 : Bool) (r1 : Int) (r2 : Bool) (r3 : Bool) (w : World) (h : impl_ToneAbove.f k a0_0 a0_1 a1 a2 = some (r1, r2, r3)) :
 Calls Tryd.prog 54 #[.agg #[.int .i64 a0_0, .bool a0_1], .int .i64 a1, .bool a2] w fun e w' => e = .returned (.tuple #[.agg #[.int .i64 r1, .bool r2], .bool r3]) ∧ Below w.heap.size w w' := by
 have hu29 := Tryd.underlying29; have HB := Aside0.mk (Below.refl w.heap.size w); have H : ((impl_Tone_valid.f a0_0 a0_1).bind fun t104 => (if t104 = true then (if a1 < (-20) then (impl_ToneAbove.j0 k a1 a2 true a0_0 a0_1) else (impl_ToneAbove.j0 k a1 a2 (decide (a1 > 20)) a0_0 a0_1)) else (impl_ToneAbove.j0 k a1 a2 true a0_0 a0_1))) = some (r1, r2, r3) := h; clear h; have HC4 := Aside0.mk H; clear H; go_enter Tryd.func54, Tryd.ntmps54
 go_upto_region 1 with (first | ((with_reducible refine gate_dst (N := 3) rfl ?_); refine box_event ?hg (N := 3) ?hd (cs := #[.int .i64 a0_0, .bool a0_1]) (t := 29) ?hr ?_; (case hd => rfl); (case hg => rfl); (case hr => first | (go_simp; done) | (go_simp; rfl)); intro gb102 hg w5 hbox hb; have n0_ := Aside0.mk (below_step (by repeat (first | (with_reducible first | exact HB.out | apply below_alloc | apply pw_below_drewN | apply below_drew1) | exact HB.out)) hb); have n1_ := Aside0.mk (hbox); have n2_ := Aside0.mk ((by rw [hg]; exact (below_size (by repeat (first | (with_reducible first | exact HB.out | apply below_alloc | apply pw_below_drewN | apply below_drew1) | exact HB.out))) : w.heap.size ≤ gb102)); have n3_ := Aside0.mk ((by rw [hg]; exact (below_size (by repeat (first | (with_reducible first | exact HB.out | apply below_alloc | apply pw_below_drewN | apply below_drew1) | exact HB.out))) : w.heap.size ≤ gb102)); clear HB; have HB := n0_; have BK102 := n1_; have GW102 := n2_; have GE102 := n3_; clear n0_ n1_ n2_ n3_; clear hb hbox hg) | ((with_reducible refine gate_dst (N := 6) rfl ?_); refine box_event ?hg (N := 6) ?hd (cs := #[.int .i64 0, .bool false]) (t := 29) ?hr ?_; (case hd => rfl); (case hg => rfl); (case hr => first | (go_simp; done) | (go_simp; rfl)); intro gb103 hg w6 hbox hb; have n0_ := Aside0.mk (blk_below (g := gb102) (o := .cells #[.int .i64 a0_0, .bool a0_1] 29 (0, 0)) (by (with_reducible repeat (first | refine blk_drewN ?_ _ | refine blk_drew ?_ | refine blk_alloc ?_ _)); exact BK102.out) hb); have n1_ := Aside0.mk (below_step (by repeat (first | (with_reducible first | exact HB.out | apply below_alloc | apply pw_below_drewN | apply below_drew1 | refine below_set ?_ GE102.out) | exact HB.out)) hb); have n2_ := Aside0.mk (hbox); have n3_ := Aside0.mk ((by rw [hg]; exact (below_size (by repeat (first | (with_reducible first | exact HB.out | apply below_alloc | apply pw_below_drewN | apply below_drew1 | refine below_set ?_ GE102.out) | exact HB.out))) : w.heap.size ≤ gb103)); have n4_ := Aside0.mk ((by rw [hg]; exact (below_size (by repeat (first | (with_reducible first | exact HB.out | apply below_alloc | apply pw_below_drewN | apply below_drew1 | refine below_set ?_ GE102.out) | exact HB.out))) : w.heap.size ≤ gb103)); have n5_ := Aside0.mk ((by rw [hg]; exact Nat.ne_of_lt (blk_lt (g := gb102) (o := .cells #[.int .i64 a0_0, .bool a0_1] 29 (0, 0)) (by (with_reducible repeat (first | refine blk_drewN ?_ _ | refine blk_drew ?_ | refine blk_alloc ?_ _)); exact BK102.out)) : gb102 ≠ gb103)); have n6_ := Aside0.mk ((by rw [hg]; exact Nat.ne_of_gt (blk_lt (g := gb102) (o := .cells #[.int .i64 a0_0, .bool a0_1] 29 (0, 0)) (by (with_reducible repeat (first | refine blk_drewN ?_ _ | refine blk_drew ?_ | refine blk_alloc ?_ _)); exact BK102.out)) : gb103 ≠ gb102)); clear BK102; clear HB; have BK102 := n0_; have HB := n1_; have BK103 := n2_; have GW103 := n3_; have GE103 := n4_; have NB102_103 := n5_; have NB103_102 := n6_; clear n0_ n1_ n2_ n3_ n4_ n5_ n6_; clear hb hbox hg))
 (try simp only [Act.put, List.setIfInBounds_toArray, List.set_cons_zero, List.set_cons_succ])
 go_cut [19] (fun v19 wc => ∃ (kq : Nat) (x19_3 : Bool), v19 = .bool x19_3 ∧ Aside0 (impl_ToneAbove.j0 kq a1 a2 x19_3 a0_0 a0_1 = some (r1, r2, r3)) ∧ Aside0 (kq ≤ k) ∧ Aside0 (wc.heap[gb102]? = some (.cells #[.int .i64 a0_0, .bool a0_1] 29 (0, 0))) ∧ Aside0 (wc.heap[gb103]? = some (.cells #[.int .i64 0, .bool false] 29 (0, 0))) ∧ Aside0 (Below w.heap.size w wc))
 case first =>
  have H := HC4.out; clear HC4; replace H := Option.bind_eq_some_iff.mp H; obtain ⟨t104, A70, H⟩ := H; replace H : (if t104 = true then (if a1 < (-20) then (impl_ToneAbove.j0 k a1 a2 true a0_0 a0_1) else (impl_ToneAbove.j0 k a1 a2 (decide (a1 > 20)) a0_0 a0_1)) else (impl_ToneAbove.j0 k a1 a2 true a0_0 a0_1)) = some (r1, r2, r3) := H; have A7 := Aside0.mk A70; clear A70; by_cases c8 : t104 = true
  ·
   subst c8; have H1 : (if a1 < (-20) then (impl_ToneAbove.j0 k a1 a2 true a0_0 a0_1) else (impl_ToneAbove.j0 k a1 a2 (decide (a1 > 20)) a0_0 a0_1)) = some (r1, r2, r3) := by rw [if_pos rfl] at H; exact H
   clear H; have H := H1; clear H1; by_cases c9 : a1 < (-20)
   ·
    rw [if_pos c9] at H; have c9b0 : decide (a1 < (-20)) = true := decide_eq_true c9; clear c9; (first | rw [c9b0] | (simp only [i64_w, i32_w]; rw [c9b0]) | skip)
    have H' := Aside0.mk H; clear H; have hnb10 := NB102_103.out; have hnc10 := NB103_102.out; have hcz11_0 : w6.cell? ⟨gb102, 0, none⟩ = some (.int .i64 a0_0) := (blk_cell BK102.out 0).trans rfl; have hcz11_1 : w6.cell? ⟨gb102, 1, none⟩ = some (.bool a0_1) := (blk_cell BK102.out 1).trans rfl; have hfz11_0 := blk_frozen BK102.out 0; have hfz11_1 := blk_frozen BK102.out 1; go_wp2_with (first | ((with_reducible refine gate_callee (f := 88) rfl ?_); refine goesL_ (some 10) rfl rfl Tryd.func88 (by kernel_rfl) rfl #[.agg #[.int .i64 a0_0, .bool a0_1]] rfl (by (try simp only [List.map_toArray, List.map_cons, List.map_nil]); first | done | rfl | (simp only [List.length_drop, List.length_take]; rfl)) ?_; (with_reducible refine (impl_Tone_valid.calls a0_0 a0_1 true _ A7.out).mono ?_); rintro e w12 ⟨rfl, hb⟩; refine ⟨_, rfl, ?_⟩; have n0_ := Aside0.mk (blk_below (g := gb102) (o := .cells #[.int .i64 a0_0, .bool a0_1] 29 (0, 0)) (by (with_reducible repeat (first | refine blk_drewN ?_ _ | refine blk_drew ?_ | refine blk_alloc ?_ _)); exact BK102.out) hb); have n1_ := Aside0.mk (blk_below (g := gb103) (o := .cells #[.int .i64 0, .bool false] 29 (0, 0)) (by (with_reducible repeat (first | refine blk_drewN ?_ _ | refine blk_drew ?_ | refine blk_alloc ?_ _)); exact BK103.out) hb); have n2_ := Aside0.mk (below_step (by repeat (first | (with_reducible first | exact HB.out | apply below_alloc | apply pw_below_drewN | apply below_drew1 | refine below_set ?_ GE102.out | refine below_set ?_ GE103.out) | exact HB.out)) hb); clear BK102; clear BK103; clear HB; have BK102 := n0_; have BK103 := n1_; have HB := n2_; clear n0_ n1_ n2_; (try clear hb); (try clear hb2); (try clear hk); (try clear hi)))
    go_meet
    case rel => exact ⟨_, (true), (by first | rfl | (simp; done) | (simp [*]; done)), H', ⟨by first | omega | exact Nat.le_refl _⟩, ⟨by (with_reducible repeat (first | refine blk_drewN ?_ _ | refine blk_drew ?_ | refine blk_alloc ?_ _)); exact BK102.out⟩, ⟨by (with_reducible repeat (first | refine blk_drewN ?_ _ | refine blk_drew ?_ | refine blk_alloc ?_ _)); exact BK103.out⟩, ⟨by repeat (first | (with_reducible first | exact HB.out | apply below_alloc | apply pw_below_drewN | apply below_drew1 | refine below_set ?_ GE102.out | refine below_set ?_ GE103.out) | exact HB.out)⟩⟩
   ·
    rw [if_neg c9] at H; have c9b0 : decide (a1 < (-20)) = false := decide_eq_false c9; clear c9; (first | rw [c9b0] | (simp only [i64_w, i32_w]; rw [c9b0]) | skip)
    have H' := Aside0.mk H; clear H; have hnb13 := NB102_103.out; have hnc13 := NB103_102.out; have hcz14_0 : w6.cell? ⟨gb102, 0, none⟩ = some (.int .i64 a0_0) := (blk_cell BK102.out 0).trans rfl; have hcz14_1 : w6.cell? ⟨gb102, 1, none⟩ = some (.bool a0_1) := (blk_cell BK102.out 1).trans rfl; have hfz14_0 := blk_frozen BK102.out 0; have hfz14_1 := blk_frozen BK102.out 1; go_wp2_with (first | ((with_reducible refine gate_callee (f := 88) rfl ?_); refine goesL_ (some 10) rfl rfl Tryd.func88 (by kernel_rfl) rfl #[.agg #[.int .i64 a0_0, .bool a0_1]] rfl (by (try simp only [List.map_toArray, List.map_cons, List.map_nil]); first | done | rfl | (simp only [List.length_drop, List.length_take]; rfl)) ?_; (with_reducible refine (impl_Tone_valid.calls a0_0 a0_1 true _ A7.out).mono ?_); rintro e w15 ⟨rfl, hb⟩; refine ⟨_, rfl, ?_⟩; have n0_ := Aside0.mk (blk_below (g := gb102) (o := .cells #[.int .i64 a0_0, .bool a0_1] 29 (0, 0)) (by (with_reducible repeat (first | refine blk_drewN ?_ _ | refine blk_drew ?_ | refine blk_alloc ?_ _)); exact BK102.out) hb); have n1_ := Aside0.mk (blk_below (g := gb103) (o := .cells #[.int .i64 0, .bool false] 29 (0, 0)) (by (with_reducible repeat (first | refine blk_drewN ?_ _ | refine blk_drew ?_ | refine blk_alloc ?_ _)); exact BK103.out) hb); have n2_ := Aside0.mk (below_step (by repeat (first | (with_reducible first | exact HB.out | apply below_alloc | apply pw_below_drewN | apply below_drew1 | refine below_set ?_ GE102.out | refine below_set ?_ GE103.out) | exact HB.out)) hb); clear BK102; clear BK103; clear HB; have BK102 := n0_; have BK103 := n1_; have HB := n2_; clear n0_ n1_ n2_; (try clear hb); (try clear hb2); (try clear hk); (try clear hi)))
    go_meet
    case rel => exact ⟨_, (decide (a1 > 20)), (by first | rfl | (simp; done) | (simp [*]; done)), H', ⟨by first | omega | exact Nat.le_refl _⟩, ⟨by (with_reducible repeat (first | refine blk_drewN ?_ _ | refine blk_drew ?_ | refine blk_alloc ?_ _)); exact BK102.out⟩, ⟨by (with_reducible repeat (first | refine blk_drewN ?_ _ | refine blk_drew ?_ | refine blk_alloc ?_ _)); exact BK103.out⟩, ⟨by repeat (first | (with_reducible first | exact HB.out | apply below_alloc | apply pw_below_drewN | apply below_drew1 | refine below_set ?_ GE102.out | refine below_set ?_ GE103.out) | exact HB.out)⟩⟩
  ·
   replace c8 := Bool.eq_false_iff.mpr c8; subst c8; have H1 : (impl_ToneAbove.j0 k a1 a2 true a0_0 a0_1) = some (r1, r2, r3) := by rw [if_neg (show ¬ (false = true) by decide)] at H; exact H
   clear H; have H := H1; clear H1; have H' := Aside0.mk H; clear H; have hnb16 := NB102_103.out; have hnc16 := NB103_102.out; have hcz17_0 : w6.cell? ⟨gb102, 0, none⟩ = some (.int .i64 a0_0) := (blk_cell BK102.out 0).trans rfl; have hcz17_1 : w6.cell? ⟨gb102, 1, none⟩ = some (.bool a0_1) := (blk_cell BK102.out 1).trans rfl; have hfz17_0 := blk_frozen BK102.out 0; have hfz17_1 := blk_frozen BK102.out 1; go_wp2_with (first | ((with_reducible refine gate_callee (f := 88) rfl ?_); refine goesL_ (some 10) rfl rfl Tryd.func88 (by kernel_rfl) rfl #[.agg #[.int .i64 a0_0, .bool a0_1]] rfl (by (try simp only [List.map_toArray, List.map_cons, List.map_nil]); first | done | rfl | (simp only [List.length_drop, List.length_take]; rfl)) ?_; (with_reducible refine (impl_Tone_valid.calls a0_0 a0_1 false _ A7.out).mono ?_); rintro e w18 ⟨rfl, hb⟩; refine ⟨_, rfl, ?_⟩; have n0_ := Aside0.mk (blk_below (g := gb102) (o := .cells #[.int .i64 a0_0, .bool a0_1] 29 (0, 0)) (by (with_reducible repeat (first | refine blk_drewN ?_ _ | refine blk_drew ?_ | refine blk_alloc ?_ _)); exact BK102.out) hb); have n1_ := Aside0.mk (blk_below (g := gb103) (o := .cells #[.int .i64 0, .bool false] 29 (0, 0)) (by (with_reducible repeat (first | refine blk_drewN ?_ _ | refine blk_drew ?_ | refine blk_alloc ?_ _)); exact BK103.out) hb); have n2_ := Aside0.mk (below_step (by repeat (first | (with_reducible first | exact HB.out | apply below_alloc | apply pw_below_drewN | apply below_drew1 | refine below_set ?_ GE102.out | refine below_set ?_ GE103.out) | exact HB.out)) hb); clear BK102; clear BK103; clear HB; have BK102 := n0_; have BK103 := n1_; have HB := n2_; clear n0_ n1_ n2_; (try clear hb); (try clear hb2); (try clear hk); (try clear hi)))
   go_meet
   case rel => exact ⟨_, (true), (by first | rfl | (simp; done) | (simp [*]; done)), H', ⟨by first | omega | exact Nat.le_refl _⟩, ⟨by (with_reducible repeat (first | refine blk_drewN ?_ _ | refine blk_drew ?_ | refine blk_alloc ?_ _)); exact BK102.out⟩, ⟨by (with_reducible repeat (first | refine blk_drewN ?_ _ | refine blk_drew ?_ | refine blk_alloc ?_ _)); exact BK103.out⟩, ⟨by repeat (first | (with_reducible first | exact HB.out | apply below_alloc | apply pw_below_drewN | apply below_drew1 | refine below_set ?_ GE102.out | refine below_set ?_ GE103.out) | exact HB.out)⟩⟩
 case rest =>
  clear HC4; try clear c1
  try clear p2
  try clear c5
  try clear c8
  try clear c9
  try clear c9b0
  try clear c10
  try clear c13
  try clear c16
  try clear hcz11_0
  try clear hcz11_1
  try clear hcz14_0
  try clear hcz14_1
  try clear hcz17_0
  try clear hcz17_1
  try clear hfz11_0
  try clear hfz11_1
  try clear hfz14_0
  try clear hfz14_1
  try clear hfz17_0
  try clear hfz17_1
  obtain ⟨kq, x19_3, rfl, HA, HJ3, BK102, BK103, HB⟩ := hcut; cases kq with
  | zero => exact absurd HA.out (by simp [impl_ToneAbove.j0])
  | succ kj3 =>
   have H := HA.out; clear HA; simp only [impl_ToneAbove.j0] at H; by_cases c19 : x19_3 = true
   ·
    subst c19; have H1 : (some (0, false, false)) = some (r1, r2, r3) := by rw [if_pos rfl] at H; exact H
    clear H; have H := H1; clear H1; simp only [Option.some.injEq, Prod.mk.injEq] at H; obtain ⟨rfl, rfl, rfl⟩ := H; have hnb20 := NB103_102.out; have hnc20 := NB102_103.out; have hcz21_0 : wc.cell? ⟨gb103, 0, none⟩ = some (.int .i64 0) := (blk_cell BK103.out 0).trans rfl; have hcz21_1 : wc.cell? ⟨gb103, 1, none⟩ = some (.bool false) := (blk_cell BK103.out 1).trans rfl; have hfz21_0 := blk_frozen BK103.out 0; have hfz21_1 := blk_frozen BK103.out 1; go_wp2; refine bodyPost_ret (results_ct rfl _ _ gb103 29 #[.int .i64 0, .bool false] (0, 0) _ rfl (by (with_reducible repeat (first | refine blk_drewN ?_ _ | refine blk_drew ?_ | refine blk_alloc ?_ _)); refine blk_put (cs := #[.int .i64 0, .bool false]) ?_ 1 _ rfl; (with_reducible repeat (first | refine blk_drewN ?_ _ | refine blk_drew ?_ | refine blk_alloc ?_ _)); refine blk_put (cs := #[.int .i64 0, .bool false]) ?_ 0 _ rfl; (with_reducible repeat (first | refine blk_drewN ?_ _ | refine blk_drew ?_ | refine blk_alloc ?_ _)); exact BK103.out) Tryd.underlying29 rfl (by kernel_rfl)) rfl ?_; exact ⟨by first | rfl | (simp [errW_none, errW_some] <;> rfl) | (simp [*, errW_none, errW_some] <;> rfl), by repeat (first | (with_reducible first | exact HB.out | apply below_alloc | apply pw_below_drewN | apply below_drew1 | refine below_set ?_ GE102.out | refine below_set ?_ GE103.out) | exact HB.out)⟩
   ·
    replace c19 := Bool.eq_false_iff.mpr c19; subst c19; have H1 : ((impl_Tone_valid.f (wrap64 (a0_0 + a1)) a2).bind fun t106 => (if t106 = true then (some (wrap64 (a0_0 + a1), a2, true)) else (some (0, false, false)))) = some (r1, r2, r3) := by rw [if_neg (show ¬ (false = true) by decide)] at H; exact H
    clear H; have H := H1; clear H1; replace H := Option.bind_eq_some_iff.mp H; obtain ⟨t106, A220, H⟩ := H; replace H : (if t106 = true then (some (wrap64 (a0_0 + a1), a2, true)) else (some (0, false, false))) = some (r1, r2, r3) := H; have A22 := Aside0.mk A220; clear A220; by_cases c23 : t106 = true
    ·
     subst c23; have H1 : (some (wrap64 (a0_0 + a1), a2, true)) = some (r1, r2, r3) := by rw [if_pos rfl] at H; exact H
     clear H; have H := H1; clear H1; simp only [Option.some.injEq, Prod.mk.injEq] at H; obtain ⟨rfl, rfl, rfl⟩ := H; have hnb24 := NB102_103.out; have hnc24 := NB103_102.out; have hcz25_0 : wc.cell? ⟨gb102, 0, none⟩ = some (.int .i64 a0_0) := (blk_cell BK102.out 0).trans rfl; have hcz25_1 : wc.cell? ⟨gb102, 1, none⟩ = some (.bool a0_1) := (blk_cell BK102.out 1).trans rfl; have hfz25_0 := blk_frozen BK102.out 0; have hfz25_1 := blk_frozen BK102.out 1; go_wp2_with (first | ((with_reducible refine gate_dst (N := 8) rfl ?_); refine box_event ?hg (N := 8) ?hd (cs := #[.int .i64 0, .bool false]) (t := 29) ?hr ?_; (case hd => rfl); (case hg => rfl); (case hr => first | (go_simp; done) | (go_simp; rfl)); intro gb105 hg w26 hbox hb; have n0_ := Aside0.mk (blk_below (g := gb102) (o := .cells #[.int .i64 a0_0, .bool a0_1] 29 (0, 0)) (by (with_reducible repeat (first | refine blk_drewN ?_ _ | refine blk_drew ?_ | refine blk_alloc ?_ _)); exact BK102.out) hb); have n1_ := Aside0.mk (blk_below (g := gb103) (o := .cells #[.int .i64 0, .bool false] 29 (0, 0)) (by (with_reducible repeat (first | refine blk_drewN ?_ _ | refine blk_drew ?_ | refine blk_alloc ?_ _)); exact BK103.out) hb); have n2_ := Aside0.mk (below_step (by repeat (first | (with_reducible first | exact HB.out | apply below_alloc | apply pw_below_drewN | apply below_drew1 | refine below_set ?_ GE102.out | refine below_set ?_ GE103.out) | exact HB.out)) hb); have n3_ := Aside0.mk (hbox); have n4_ := Aside0.mk ((by rw [hg]; exact (below_size (by repeat (first | (with_reducible first | exact HB.out | apply below_alloc | apply pw_below_drewN | apply below_drew1 | refine below_set ?_ GE102.out | refine below_set ?_ GE103.out) | exact HB.out))) : w.heap.size ≤ gb105)); have n5_ := Aside0.mk ((by rw [hg]; exact (below_size (by repeat (first | (with_reducible first | exact HB.out | apply below_alloc | apply pw_below_drewN | apply below_drew1 | refine below_set ?_ GE102.out | refine below_set ?_ GE103.out) | exact HB.out))) : w.heap.size ≤ gb105)); have n6_ := Aside0.mk ((by rw [hg]; exact Nat.ne_of_lt (blk_lt (g := gb102) (o := .cells #[.int .i64 a0_0, .bool a0_1] 29 (0, 0)) (by (with_reducible repeat (first | refine blk_drewN ?_ _ | refine blk_drew ?_ | refine blk_alloc ?_ _)); exact BK102.out)) : gb102 ≠ gb105)); have n7_ := Aside0.mk ((by rw [hg]; exact Nat.ne_of_gt (blk_lt (g := gb102) (o := .cells #[.int .i64 a0_0, .bool a0_1] 29 (0, 0)) (by (with_reducible repeat (first | refine blk_drewN ?_ _ | refine blk_drew ?_ | refine blk_alloc ?_ _)); exact BK102.out)) : gb105 ≠ gb102)); have n8_ := Aside0.mk ((by rw [hg]; exact Nat.ne_of_lt (blk_lt (g := gb103) (o := .cells #[.int .i64 0, .bool false] 29 (0, 0)) (by (with_reducible repeat (first | refine blk_drewN ?_ _ | refine blk_drew ?_ | refine blk_alloc ?_ _)); exact BK103.out)) : gb103 ≠ gb105)); have n9_ := Aside0.mk ((by rw [hg]; exact Nat.ne_of_gt (blk_lt (g := gb103) (o := .cells #[.int .i64 0, .bool false] 29 (0, 0)) (by (with_reducible repeat (first | refine blk_drewN ?_ _ | refine blk_drew ?_ | refine blk_alloc ?_ _)); exact BK103.out)) : gb105 ≠ gb103)); clear BK102; clear BK103; clear HB; have BK102 := n0_; have BK103 := n1_; have HB := n2_; have BK105 := n3_; have GW105 := n4_; have GE105 := n5_; have NB102_105 := n6_; have NB105_102 := n7_; have NB103_105 := n8_; have NB105_103 := n9_; clear n0_ n1_ n2_ n3_ n4_ n5_ n6_ n7_ n8_ n9_; clear hb hbox hg; have hnb27 := NB105_102.out; have hnc27 := NB102_105.out; have hnb28 := NB105_103.out; have hnc28 := NB103_105.out; have hcz29_0 : w26.cell? ⟨gb105, 0, none⟩ = some (.int .i64 0) := (blk_cell BK105.out 0).trans rfl; have hcz29_1 : w26.cell? ⟨gb105, 1, none⟩ = some (.bool false) := (blk_cell BK105.out 1).trans rfl; have hfz29_0 := blk_frozen BK105.out 0; have hfz29_1 := blk_frozen BK105.out 1) | ((with_reducible refine gate_callee (f := 88) rfl ?_); refine goesL_ (some 28) rfl rfl Tryd.func88 (by kernel_rfl) rfl #[.agg #[.int .i64 (wrap64 (a0_0 + a1)), .bool a2]] rfl (by (try simp only [List.map_toArray, List.map_cons, List.map_nil]); first | done | rfl | (simp only [List.length_drop, List.length_take]; rfl)) ?_; (with_reducible refine (impl_Tone_valid.calls (wrap64 (a0_0 + a1)) a2 true _ A22.out).mono ?_); rintro e w30 ⟨rfl, hb⟩; refine ⟨_, rfl, ?_⟩; have n0_ := Aside0.mk (blk_below (g := gb102) (o := .cells #[.int .i64 a0_0, .bool a0_1] 29 (0, 0)) (by (with_reducible repeat (first | refine blk_drewN ?_ _ | refine blk_drew ?_ | refine blk_alloc ?_ _)); refine blk_far ?_ NB102_105.out _; (with_reducible repeat (first | refine blk_drewN ?_ _ | refine blk_drew ?_ | refine blk_alloc ?_ _)); refine blk_far ?_ NB102_105.out _; (with_reducible repeat (first | refine blk_drewN ?_ _ | refine blk_drew ?_ | refine blk_alloc ?_ _)); exact BK102.out) hb); have n1_ := Aside0.mk (blk_below (g := gb103) (o := .cells #[.int .i64 0, .bool false] 29 (0, 0)) (by (with_reducible repeat (first | refine blk_drewN ?_ _ | refine blk_drew ?_ | refine blk_alloc ?_ _)); refine blk_far ?_ NB103_105.out _; (with_reducible repeat (first | refine blk_drewN ?_ _ | refine blk_drew ?_ | refine blk_alloc ?_ _)); refine blk_far ?_ NB103_105.out _; (with_reducible repeat (first | refine blk_drewN ?_ _ | refine blk_drew ?_ | refine blk_alloc ?_ _)); exact BK103.out) hb); have n2_ := Aside0.mk (blk_below (g := gb105) (o := .cells #[.int .i64 (wrap64 (a0_0 + a1)), .bool a2] 29 (0, 0)) (by (with_reducible repeat (first | refine blk_drewN ?_ _ | refine blk_drew ?_ | refine blk_alloc ?_ _)); refine blk_put (cs := #[.int .i64 (wrap64 (a0_0 + a1)), .bool false]) ?_ 1 _ rfl; (with_reducible repeat (first | refine blk_drewN ?_ _ | refine blk_drew ?_ | refine blk_alloc ?_ _)); refine blk_put (cs := #[.int .i64 0, .bool false]) ?_ 0 _ rfl; (with_reducible repeat (first | refine blk_drewN ?_ _ | refine blk_drew ?_ | refine blk_alloc ?_ _)); exact BK105.out) hb); have n3_ := Aside0.mk (below_step (by repeat (first | (with_reducible first | exact HB.out | apply below_alloc | apply pw_below_drewN | apply below_drew1 | refine below_set ?_ GE102.out | refine below_set ?_ GE103.out | refine below_set ?_ GE105.out) | exact HB.out)) hb); clear BK102; clear BK103; clear BK105; clear HB; have BK102 := n0_; have BK103 := n1_; have BK105 := n2_; have HB := n3_; clear n0_ n1_ n2_ n3_; (try clear hb); (try clear hb2); (try clear hk); (try clear hi); have hcz31_0 : w30.cell? ⟨gb105, 0, none⟩ = some (.int .i64 (wrap64 (a0_0 + a1))) := (blk_cell BK105.out 0).trans rfl; have hcz31_1 : w30.cell? ⟨gb105, 1, none⟩ = some (.bool a2) := (blk_cell BK105.out 1).trans rfl; have hfz31_0 := blk_frozen BK105.out 0; have hfz31_1 := blk_frozen BK105.out 1; have hcz32_0 : w30.cell? ⟨gb103, 0, none⟩ = some (.int .i64 0) := (blk_cell BK103.out 0).trans rfl; have hcz32_1 : w30.cell? ⟨gb103, 1, none⟩ = some (.bool false) := (blk_cell BK103.out 1).trans rfl; have hfz32_0 := blk_frozen BK103.out 0; have hfz32_1 := blk_frozen BK103.out 1))
     refine bodyPost_ret (results_ct rfl _ _ gb103 29 #[.int .i64 (wrap64 (a0_0 + a1)), .bool a2] (0, 0) _ rfl (by (with_reducible repeat (first | refine blk_drewN ?_ _ | refine blk_drew ?_ | refine blk_alloc ?_ _)); refine blk_put (cs := #[.int .i64 (wrap64 (a0_0 + a1)), .bool false]) ?_ 1 _ rfl; (with_reducible repeat (first | refine blk_drewN ?_ _ | refine blk_drew ?_ | refine blk_alloc ?_ _)); refine blk_put (cs := #[.int .i64 0, .bool false]) ?_ 0 _ rfl; (with_reducible repeat (first | refine blk_drewN ?_ _ | refine blk_drew ?_ | refine blk_alloc ?_ _)); exact BK103.out) Tryd.underlying29 rfl (by kernel_rfl)) rfl ?_; exact ⟨by first | rfl | (simp [errW_none, errW_some] <;> rfl) | (simp [*, errW_none, errW_some] <;> rfl), by repeat (first | (with_reducible first | exact HB.out | apply below_alloc | apply pw_below_drewN | apply below_drew1 | refine below_set ?_ GE102.out | refine below_set ?_ GE103.out | refine below_set ?_ GE105.out) | exact HB.out)⟩
    ·
     replace c23 := Bool.eq_false_iff.mpr c23; subst c23; have H1 : (some (0, false, false)) = some (r1, r2, r3) := by rw [if_neg (show ¬ (false = true) by decide)] at H; exact H
     clear H; have H := H1; clear H1; simp only [Option.some.injEq, Prod.mk.injEq] at H; obtain ⟨rfl, rfl, rfl⟩ := H; have hnb33 := NB102_103.out; have hnc33 := NB103_102.out; have hcz34_0 : wc.cell? ⟨gb102, 0, none⟩ = some (.int .i64 a0_0) := (blk_cell BK102.out 0).trans rfl; have hcz34_1 : wc.cell? ⟨gb102, 1, none⟩ = some (.bool a0_1) := (blk_cell BK102.out 1).trans rfl; have hfz34_0 := blk_frozen BK102.out 0; have hfz34_1 := blk_frozen BK102.out 1; go_wp2_with (first | ((with_reducible refine gate_dst (N := 8) rfl ?_); refine box_event ?hg (N := 8) ?hd (cs := #[.int .i64 0, .bool false]) (t := 29) ?hr ?_; (case hd => rfl); (case hg => rfl); (case hr => first | (go_simp; done) | (go_simp; rfl)); intro gb105 hg w35 hbox hb; have n0_ := Aside0.mk (blk_below (g := gb102) (o := .cells #[.int .i64 a0_0, .bool a0_1] 29 (0, 0)) (by (with_reducible repeat (first | refine blk_drewN ?_ _ | refine blk_drew ?_ | refine blk_alloc ?_ _)); exact BK102.out) hb); have n1_ := Aside0.mk (blk_below (g := gb103) (o := .cells #[.int .i64 0, .bool false] 29 (0, 0)) (by (with_reducible repeat (first | refine blk_drewN ?_ _ | refine blk_drew ?_ | refine blk_alloc ?_ _)); exact BK103.out) hb); have n2_ := Aside0.mk (below_step (by repeat (first | (with_reducible first | exact HB.out | apply below_alloc | apply pw_below_drewN | apply below_drew1 | refine below_set ?_ GE102.out | refine below_set ?_ GE103.out) | exact HB.out)) hb); have n3_ := Aside0.mk (hbox); have n4_ := Aside0.mk ((by rw [hg]; exact (below_size (by repeat (first | (with_reducible first | exact HB.out | apply below_alloc | apply pw_below_drewN | apply below_drew1 | refine below_set ?_ GE102.out | refine below_set ?_ GE103.out) | exact HB.out))) : w.heap.size ≤ gb105)); have n5_ := Aside0.mk ((by rw [hg]; exact (below_size (by repeat (first | (with_reducible first | exact HB.out | apply below_alloc | apply pw_below_drewN | apply below_drew1 | refine below_set ?_ GE102.out | refine below_set ?_ GE103.out) | exact HB.out))) : w.heap.size ≤ gb105)); have n6_ := Aside0.mk ((by rw [hg]; exact Nat.ne_of_lt (blk_lt (g := gb102) (o := .cells #[.int .i64 a0_0, .bool a0_1] 29 (0, 0)) (by (with_reducible repeat (first | refine blk_drewN ?_ _ | refine blk_drew ?_ | refine blk_alloc ?_ _)); exact BK102.out)) : gb102 ≠ gb105)); have n7_ := Aside0.mk ((by rw [hg]; exact Nat.ne_of_gt (blk_lt (g := gb102) (o := .cells #[.int .i64 a0_0, .bool a0_1] 29 (0, 0)) (by (with_reducible repeat (first | refine blk_drewN ?_ _ | refine blk_drew ?_ | refine blk_alloc ?_ _)); exact BK102.out)) : gb105 ≠ gb102)); have n8_ := Aside0.mk ((by rw [hg]; exact Nat.ne_of_lt (blk_lt (g := gb103) (o := .cells #[.int .i64 0, .bool false] 29 (0, 0)) (by (with_reducible repeat (first | refine blk_drewN ?_ _ | refine blk_drew ?_ | refine blk_alloc ?_ _)); exact BK103.out)) : gb103 ≠ gb105)); have n9_ := Aside0.mk ((by rw [hg]; exact Nat.ne_of_gt (blk_lt (g := gb103) (o := .cells #[.int .i64 0, .bool false] 29 (0, 0)) (by (with_reducible repeat (first | refine blk_drewN ?_ _ | refine blk_drew ?_ | refine blk_alloc ?_ _)); exact BK103.out)) : gb105 ≠ gb103)); clear BK102; clear BK103; clear HB; have BK102 := n0_; have BK103 := n1_; have HB := n2_; have BK105 := n3_; have GW105 := n4_; have GE105 := n5_; have NB102_105 := n6_; have NB105_102 := n7_; have NB103_105 := n8_; have NB105_103 := n9_; clear n0_ n1_ n2_ n3_ n4_ n5_ n6_ n7_ n8_ n9_; clear hb hbox hg; have hnb36 := NB105_102.out; have hnc36 := NB102_105.out; have hnb37 := NB105_103.out; have hnc37 := NB103_105.out; have hcz38_0 : w35.cell? ⟨gb105, 0, none⟩ = some (.int .i64 0) := (blk_cell BK105.out 0).trans rfl; have hcz38_1 : w35.cell? ⟨gb105, 1, none⟩ = some (.bool false) := (blk_cell BK105.out 1).trans rfl; have hfz38_0 := blk_frozen BK105.out 0; have hfz38_1 := blk_frozen BK105.out 1) | ((with_reducible refine gate_callee (f := 88) rfl ?_); refine goesL_ (some 28) rfl rfl Tryd.func88 (by kernel_rfl) rfl #[.agg #[.int .i64 (wrap64 (a0_0 + a1)), .bool a2]] rfl (by (try simp only [List.map_toArray, List.map_cons, List.map_nil]); first | done | rfl | (simp only [List.length_drop, List.length_take]; rfl)) ?_; (with_reducible refine (impl_Tone_valid.calls (wrap64 (a0_0 + a1)) a2 false _ A22.out).mono ?_); rintro e w39 ⟨rfl, hb⟩; refine ⟨_, rfl, ?_⟩; have n0_ := Aside0.mk (blk_below (g := gb102) (o := .cells #[.int .i64 a0_0, .bool a0_1] 29 (0, 0)) (by (with_reducible repeat (first | refine blk_drewN ?_ _ | refine blk_drew ?_ | refine blk_alloc ?_ _)); refine blk_far ?_ NB102_105.out _; (with_reducible repeat (first | refine blk_drewN ?_ _ | refine blk_drew ?_ | refine blk_alloc ?_ _)); refine blk_far ?_ NB102_105.out _; (with_reducible repeat (first | refine blk_drewN ?_ _ | refine blk_drew ?_ | refine blk_alloc ?_ _)); exact BK102.out) hb); have n1_ := Aside0.mk (blk_below (g := gb103) (o := .cells #[.int .i64 0, .bool false] 29 (0, 0)) (by (with_reducible repeat (first | refine blk_drewN ?_ _ | refine blk_drew ?_ | refine blk_alloc ?_ _)); refine blk_far ?_ NB103_105.out _; (with_reducible repeat (first | refine blk_drewN ?_ _ | refine blk_drew ?_ | refine blk_alloc ?_ _)); refine blk_far ?_ NB103_105.out _; (with_reducible repeat (first | refine blk_drewN ?_ _ | refine blk_drew ?_ | refine blk_alloc ?_ _)); exact BK103.out) hb); have n2_ := Aside0.mk (blk_below (g := gb105) (o := .cells #[.int .i64 (wrap64 (a0_0 + a1)), .bool a2] 29 (0, 0)) (by (with_reducible repeat (first | refine blk_drewN ?_ _ | refine blk_drew ?_ | refine blk_alloc ?_ _)); refine blk_put (cs := #[.int .i64 (wrap64 (a0_0 + a1)), .bool false]) ?_ 1 _ rfl; (with_reducible repeat (first | refine blk_drewN ?_ _ | refine blk_drew ?_ | refine blk_alloc ?_ _)); refine blk_put (cs := #[.int .i64 0, .bool false]) ?_ 0 _ rfl; (with_reducible repeat (first | refine blk_drewN ?_ _ | refine blk_drew ?_ | refine blk_alloc ?_ _)); exact BK105.out) hb); have n3_ := Aside0.mk (below_step (by repeat (first | (with_reducible first | exact HB.out | apply below_alloc | apply pw_below_drewN | apply below_drew1 | refine below_set ?_ GE102.out | refine below_set ?_ GE103.out | refine below_set ?_ GE105.out) | exact HB.out)) hb); clear BK102; clear BK103; clear BK105; clear HB; have BK102 := n0_; have BK103 := n1_; have BK105 := n2_; have HB := n3_; clear n0_ n1_ n2_ n3_; (try clear hb); (try clear hb2); (try clear hk); (try clear hi); have hcz40_0 : w39.cell? ⟨gb103, 0, none⟩ = some (.int .i64 0) := (blk_cell BK103.out 0).trans rfl; have hcz40_1 : w39.cell? ⟨gb103, 1, none⟩ = some (.bool false) := (blk_cell BK103.out 1).trans rfl; have hfz40_0 := blk_frozen BK103.out 0; have hfz40_1 := blk_frozen BK103.out 1))
     refine bodyPost_ret (results_ct rfl _ _ gb103 29 #[.int .i64 0, .bool false] (0, 0) _ rfl (by (with_reducible repeat (first | refine blk_drewN ?_ _ | refine blk_drew ?_ | refine blk_alloc ?_ _)); refine blk_put (cs := #[.int .i64 0, .bool false]) ?_ 1 _ rfl; (with_reducible repeat (first | refine blk_drewN ?_ _ | refine blk_drew ?_ | refine blk_alloc ?_ _)); refine blk_put (cs := #[.int .i64 0, .bool false]) ?_ 0 _ rfl; (with_reducible repeat (first | refine blk_drewN ?_ _ | refine blk_drew ?_ | refine blk_alloc ?_ _)); exact BK103.out) Tryd.underlying29 rfl (by kernel_rfl)) rfl ?_; exact ⟨by first | rfl | (simp [errW_none, errW_some] <;> rfl) | (simp [*, errW_none, errW_some] <;> rfl), by repeat (first | (with_reducible first | exact HB.out | apply below_alloc | apply pw_below_drewN | apply below_drew1 | refine below_set ?_ GE102.out | refine below_set ?_ GE103.out | refine below_set ?_ GE105.out) | exact HB.out)⟩

end Go.Proofs.YthhnaplmjpacnaaDoor.PFnModeMoves
namespace Go.Proofs.YthhnaplmjpacnaaDoor.Pure
set_option linter.unusedVariables false
set_option linter.unusedSimpArgs false
open Go Go.RowKit Go.Proofs.YthhnaplmjpacnaaDoor.PFnModeMoves Go.Proofs.YthhnaplmjpacnaaDoorW.PrintWords Go.Proofs.YthhnaplmjpacnaaDoorW.PrintLast Go.Proofs.YthhnaplmjpacnaaDoorW.PrintMore

theorem Ev.succ {α : Type} {g : Nat → Option α} {r : α} (h : Ev (fun k => g (k + 1)) r) : Ev g r := Ev.step (fun _ => rfl) h
theorem Ev.pos {α : Type} {c : Prop} [Decidable c] {f g : Nat → Option α} {r : α} (hc : c) (h : Ev f r) : Ev (fun k => if c then f k else g k) r := by
 simp only [if_pos hc]; exact h
theorem Ev.neg {α : Type} {c : Prop} [Decidable c] {f g : Nat → Option α} {r : α} (hc : ¬ c) (h : Ev g r) : Ev (fun k => if c then f k else g k) r := by
 simp only [if_neg hc]; exact h
theorem Ev.conb {α β : Type} {x : Option α} {a : α} {f : Nat → α → Option β} {r : β} (hx : x = some a) (h : Ev (fun n => f n a) r) : Ev (fun n => x.bind (f n)) r := by subst hx; exact h
theorem Ev.eqr {α : Type} {g : Nat → Option α} {r r' : α} (h : Ev g r) (e : r = r') : Ev g r' := e ▸ h
/-- A loop over the places of a list, from the front. -/
theorem Ev.over {α ρ σ : Type} (d : α) (xs : List α) (L : Nat → σ → Int → Option ρ) (F : σ → List α → ρ) (I : Nat → σ → Prop)
 (hend : ∀ s, I xs.length s → Ev (fun k => L k s (xs.length : Int)) (F s []))
 (hstep : ∀ s (i : Nat) rest, I i s → i < xs.length → xs.drop i = xs.getD i d :: rest → (∀ s', I (i + 1) s' → Ev (fun k => L k s' ((i : Int) + 1)) (F s' rest)) → Ev (fun k => L k s (i : Int)) (F s (xs.getD i d :: rest))) :
 ∀ (i : Nat) (s : σ), i ≤ xs.length → I i s → Ev (fun k => L k s (i : Int)) (F s (xs.drop i)) := by
 intro i s hi hI
 obtain ⟨n, hn⟩ : ∃ n, n = xs.length - i := ⟨_, rfl⟩
 induction n generalizing i s with
 | zero =>
  have e : i = xs.length := by omega
  subst e
  rw [List.drop_length]
  exact hend s hI
 | succ n ih =>
  have hlt : i < xs.length := by omega
  have e : xs.drop i = xs.getD i d :: xs.drop (i + 1) := by
   rw [List.drop_eq_getElem_cons hlt, List.getD_eq_getElem?_getD, List.getElem?_eq_getElem hlt]; rfl
  rw [e]
  refine hstep s i _ hI hlt e (fun s' hs' => ?_)
  have := ih (i + 1) s' (by omega) hs' (by omega)
  simpa using this
theorem w64 {x : Int} (h : -9223372036854775808 ≤ x) (h' : x ≤ 9223372036854775807) : wrap64 x = x := by unfold wrap64; omega
theorem xor_bd (x y : Int) (hx : 0 ≤ x) (hx' : x < 4611686018427387904) (hy : 0 ≤ y) (hy' : y < 4611686018427387904) : 0 ≤ Go.bits .xor .i64 x y := by
 obtain ⟨a, rfl⟩ := Int.eq_ofNat_of_zero_le hx
 obtain ⟨b, rfl⟩ := Int.eq_ofNat_of_zero_le hy
 have ha : a < 2 ^ 62 := by omega
 have hb : b < 2 ^ 62 := by omega
 have hc : a ^^^ b < 2 ^ 62 := Nat.xor_lt_two_pow ha hb
 have ha' : a % 2 ^ IntKind.i64.bits = a := Nat.mod_eq_of_lt (Nat.lt_of_lt_of_le ha (by decide))
 have hb' : b % 2 ^ IntKind.i64.bits = b := Nat.mod_eq_of_lt (Nat.lt_of_lt_of_le hb (by decide))
 have e : Go.bits .xor .i64 (a : Int) (b : Int) = ((a ^^^ b : Nat) : Int) := by
  simp only [Go.bits, BitVec.ofInt_natCast, BitVec.toNat_xor, BitVec.toNat_ofNat, ha', hb']
  rw [Go.IntKind.wrap_i64]; omega
 rw [e]; omega
theorem mx_le (a b : Int) : a ≤ mx a b ∧ b ≤ mx a b ∧ (mx a b = a ∨ mx a b = b) := by unfold mx; split <;> omega
theorem mn_le (a b : Int) : mn a b ≤ a ∧ mn a b ≤ b ∧ (mn a b = a ∨ mn a b = b) := by unfold mn; split <;> omega
/-- From some number of rounds on there is an answer, and it is such a one. -/
def Evx {α : Type} (g : Nat → Option α) (P : α → Prop) : Prop := ∃ r, Ev g r ∧ P r
theorem Evx.now {α : Type} {P : α → Prop} {r : α} (h : P r) : Evx (fun _ => some r) P := ⟨r, Ev.now r, h⟩
theorem Evx.mono {α : Type} {g : Nat → Option α} {P Q : α → Prop} (h : Evx g P) (hPQ : ∀ r, P r → Q r) : Evx g Q := by
 obtain ⟨r, h, hP⟩ := h; exact ⟨r, h, hPQ r hP⟩
theorem Evx.bind {α β : Type} {g : Nat → Option α} {f : Nat → α → Option β} {P : α → Prop} {Q : β → Prop} (h : Evx g P) (k : ∀ a, P a → Evx (fun n => f n a) Q) : Evx (fun n => (g n).bind (f n)) Q := by
 obtain ⟨a, h, hP⟩ := h
 obtain ⟨r, h', hQ⟩ := k a hP
 exact ⟨r, Ev.bind h h', hQ⟩
theorem Evx.succ {α : Type} {g : Nat → Option α} {P : α → Prop} (h : Evx (fun k => g (k + 1)) P) : Evx g P := by
 obtain ⟨r, h, hP⟩ := h; exact ⟨r, Ev.succ h, hP⟩
theorem Evx.pos {α : Type} {c : Prop} [Decidable c] {f g : Nat → Option α} {P : α → Prop} (hc : c) (h : Evx f P) : Evx (fun k => if c then f k else g k) P := by
 simp only [if_pos hc]; exact h
theorem Evx.neg {α : Type} {c : Prop} [Decidable c] {f g : Nat → Option α} {P : α → Prop} (hc : ¬ c) (h : Evx g P) : Evx (fun k => if c then f k else g k) P := by
 simp only [if_neg hc]; exact h
theorem Evx.ite {α : Type} {c : Prop} [Decidable c] {f g : Nat → Option α} {P : α → Prop} (h : c → Evx f P) (h' : ¬ c → Evx g P) : Evx (fun k => if c then f k else g k) P := by
 by_cases hc : c
 ·
  exact Evx.pos hc (h hc)
 ·
  exact Evx.neg hc (h' hc)
theorem Evx.someb {α β : Type} {a : α} {f : Nat → α → Option β} {P : β → Prop} (h : Evx (fun n => f n a) P) : Evx (fun n => (some a).bind (f n)) P := h
theorem Evx.conb {α β : Type} {x : Option α} {a : α} {f : Nat → α → Option β} {P : β → Prop} (hx : x = some a) (h : Evx (fun n => f n a) P) : Evx (fun n => x.bind (f n)) P := by subst hx; exact h
theorem Evx.bind1 {α β : Type} {g : Nat → Option α} {f : Nat → α → Option β} {a : α} {Q : β → Prop} (h : Ev g a) (k : Evx (fun n => f n a) Q) : Evx (fun n => (g n).bind (f n)) Q := by
 obtain ⟨r, h', hQ⟩ := k
 exact ⟨r, Ev.bind h h', hQ⟩
theorem rd_bd {s : List Int} (hs : ∀ x ∈ s, 0 ≤ x ∧ x ≤ 255) (i : Int) : 0 ≤ rd s i ∧ rd s i ≤ 255 := by
 unfold rd
 rw [List.getD_eq_getElem?_getD]
 cases h : s[i.toNat]? with
 | none => simp
 | some v => exact hs v (List.mem_of_getElem? h)
theorem mem_set_of {α : Type} {P : α → Prop} {l : List α} (h : ∀ x ∈ l, P x) (i : Nat) (v : α) (hv : P v) : ∀ x ∈ l.set i v, P x := by
 intro x hx
 rcases List.mem_or_eq_of_mem_set hx with hx | hx
 ·
  exact h x hx
 ·
  exact hx ▸ hv

theorem Ev.upto {ρ σ : Type} (L : Nat → σ → Int → Option ρ) (S : Nat → σ) (n : Nat) (r : ρ) (hend : Ev (fun k => L k (S n) (n : Int)) r)
 (hstep : ∀ i < n, Ev (fun k => L k (S (i + 1)) ((i : Int) + 1)) r → Ev (fun k => L k (S i) (i : Int)) r) : ∀ i ≤ n, Ev (fun k => L k (S i) (i : Int)) r := by
 intro i hi
 obtain ⟨d, hd⟩ : ∃ d, d = n - i := ⟨_, rfl⟩
 induction d generalizing i with
 | zero =>
  obtain rfl : i = n := by omega
  exact hend
 | succ d ih =>
  have := ih (i + 1) (by omega) (by omega)
  refine hstep i (by omega) ?_
  simpa using this

def toneOk (t : S29) : Bool := decide (0 ≤ t.f0 ∧ t.f0 ≤ 20) && (!t.f1 || Int.tmod t.f0 7 == 2)
def melOk (m : List S29) : Bool := decide (m.length ≤ 24) && m.all toneOk
theorem melOk_len {m : List S29} (h : melOk m = true) : m.length ≤ 24 := by
 unfold melOk at h; simp at h; exact h.1
theorem impl_Tone_valid_eq (a : Int) (b : Bool) : impl_Tone_valid.f a b = some (toneOk ⟨a, b⟩) := by
 unfold impl_Tone_valid.f toneOk
 by_cases h : a ≥ 0
 ·
  by_cases h' : a ≤ 20
  ·
   cases b
   ·
    simp [h, h']
   ·
    simp [h, h']
  ·
   simp [h, h']
 ·
  have : ¬ (0 ≤ a) := h
  simp [this]

theorem impl_MelodyValid_ev (m : List S29) : Ev (fun k => impl_MelodyValid.f k m) (melOk m) := by
 unfold impl_MelodyValid.f
 by_cases h : (m.length : Int) > 24
 ·
  refine Ev.eqr (Ev.pos h (Ev.now _)) ?_
  unfold melOk
  rw [decide_eq_false (by omega)]; rfl
 ·
  refine Ev.eqr (Ev.neg h (r := m.all toneOk) ?_) (by unfold melOk; rw [decide_eq_true (by omega)]; rfl)
  have := Ev.over z29 m (fun k (_ : Unit) i => impl_MelodyValid.l0 k m m.length i) (fun _ l => l.all toneOk) (fun _ _ => True) (by
   intro s _
   refine Ev.succ ?_
   simp only [impl_MelodyValid.l0]
   exact Ev.neg (by omega) (Ev.now _)) (by
   intro s i rest _ hi _ ih
   refine Ev.succ ?_
   simp only [impl_MelodyValid.l0]
   refine Ev.pos (by omega) (Ev.pos (by omega) (Ev.pos (by omega) (Ev.conb (impl_Tone_valid_eq _ _) ?_)))
   show Ev _ (toneOk (rd_T29 m i) && _)
   cases ht : toneOk (rd_T29 m i)
   ·
    exact Ev.neg (by simp [ht]) (Ev.now _)
   ·
    refine Ev.pos (by simp [ht]) ?_
    rw [w64 (by omega) (by omega)]
    simpa using ih () trivial) 0 () (Nat.zero_le _) trivial
  simpa using this

def lhL : List Int := [0, 2, 4, 5, 7, 9, 10]
def lh (x : Int) : Int := lhL.getD (Int.tmod x 7).toNat 0
def hgt (t : S29) : Int := if t.f1 = true then lh t.f0 + 12 * Int.tdiv t.f0 7 - 1 else lh t.f0 + 12 * Int.tdiv t.f0 7
theorem toneOk_bd {t : S29} (h : toneOk t = true) : 0 ≤ t.f0 ∧ t.f0 ≤ 20 := by unfold toneOk at h; simp at h; exact h.1
theorem lh_bd (x : Int) : 0 ≤ lh x ∧ lh x ≤ 10 := by
 unfold lh
 generalize (Int.tmod x 7).toNat = n
 match n with
 | 0 => decide
 | 1 => decide
 | 2 => decide
 | 3 => decide
 | 4 => decide
 | 5 => decide
 | 6 => decide
 | n + 7 =>
  have : lhL.getD (n + 7) 0 = 0 := rfl
  rw [this]; decide
theorem mod7 {x : Int} (h : 0 ≤ x) : 0 ≤ Int.tmod x 7 ∧ Int.tmod x 7 < 7 := ⟨Int.tmod_nonneg _ h, Int.tmod_lt_of_pos _ (by decide)⟩
theorem div7 {x : Int} (h : 0 ≤ x) (h' : x ≤ 20) : 0 ≤ Int.tdiv x 7 ∧ Int.tdiv x 7 ≤ 2 := by
 rw [Int.tdiv_eq_ediv_of_nonneg h]; omega
theorem hgt_bd {t : S29} (h : toneOk t = true) : -1 ≤ hgt t ∧ hgt t ≤ 34 := by
 have h1 := toneOk_bd h
 have h2 := lh_bd t.f0
 have h3 := div7 h1.1 h1.2
 unfold hgt
 split <;> omega
def mvT (t : S29) (k : Int) (s : Bool) : S29 := ⟨t.f0 + k, s⟩
def mvGood (k semis : Int) (t : S29) (s : Bool) : Bool := toneOk (mvT t k s) && decide (hgt (mvT t k s) - hgt t = semis)
def mvAll (k semis : Int) : List S29 → Option (List S29)
 | [] => some []
 | t :: ts => if mvGood k semis t false = true then (mvAll k semis ts).map (mvT t k false :: ·) else if mvGood k semis t true = true then (mvAll k semis ts).map (mvT t k true :: ·) else none
def movedP (k semis : Int) (m : List S29) : List S29 × Bool := match mvAll k semis m with
 | some l => (l, true)
 | none => ([], false)
def mmTry (m : List S29) (k : Int) (s : Bool) : Bool := toneOk (mvT (rd_T29 m 0) k s) && (movedP k (hgt (mvT (rd_T29 m 0) k s) - hgt (rd_T29 m 0)) m).2
def mmOf (m : List S29) (k : Int) (s : Bool) : List S29 := (movedP k (hgt (mvT (rd_T29 m 0) k s) - hgt (rd_T29 m 0)) m).1
def mmove (m : List S29) (k : Int) : List S29 × Bool :=
 if melOk m = true then (if m.length = 0 then ([], true) else if -20 ≤ k ∧ k ≤ 20 then (if mmTry m k false = true then (mmOf m k false, true) else if mmTry m k true = true then (mmOf m k true, true) else ([], false)) else ([], false)) else ([], false)
theorem mvAll_len (k semis : Int) : ∀ (m l : List S29), mvAll k semis m = some l → l.length = m.length
 | [], l, h => by cases h; rfl
 | t :: ts, l, h => by
  simp only [mvAll] at h
  split at h
  ·
   obtain ⟨l', h1, rfl⟩ := Option.map_eq_some_iff.1 h
   simp [mvAll_len k semis ts l' h1]
  ·
   split at h
   ·
    obtain ⟨l', h1, rfl⟩ := Option.map_eq_some_iff.1 h
    simp [mvAll_len k semis ts l' h1]
   ·
    cases h
theorem movedP_len (k semis : Int) (m : List S29) : (movedP k semis m).1.length ≤ m.length := by
 unfold movedP
 cases h : mvAll k semis m with
 | none => exact Nat.zero_le _
 | some l => exact Nat.le_of_eq (mvAll_len k semis m l h)
theorem mmove_len (m : List S29) (k : Int) : (mmove m k).1.length ≤ 24 := by
 unfold mmove
 split
 ·
  rename_i h
  have := melOk_len h
  split
  ·
   exact Nat.zero_le _
  ·
   split
   ·
    split
    ·
     exact Nat.le_trans (movedP_len _ _ _) this
    ·
     split
     ·
      exact Nat.le_trans (movedP_len _ _ _) this
     ·
      exact Nat.zero_le _
   ·
    exact Nat.zero_le _
 ·
  exact Nat.zero_le _

def mRow (mode : Int) : Int × Int × Int × Int :=
 if mode = 1 then (4, 8, 3, 12) else if mode = 2 then (4, 6, 0, 9) else if mode = 3 then (5, 10, 4, 13) else if mode = 4 then (5, 8, 1, 10) else if mode = 5 then (6, 10, 5, 14) else if mode = 6 then (6, 8, 2, 11) else if mode = 7 then (7, 11, 6, 15) else (7, 10, 3, 12)
def mOk (mode : Int) : Bool := decide (1 ≤ mode ∧ mode ≤ 8)
theorem mOk_cases {mode : Int} (h : mOk mode = true) : mode = 1 ∨ mode = 2 ∨ mode = 3 ∨ mode = 4 ∨ mode = 5 ∨ mode = 6 ∨ mode = 7 ∨ mode = 8 := by
 unfold mOk at h; simp at h; omega
def mlo : Int → List S29 → Int
 | a, [] => a
 | a, x :: xs => mlo (mn a x.f0) xs
def mhi : Int → List S29 → Int
 | a, [] => a
 | a, x :: xs => mhi (mx a x.f0) xs
def mSome (m : List S29) : Bool := melOk m && decide (0 < m.length)
def mrange (m : List S29) : Int × Int × Bool := if mSome m = true then (mlo (rd_T29 m 0).f0 m, mhi (rd_T29 m 0).f0 m, true) else (0, 0, false)
def mIn (m : List S29) (mode : Int) : Bool :=
 mSome m && (mOk mode && ((rd_T29 m ((m.length : Int) - 1)).f0 == (mRow mode).1 && (!(rd_T29 m ((m.length : Int) - 1)).f1 && (decide ((mRow mode).2.2.1 ≤ mlo (rd_T29 m 0).f0 m) && decide (mhi (rd_T29 m 0).f0 m ≤ (mRow mode).2.2.2)))))
def mUp (m : List S29) : Nat → List Int
 | 0 => []
 | n + 1 => if mIn m ((n : Int) + 1) = true then mUp m n ++ [(n : Int) + 1] else mUp m n
theorem mUp_len (m : List S29) : ∀ n, (mUp m n).length ≤ n
 | 0 => by simp [mUp]
 | n + 1 => by
  have := mUp_len m n
  simp only [mUp]
  split
  ·
   simp; omega
  ·
   omega

end Go.Proofs.YthhnaplmjpacnaaDoor.Pure
namespace Go.Proofs.YthhnaplmjpacnaaDoor.Pure
set_option linter.unusedVariables false
set_option linter.unusedSimpArgs false
open Go Go.RowKit Go.Proofs.YthhnaplmjpacnaaDoor.PFnModeMoves Go.Proofs.YthhnaplmjpacnaaDoorW.PrintWords Go.Proofs.YthhnaplmjpacnaaDoorW.PrintLast Go.Proofs.YthhnaplmjpacnaaDoorW.PrintMore

def hCells : Array Value := #[.int .i64 0, .int .i64 2, .int .i64 4, .int .i64 5, .int .i64 7, .int .i64 9, .int .i64 10]
def HTab (w : World) : Prop := ∃ t fz, w.heap[1]? = some (.cells hCells t fz)
theorem HTab.below {w w' : World} (h : HTab w) (hb : Below w.heap.size w w') : HTab w' := by
 obtain ⟨t, fz, h⟩ := h
 exact ⟨t, fz, (hb.block _ (blk_lt h)).trans h⟩
theorem HTab.at {w : World} (h : HTab w) (x : Int) (h0 : 0 ≤ x) : w.cell? ⟨1, (Int.tmod x 7).toNat, none⟩ = some (.int .i64 (lh x)) := by
 obtain ⟨t, fz, h⟩ := h
 refine (cell_of_row w _ _ hCells t fz h).trans ?_
 have := mod7 h0
 unfold lh
 obtain ⟨n, hn⟩ : ∃ n, n = (Int.tmod x 7).toNat := ⟨_, rfl⟩
 rw [← hn]
 have hn7 : n < 7 := by omega
 clear hn
 match n, hn7 with
 | 0, _ => rfl
 | 1, _ => rfl
 | 2, _ => rfl
 | 3, _ => rfl
 | 4, _ => rfl
 | 5, _ => rfl
 | 6, _ => rfl
set_option maxHeartbeats 4000000 in
set_option maxRecDepth 100000 in
theorem impl_height_calls (t : S29) (w : World) (ht : HTab w) (hok : toneOk t = true) :
 Calls Tryd.prog 73 #[.agg #[.int .i64 t.f0, .bool t.f1]] w fun e w' => e = .returned (.int .i64 (hgt t)) ∧ Below w.heap.size w w' := by
 have hu1 := Tryd.underlying29
 have hb := toneOk_bd hok
 have h4 := mod7 hb.1
 have h3 := div7 hb.1 hb.2
 have hl := lh_bd t.f0
 have HT := Aside0.mk ht
 have e1 : wrap64 (Int.tdiv t.f0 7) = Int.tdiv t.f0 7 := w64 (by omega) (by omega)
 have e2 : wrap64 (12 * Int.tdiv t.f0 7) = 12 * Int.tdiv t.f0 7 := w64 (by omega) (by omega)
 have e3 : wrap64 (lh t.f0 + 12 * Int.tdiv t.f0 7) = lh t.f0 + 12 * Int.tdiv t.f0 7 := w64 (by omega) (by omega)
 have e4 : wrap64 (lh t.f0 + 12 * Int.tdiv t.f0 7 - 1) = lh t.f0 + 12 * Int.tdiv t.f0 7 - 1 := w64 (by omega) (by omega)
 have i1 := eq_true h4.1
 have i2 := eq_true h4.2
 cases hs : t.f1
 ·
  have eh : hgt t = lh t.f0 + 12 * Int.tdiv t.f0 7 := by unfold hgt; rw [hs]; rfl
  rw [eh]
  clear eh hok ht
  go_enter Tryd.func73, Tryd.ntmps73
  go_wp2_with ((with_reducible refine gate_dst (N := 1) rfl ?_); refine box_event ?hg (N := 1) ?hd (cs := #[.int .i64 t.f0, .bool false]) (t := 29) ?hr ?_; (case hd => rfl); (case hg => rfl); (case hr => first | (go_simp; done) | (go_simp; rfl)); intro gb hg w3 hbox hb3; have HB3 := Aside0.mk hb3; have hx0 : w3.cell? ⟨gb, 0, none⟩ = some (.int .i64 t.f0) := (blk_cell hbox 0).trans rfl; have hx1 : w3.cell? ⟨gb, 1, none⟩ = some (.bool false) := (blk_cell hbox 1).trans rfl; have hgl := (HT.out.below hb3).at t.f0 hb.1; clear hg hbox hb3)
  go_region
  all_goals
   go_wp2
   go_ret
   exact ⟨rfl, below_drew1 HB3.out⟩
 ·
  have eh : hgt t = lh t.f0 + 12 * Int.tdiv t.f0 7 - 1 := by unfold hgt; rw [hs]; rfl
  rw [eh]
  clear eh hok ht
  go_enter Tryd.func73, Tryd.ntmps73
  go_wp2_with ((with_reducible refine gate_dst (N := 1) rfl ?_); refine box_event ?hg (N := 1) ?hd (cs := #[.int .i64 t.f0, .bool true]) (t := 29) ?hr ?_; (case hd => rfl); (case hg => rfl); (case hr => first | (go_simp; done) | (go_simp; rfl)); intro gb hg w3 hbox hb3; have HB3 := Aside0.mk hb3; have hx0 : w3.cell? ⟨gb, 0, none⟩ = some (.int .i64 t.f0) := (blk_cell hbox 0).trans rfl; have hx1 : w3.cell? ⟨gb, 1, none⟩ = some (.bool true) := (blk_cell hbox 1).trans rfl; have hgl := (HT.out.below hb3).at t.f0 hb.1; clear hg hbox hb3)
  go_region
  all_goals
   go_wp2
   go_ret
   exact ⟨rfl, below_drew1 HB3.out⟩
theorem impl_ToneAbove_eq (t : S29) (a : Int) (s : Bool) (ht : toneOk t = true) (ha : -20 ≤ a ∧ a ≤ 20) : impl_ToneAbove.f 1 t.f0 t.f1 a s = some (if toneOk (mvT t a s) = true then (t.f0 + a, s, true) else (0, false, false)) := by
 have hb := toneOk_bd ht
 unfold impl_ToneAbove.f
 rw [impl_Tone_valid_eq]
 have e : (⟨t.f0, t.f1⟩ : S29) = t := rfl
 have d : decide (a > 20) = false := decide_eq_false (by omega)
 rw [e, ht, Option.bind_some, if_pos rfl, if_neg (by omega), d]
 simp only [impl_ToneAbove.j0]
 rw [if_neg (by simp), w64 (x := t.f0 + a) (by omega) (by omega), impl_Tone_valid_eq, Option.bind_some]
 show (if toneOk (mvT t a s) = true then _ else _) = _
 split <;> rfl

def Lk (w : World) (B : Nat) : Value → List S29 → Prop
 | v, [] => v = .pointer none
 | v, x :: xs => ∃ b nx, v = .pointer (some ⟨b, 0, none⟩) ∧ B ≤ b ∧ w.heap[b]? = some (.cells #[.int .i64 x.f0, .bool x.f1, nx] 103 (0, 0)) ∧ Lk w B nx xs
theorem Lk.below {w w' : World} {B : Nat} (hb : Below w.heap.size w w') : ∀ {xs : List S29} {v : Value}, Lk w B v xs → Lk w' B v xs
 | [], _, h => h
 | x :: xs, _, ⟨b, nx, h1, h2, h3, h4⟩ => ⟨b, nx, h1, h2, (hb.block _ (blk_lt h3)).trans h3, Lk.below hb h4⟩
theorem Lk.ptr {w : World} {B : Nat} : ∀ {xs : List S29} {v : Value}, Lk w B v xs → ∃ p, v = .pointer p
 | [], _, h => ⟨_, h⟩
 | x :: xs, _, ⟨b, nx, h1, _⟩ => ⟨_, h1⟩
set_option maxHeartbeats 4000000 in
set_option maxRecDepth 100000 in
theorem impl_linked_calls (m : List S29) (A0 : Option Addr) (c0 : Nat) (w : World) (hr0 : Kd.C k29 w A0 m.length m) (hc0 : m.length ≤ c0) (hm : m.length ≤ 1000000000000) :
 Calls Tryd.prog 96 #[.slice A0 m.length c0] w fun e w' => ∃ v, e = .returned v ∧ Lk w' w.heap.size v m ∧ Below w.heap.size w w' := by
 have HR0 := Aside0.mk hr0
 have HC0 := Aside0.mk hc0
 clear hr0 hc0
 have hu := Tryd.underlying103
 have hu1 := Tryd.underlying29
 go_enter Tryd.func96, Tryd.ntmps96
 go_wp2
 go_loopg [3, 4] m.length (fun kq v3 v4 w' => ∃ (i : Int), v4 = .int .i64 i ∧ Aside0 (kq = (i + 1).toNat ∧ -1 ≤ i ∧ i < (m.length : Int)) ∧ Aside0 (Lk w' w.heap.size v3 (m.drop (i + 1).toNat)) ∧ Aside0 (Below w.heap.size w w'))
 case atStart =>
  have e : ((m.length : Int) - 1 + 1).toNat = m.length := by omega
  have hL : Lk w w.heap.size (.pointer none) (m.drop ((m.length : Int) - 1 + 1).toNat) := by rw [e, List.drop_length]; rfl
  exact ⟨(m.length : Int) - 1, rfl, ⟨by omega, by omega, by omega⟩, ⟨hL⟩, ⟨by repeat (first | exact Below.refl _ _ | apply below_alloc | apply pw_below_drewN | apply below_drew1)⟩⟩
 case round =>
  obtain ⟨i, rfl, HX, HL, HB⟩ := hrel
  obtain ⟨hk, hi0, hi1⟩ := HX.out
  obtain ⟨p, rfl⟩ := HL.out.ptr
  by_cases h : 0 ≤ i
  ·
   have d1 : decide (0 ≤ i) = true := decide_eq_true h
   obtain ⟨ad, e1, ux0, ux1⟩ := at_T29 HR0.out i h hi1
   subst e1
   have hx0 := (HB.out.cell (World.block_lt_of_cell? w _ ux0)).trans ux0
   have hx1 := (HB.out.cell (World.block_lt_of_cell? w _ ux1)).trans ux1
   obtain ⟨X, hX⟩ : ∃ X, X = rd_T29 m i := ⟨_, rfl⟩
   rw [← hX] at hx0 hx1
   have hdr : Aside0 (m.drop (i - 1 + 1).toNat = X :: m.drop (i + 1).toNat) := by
    have e0 : (i - 1 + 1).toNat = i.toNat := by omega
    have e1 : (i + 1).toNat = i.toNat + 1 := by omega
    refine ⟨?_⟩
    rw [e0, e1, List.drop_eq_getElem_cons (by omega), hX]
    unfold rd_T29
    rw [List.getD_eq_getElem?_getD, List.getElem?_eq_getElem (by omega)]; rfl
   have NX : Aside0 ((i - 1 + 1).toNat < gk ∧ -1 ≤ i - 1 ∧ i - 1 < (m.length : Int)) := ⟨by omega, by omega, by omega⟩
   have j0 := eq_true h
   have j1 := eq_true hi1
   clear hX ux0 ux1 hk
   go_wp2_with ((with_reducible refine gate_dst (N := 18) rfl ?_); refine box_event ?hg (N := 18) ?hd (cs := #[.int .i64 X.f0, .bool X.f1, .pointer p]) (t := 103) ?hr ?_; (case hd => rfl); (case hg => rfl); (case hr => first | (go_simp; done) | (go_simp; rfl)); intro gb hg w3 hbox hb3; have HBX := Aside0.mk hbox; have HL3 := Aside0.mk (HL.out.below hb3); have HB3 := Aside0.mk (below_step HB.out hb3); have GW := Aside0.mk (show w.heap.size ≤ gb from (by rw [hg]; exact HB.out.size)); clear hg hbox hb3)
   go_roundg ((i - 1 + 1).toNat)
   case measure => exact NX.out.1
   case rel => exact ⟨i - 1, rfl, ⟨rfl, NX.out.2⟩, ⟨by rw [hdr.out]; exact ⟨gb, _, rfl, GW.out, HBX.out, HL3.out⟩⟩, HB3⟩
  ·
   have d1 : decide (0 ≤ i) = false := decide_eq_false h
   obtain rfl : i = -1 := by omega
   have HL' := HL.out
   go_wp2
   go_ret
   exact ⟨_, rfl, HL', HB.out⟩

def diffs (g : S29 → S29 → Int) : List S29 → List Int
 | [] => []
 | [_] => []
 | x :: y :: r => g x y :: diffs g (y :: r)
theorem melOk_all {m : List S29} (h : melOk m = true) : m.all toneOk = true := by
 unfold melOk at h; rw [Bool.and_eq_true] at h; exact h.2

end Go.Proofs.YthhnaplmjpacnaaDoor.Pure
namespace Go.Proofs.YthhnaplmjpacnaaDoor.Pure
set_option linter.unusedVariables false
set_option linter.unusedSimpArgs false
open Go Go.RowKit Go.Proofs.YthhnaplmjpacnaaDoor.PFnModeMoves Go.Proofs.YthhnaplmjpacnaaDoorW.PrintWords Go.Proofs.YthhnaplmjpacnaaDoorW.PrintLast Go.Proofs.YthhnaplmjpacnaaDoorW.PrintMore

def mvRes (k semis : Int) (X l : List S29) : List S29 × Bool := match mvAll k semis l with
 | some r => (X ++ r, true)
 | none => ([], false)
theorem mvRes_nil (k semis : Int) (X : List S29) : mvRes k semis X [] = (X, true) := by simp [mvRes, mvAll]
theorem mvRes_yes {k semis : Int} {X l : List S29} {x : S29} {b : Bool} (h : mvGood k semis x b = true) (h' : b = true → ¬ mvGood k semis x false = true) : mvRes k semis X (x :: l) = mvRes k semis (X ++ [mvT x k b]) l := by
 unfold mvRes
 simp only [mvAll]
 cases b
 ·
  rw [if_pos h]; cases mvAll k semis l <;> simp
 ·
  rw [if_neg (h' rfl), if_pos h]; cases mvAll k semis l <;> simp
theorem mvRes_no {k semis : Int} {X l : List S29} {x : S29} (h : ¬ mvGood k semis x true = true) (h' : ¬ mvGood k semis x false = true) : mvRes k semis X (x :: l) = ([], false) := by
 unfold mvRes
 simp only [mvAll]
 rw [if_neg h', if_neg h]
theorem movedP_res (k semis : Int) (m : List S29) : movedP k semis m = mvRes k semis [] m := by unfold movedP mvRes; cases mvAll k semis m <;> simp
theorem LkT.grown {w w1 : World} {B B' : Nat} {ok : Nat → Prop} {v0 : Value} {X : List S29} (hr : Kd.R k29 29 w B' ok v0 X) (hg : w.grownBy w1 v0.ownBlock) : ∀ {xs : List S29} {v : Value}, Lk w B v xs → Lk w1 B v xs
 | [], _, h => h
 | x :: xs, _, ⟨b, nx, h1, h2, h3, h4⟩ => ⟨b, nx, h1, h2, blk_grown h3 hg (Kd.R_ne hr h3 (by decide)), LkT.grown hr hg h4⟩
set_option maxHeartbeats 8000000 in
set_option maxRecDepth 100000 in
theorem impl_movedMelody_calls (m : List S29) (k semis : Int) (A0 : Option Addr) (c0 : Nat) (w : World) (ht : HTab w) (hr0 : Kd.C k29 w A0 m.length m) (hc0 : m.length ≤ c0) (hok : melOk m = true) (hk : -20 ≤ k ∧ k ≤ 20) :
 Calls Tryd.prog 72 #[.slice A0 m.length c0, .int .i64 k, .int .i64 semis] w fun e w' => ∃ v, e = .returned (.tuple #[v, .bool (movedP k semis m).2]) ∧ Kd.R k29 29 w' w.heap.size (fun _ => True) v (movedP k semis m).1 ∧ Below w.heap.size w w' := by
 have hu := Tryd.underlying103
 have hu1 := Tryd.underlying29
 have ix0 : ∀ w, (Instr.index 86 (.agg #[.bool false, .bool true]) (.int .i64 0)).run Tryd.prog w = .ok (.bool false) w := fun _ => by kernel_rfl
 have ix1 : ∀ w, (Instr.index 86 (.agg #[.bool false, .bool true]) (.int .i64 1)).run Tryd.prog w = .ok (.bool true) w := fun _ => by kernel_rfl
 have HT := Aside0.mk ht
 have HR0 := Aside0.mk hr0
 have HC0 := Aside0.mk hc0
 have hall := melOk_all hok
 have hlen := melOk_len hok
 have HKK := Aside0.mk hk
 obtain ⟨⟨R1, R2⟩, hR⟩ : ∃ R, R = movedP k semis m := ⟨_, rfl⟩
 rw [← hR]
 rw [movedP_res] at hR
 have HRR := Aside0.mk hR.symm
 have HALL := Aside0.mk (And.intro hall hlen)
 clear hr0 hc0 ht hR hok hall hk
 go_enter Tryd.func72, Tryd.ntmps72
 go_wp2_with (first
  | ((with_reducible refine gate_dst (N := 15) rfl ?_); refine Kd.R_lit k29 _ 29 ?hg (N := 15) ?hd (xs := ([] : List S29)) (inner := []) (ok := fun _ => True) (okp := fun _ => True) ?hr (Reps.none _ _) (fun _ hk => hk) trivial (Below.refl _ _) (Nat.le_refl _) (by simp) ?_; (case hd => rfl); (case hg => rfl); (case hr => first | (go_simp; done) | (go_simp; rfl)); intro v1 w1 ho1 hb1 _ _; have HO1 := Aside0.mk ho1; have HB1 := Aside0.mk hb1; clear ho1 hb1)
  | (go_at_call 96; refine (impl_linked_calls m _ _ w1 (Kd.C_below HR0.out HB1.out) HC0.out (by omega)).mono ?_; rintro e w3 ⟨v3, rfl, hl3, hb3⟩; have HL3 := Aside0.mk hl3; have HO3 := Aside0.mk (Kd.R_below HO1.out hb3); have HB3 := Aside0.mk (below_step HB1.out hb3); clear hl3 hb3))
 go_loopg [8, 9] m.length (fun kq v8 v9 w' => ∃ (X : List S29) (l : List S29), Aside0 (kq = l.length ∧ mvRes k semis X l = (R1, R2) ∧ l.all toneOk = true ∧ X.length + l.length ≤ 24) ∧ Aside0 (Kd.R k29 29 w' w.heap.size (fun _ => True) v8 X) ∧ Aside0 (Lk w' w1.heap.size v9 l) ∧ Aside0 (Below w.heap.size w w'))
 case atStart => exact ⟨[], m, ⟨rfl, HRR.out, HALL.out.1, by simpa using HALL.out.2⟩, HO3, HL3, HB3⟩
 case round =>
  clear HO3 HL3 HB3
  obtain ⟨X, l, HX, HO, HL, HB⟩ := hrel
  cases l with
  | nil =>
   obtain rfl := HL.out
   obtain ⟨A5, c5, e5⟩ := Kd.R_slice HO.out
   subst e5
   have hXD := HX.out.2.1
   rw [mvRes_nil] at hXD
   cases hXD
   go_wp2
   go_ret2
   exact ⟨_, rfl, HO.out, HB.out⟩
  | cons x l =>
   obtain ⟨b, nx, e1, hbw, hbx, hnx⟩ := HL.out
   subst e1
   obtain ⟨p, rfl⟩ := hnx.ptr
   have NXM : Aside0 (l.length < gk) := ⟨by have := HX.out.1; simp only [List.length_cons] at this; omega⟩
   have HBX := Aside0.mk hbx
   have HNX := Aside0.mk hnx
   have hxl := HX.out.2.2.1
   rw [List.all_cons, Bool.and_eq_true] at hxl
   have HXL := Aside0.mk hxl
   clear hxl hbx hnx HL
   go_wp2
   go_loopg [8, 10, 25] 2 (fun kq v8 v10 v25 w' => ∃ (j : Int), v10 = .bool false ∧ v25 = .int .i64 j ∧ Aside0 (kq = (2 - j).toNat ∧ 0 ≤ j ∧ j ≤ 2 ∧ (1 ≤ j → ¬ mvGood k semis x false = true) ∧ (2 ≤ j → ¬ mvGood k semis x true = true)) ∧ Aside0 (Kd.R k29 29 w' w.heap.size (fun _ => True) v8 X) ∧ Aside0 (w'.heap[b]? = some (.cells #[.int .i64 x.f0, .bool x.f1, .pointer p] 103 (0, 0))) ∧ Aside0 (Lk w' w1.heap.size (.pointer p) l) ∧ Aside0 (Below w.heap.size w w'))
   case atStart => exact ⟨0, rfl, rfl, ⟨rfl, by decide, by decide, by omega, by omega⟩, HO, HBX, HNX, HB⟩
   case round =>
    obtain ⟨j, rfl, rfl, HJ, HO2, HBX2, HNX2, HB2⟩ := hrel
    clear HO HBX HNX HB
    obtain ⟨hk, j0, j2, n0, n1⟩ := HJ.out
    by_cases h2 : j = 2
    ·
     subst h2
     have hR : (R1, R2) = ([], false) := HX.out.2.1.symm.trans (mvRes_no (n1 (by omega)) (n0 (by omega)))
     cases hR
     clear n0 n1 hk j0 j2
     go_wp2
     go_ret2
     exact ⟨_, rfl, Kd.R_nil _ _ _ _ _, HB2.out⟩
    have hj : j = 0 ∨ j = 1 := by omega
    have HY := Aside0.mk (toneOk_bd HXL.out.1)
    rcases hj with rfl | rfl
    ·
     have N0 : Aside0 True := ⟨trivial⟩
     have HK := Aside0.mk hk
     clear n0 n1 hk j0 j2 h2 HJ
     obtain ⟨ok, hv⟩ : ∃ ok, ok = toneOk (mvT x k false) := ⟨_, rfl⟩
     have HV := Aside0.mk hv
     have hta : impl_ToneAbove.f 1 x.f0 x.f1 k false = some (if ok = true then (x.f0 + k, false, true) else (0, false, false)) := by rw [impl_ToneAbove_eq x k false HXL.out.1 HKK.out, hv]
     have HTA := Aside0.mk hta
     clear hta hv
     have hx0 : wr.cell? ⟨b, 0, none⟩ = some (.int .i64 x.f0) := (blk_cell HBX2.out 0).trans rfl
     have hx1 : wr.cell? ⟨b, 1, none⟩ = some (.bool x.f1) := (blk_cell HBX2.out 1).trans rfl
     cases ok
     ·
      have NG : Aside0 (¬ mvGood k semis x false = true) := ⟨by unfold mvGood; rw [← HV.out]; simp⟩
      go_upto_region 10 with (first
       | (go_at_call 54; refine (impl_ToneAbove.calls 1 x.f0 x.f1 k false 0 false false _ (HTA.out.trans rfl)).mono ?_; rintro e w4 ⟨rfl, hb4⟩; have HB4 := Aside0.mk hb4; clear hb4)
       | ((with_reducible refine gate_dst (N := 13) rfl ?_); refine box_event ?hg (N := 13) ?hd (cs := #[.int .i64 0, .bool false]) (t := 29) ?hr ?_; (case hd => rfl); (case hg => rfl); (case hr => first | (go_simp; done) | (go_simp; rfl)); intro gb hg w5 hbox hb5; have HG := Aside0.mk (show w4.heap.size ≤ gb by omega); have HB5 := Aside0.mk hb5; have hcz0 : w5.cell? ⟨gb, 0, none⟩ = some (.int .i64 0) := (blk_cell hbox 0).trans rfl; have hcz1 : w5.cell? ⟨gb, 1, none⟩ = some (.bool false) := (blk_cell hbox 1).trans rfl; have hfz0 := blk_frozen hbox 0; have hfz1 := blk_frozen hbox 1; clear hbox hb5 hg))
      have hbW : Below wr.heap.size wr ((w5.setCell ⟨gb, 0, none⟩ (.int .i64 0)).setCell ⟨gb, 1, none⟩ (.bool false)) := below_step HB4.out (below_set (below_set HB5.out HG.out) HG.out)
      have HBW := Aside0.mk hbW
      clear hbW HB4 HB5 HG hcz0 hcz1 hx0 hx1 hfz0 hfz1
      generalize (w5.setCell ⟨gb, 0, none⟩ (.int .i64 0)).setCell ⟨gb, 1, none⟩ (.bool false) = wx at HBW ⊢
      go_region
      all_goals
       go_wp2
       go_roundg (2 - 1)
       case measure => have := HK.out; omega
       case rel => exact ⟨1, rfl, rfl, ⟨by decide, by decide, by decide, fun _ => NG.out, by omega⟩, ⟨Kd.R_below HO2.out (below_drew1 HBW.out)⟩, ⟨blk_below HBX2.out (below_drew1 HBW.out)⟩, ⟨Lk.below (below_drew1 HBW.out) HNX2.out⟩, ⟨below_step HB2.out (below_drew1 HBW.out)⟩⟩
     ·
      have HB' := Aside0.mk (hgt_bd (t := mvT x k false) HV.out.symm)
      have HB'' := Aside0.mk (hgt_bd HXL.out.1)
      obtain ⟨Y, hY⟩ : ∃ Y, Y = x.f0 + k := ⟨_, rfl⟩
      have hYT : mvT x k false = ⟨Y, false⟩ := by rw [hY]; rfl
      have hgood : mvGood k semis x false = decide (hgt ⟨Y, false⟩ - hgt x = semis) := by unfold mvGood; rw [← HV.out, ← hYT]; rfl
      have HGD := Aside0.mk hgood
      have HYT := Aside0.mk hYT
      have HYO := Aside0.mk (show toneOk ⟨Y, false⟩ = true by rw [← hYT]; exact HV.out.symm)
      have EW : Aside0 (IntKind.i64.wrap (hgt ⟨Y, false⟩ - hgt x) = hgt ⟨Y, false⟩ - hgt x) := ⟨by rw [← hYT, i64_w]; exact w64 (x := hgt (mvT x k false) - hgt x) (by have := HB'.out; have := HB''.out; omega) (by have := HB'.out; have := HB''.out; omega)⟩
      rw [← hY] at HTA
      clear hY hYT hgood HB' HB''
      go_upto_region 10 with (first
       | (go_at_call 54; refine (impl_ToneAbove.calls 1 x.f0 x.f1 k false Y false true _ (HTA.out.trans rfl)).mono ?_; rintro e w4 ⟨rfl, hb4⟩; have HB4 := Aside0.mk hb4; clear hb4)
       | ((with_reducible refine gate_dst (N := 13) rfl ?_); refine box_event ?hg (N := 13) ?hd (cs := #[.int .i64 0, .bool false]) (t := 29) ?hr ?_; (case hd => rfl); (case hg => rfl); (case hr => first | (go_simp; done) | (go_simp; rfl)); intro gb hg w5 hbox hb5; have HG := Aside0.mk (show w4.heap.size ≤ gb by omega); have HB5 := Aside0.mk hb5; have HBK := Aside0.mk hbox; have hcz0 : w5.cell? ⟨gb, 0, none⟩ = some (.int .i64 0) := (blk_cell hbox 0).trans rfl; have hcz1 : w5.cell? ⟨gb, 1, none⟩ = some (.bool false) := (blk_cell hbox 1).trans rfl; have hfz0 := blk_frozen hbox 0; have hfz1 := blk_frozen hbox 1; clear hbox hb5 hg))
      have hbW : Below wr.heap.size wr ((w5.setCell ⟨gb, 0, none⟩ (.int .i64 Y)).setCell ⟨gb, 1, none⟩ (.bool false)) := below_step HB4.out (below_set (below_set HB5.out HG.out) HG.out)
      have hbk : ((w5.setCell ⟨gb, 0, none⟩ (.int .i64 Y)).setCell ⟨gb, 1, none⟩ (.bool false)).heap[gb]? = some (.cells #[.int .i64 Y, .bool false] 29 (0, 0)) := blk_put (cs := #[.int .i64 Y, .bool false]) (blk_put (cs := #[.int .i64 0, .bool false]) HBK.out 0 _ rfl) 1 _ rfl
      have HBW := Aside0.mk hbW
      have HBKW := Aside0.mk hbk
      clear hbW hbk HB4 HB5 HG HBK hcz0 hcz1 hx0 hx1 hfz0 hfz1
      generalize (w5.setCell ⟨gb, 0, none⟩ (.int .i64 Y)).setCell ⟨gb, 1, none⟩ (.bool false) = wx at HBW HBKW ⊢
      have hg0 : wx.drew.cell? ⟨gb, 0, none⟩ = some (.int .i64 Y) := (blk_cell HBKW.out 0).trans rfl
      have hg1 : wx.drew.cell? ⟨gb, 1, none⟩ = some (.bool false) := (blk_cell HBKW.out 1).trans rfl
      have hy0 : wx.drew.cell? ⟨b, 0, none⟩ = some (.int .i64 x.f0) := pw_cell_below (below_drew1 HBW.out) ((blk_cell HBX2.out 0).trans rfl)
      have hy1 : wx.drew.cell? ⟨b, 1, none⟩ = some (.bool x.f1) := pw_cell_below (below_drew1 HBW.out) ((blk_cell HBX2.out 1).trans rfl)
      have HTW := Aside0.mk (HT.out.below (below_step HB2.out (below_drew1 HBW.out)))
      go_region_held3 (fun w' => w'.cell? ⟨gb, 0, none⟩ = some (.int .i64 Y) ∧ w'.cell? ⟨gb, 1, none⟩ = some (.bool false) ∧ w'.cell? ⟨b, 0, none⟩ = some (.int .i64 x.f0) ∧ w'.cell? ⟨b, 1, none⟩ = some (.bool x.f1))
       (first
        | exact ⟨hg0, hg1, hy0, hy1⟩
        | go_keep
        | exact ⟨pw_cell_below hb6 hg0, pw_cell_below hb6 hg1, pw_cell_below hb6 hy0, pw_cell_below hb6 hy1⟩
        | exact ⟨pw_cell_below (below_step hb6 hb7) hg0, pw_cell_below (below_step hb6 hb7) hg1, pw_cell_below (below_step hb6 hb7) hy0, pw_cell_below (below_step hb6 hb7) hy1⟩
        | fail)
       (first
        | (go_at_call 73; with_reducible refine (impl_height_calls ⟨Y, false⟩ wx.drew HTW.out HYO.out).mono ?_; rintro e w6 ⟨rfl, hb6⟩)
        | (go_at_call 73; with_reducible refine (impl_height_calls x w6 (HTW.out.below hb6) HXL.out.1).mono ?_; rintro e w7 ⟨rfl, hb7⟩)
        | fail)
      have HB7 := Aside0.mk (below_step (below_drew1 HBW.out) (below_step hb6 hb7))
      have hz0 := pw_cell_below (below_step hb6 hb7) hg0
      have hz1 := pw_cell_below (below_step hb6 hb7) hg1
      have HO7 := Aside0.mk (Kd.R_below HO2.out HB7.out)
      have HBX7 := Aside0.mk (blk_below HBX2.out HB7.out)
      have HNX7 := Aside0.mk (Lk.below HB7.out HNX2.out)
      have HW7 := Aside0.mk (below_step HB2.out HB7.out)
      clear hg0 hg1 hy0 hy1 hb6 hb7 HBKW HBW HTW
      by_cases hs : hgt ⟨Y, false⟩ - hgt x = semis
      ·
       have d1 : (IntKind.i64.wrap (hgt ⟨Y, false⟩ - hgt x) == semis) = true := beq_iff_eq.2 (EW.out.trans hs)
       have d2 : decide (hgt ⟨Y, false⟩ - hgt x = semis) = true := decide_eq_true hs
       have GO : Aside0 (mvGood k semis x false = true) := ⟨by rw [HGD.out]; exact d2⟩
       have bx := HX.out.2.2.2
       clear hs
       go_wp2_with ((with_reducible refine gate_builtin (b := .append) (xs := #[.tmp 51, .tmp 53]) rfl ?_); at_builtin; go_loud (refine Kd.R_append k29 (w0 := w) w.heap.size rfl (.tmp 51) (.tmp 53) 23 29 (.agg #[(.int .i64 0), (.bool false)]) 16 rfl Tryd.underlying23 info29 rfl (by decide) (by omega) _ X (⟨Y, false⟩ : S29) [.int .i64 Y, .bool false] (fun _ => True) (fun _ => False) rfl rfl (k29_mkM _ _ _ _) (fun _ hk => hk.elim) (fun _ _ => trivial) HO7.out HW7.out HW7.out.size (by omega) ?_); intro v9 w8 ho8 hb8 hg8 hat8; have HO8 := Aside0.mk ho8; have HB8 := Aside0.mk hb8; have HNX8 := Aside0.mk (LkT.grown HO7.out hg8 HNX7.out); have cx2 : w8.cell? ⟨b, 2, none⟩ = some (.pointer p) := (blk_cell (blk_grown HBX7.out hg8 (Kd.R_ne HO7.out HBX7.out (by decide))) 2).trans rfl; clear ho8 hb8 hg8 hat8)
       go_roundg l.length
       case measure => exact NXM.out
       case rel => exact ⟨X ++ [⟨Y, false⟩], l, ⟨rfl, by rw [← HYT.out, ← mvRes_yes GO.out (fun h => by cases h)]; exact HX.out.2.1, HXL.out.2, by simp only [List.length_append, List.length_cons, List.length_nil] at bx ⊢; omega⟩, HO8, HNX8, HB8⟩
      ·
       have d1 : (IntKind.i64.wrap (hgt ⟨Y, false⟩ - hgt x) == semis) = false := beq_eq_false_iff_ne.2 (fun h => hs (EW.out.symm.trans h))
       have d2 : decide (hgt ⟨Y, false⟩ - hgt x = semis) = false := decide_eq_false hs
       have NG : Aside0 (¬ mvGood k semis x false = true) := ⟨by rw [HGD.out, d2]; decide⟩
       clear hs
       go_wp2
       go_roundg (2 - 1)
       case measure => have := HK.out; omega
       case rel => exact ⟨1, rfl, rfl, ⟨by decide, by decide, by decide, fun _ => NG.out, by omega⟩, HO7, HBX7, HNX7, HW7⟩
    ·
     have N0 := Aside0.mk (n0 (by omega))
     have HK := Aside0.mk hk
     clear n0 n1 hk j0 j2 h2 HJ
     obtain ⟨ok, hv⟩ : ∃ ok, ok = toneOk (mvT x k true) := ⟨_, rfl⟩
     have HV := Aside0.mk hv
     have hta : impl_ToneAbove.f 1 x.f0 x.f1 k true = some (if ok = true then (x.f0 + k, true, true) else (0, false, false)) := by rw [impl_ToneAbove_eq x k true HXL.out.1 HKK.out, hv]
     have HTA := Aside0.mk hta
     clear hta hv
     have hx0 : wr.cell? ⟨b, 0, none⟩ = some (.int .i64 x.f0) := (blk_cell HBX2.out 0).trans rfl
     have hx1 : wr.cell? ⟨b, 1, none⟩ = some (.bool x.f1) := (blk_cell HBX2.out 1).trans rfl
     cases ok
     ·
      have NG : Aside0 (¬ mvGood k semis x true = true) := ⟨by unfold mvGood; rw [← HV.out]; simp⟩
      go_upto_region 10 with (first
       | (go_at_call 54; refine (impl_ToneAbove.calls 1 x.f0 x.f1 k true 0 false false _ (HTA.out.trans rfl)).mono ?_; rintro e w4 ⟨rfl, hb4⟩; have HB4 := Aside0.mk hb4; clear hb4)
       | ((with_reducible refine gate_dst (N := 13) rfl ?_); refine box_event ?hg (N := 13) ?hd (cs := #[.int .i64 0, .bool false]) (t := 29) ?hr ?_; (case hd => rfl); (case hg => rfl); (case hr => first | (go_simp; done) | (go_simp; rfl)); intro gb hg w5 hbox hb5; have HG := Aside0.mk (show w4.heap.size ≤ gb by omega); have HB5 := Aside0.mk hb5; have hcz0 : w5.cell? ⟨gb, 0, none⟩ = some (.int .i64 0) := (blk_cell hbox 0).trans rfl; have hcz1 : w5.cell? ⟨gb, 1, none⟩ = some (.bool false) := (blk_cell hbox 1).trans rfl; have hfz0 := blk_frozen hbox 0; have hfz1 := blk_frozen hbox 1; clear hbox hb5 hg))
      have hbW : Below wr.heap.size wr ((w5.setCell ⟨gb, 0, none⟩ (.int .i64 0)).setCell ⟨gb, 1, none⟩ (.bool false)) := below_step HB4.out (below_set (below_set HB5.out HG.out) HG.out)
      have HBW := Aside0.mk hbW
      clear hbW HB4 HB5 HG hcz0 hcz1 hx0 hx1 hfz0 hfz1
      generalize (w5.setCell ⟨gb, 0, none⟩ (.int .i64 0)).setCell ⟨gb, 1, none⟩ (.bool false) = wx at HBW ⊢
      go_region
      all_goals
       go_wp2
       go_roundg (2 - 2)
       case measure => have := HK.out; omega
       case rel => exact ⟨2, rfl, rfl, ⟨by decide, by decide, by decide, fun _ => N0.out, fun _ => NG.out⟩, ⟨Kd.R_below HO2.out (below_drew1 HBW.out)⟩, ⟨blk_below HBX2.out (below_drew1 HBW.out)⟩, ⟨Lk.below (below_drew1 HBW.out) HNX2.out⟩, ⟨below_step HB2.out (below_drew1 HBW.out)⟩⟩
     ·
      have HB' := Aside0.mk (hgt_bd (t := mvT x k true) HV.out.symm)
      have HB'' := Aside0.mk (hgt_bd HXL.out.1)
      obtain ⟨Y, hY⟩ : ∃ Y, Y = x.f0 + k := ⟨_, rfl⟩
      have hYT : mvT x k true = ⟨Y, true⟩ := by rw [hY]; rfl
      have hgood : mvGood k semis x true = decide (hgt ⟨Y, true⟩ - hgt x = semis) := by unfold mvGood; rw [← HV.out, ← hYT]; rfl
      have HGD := Aside0.mk hgood
      have HYT := Aside0.mk hYT
      have HYO := Aside0.mk (show toneOk ⟨Y, true⟩ = true by rw [← hYT]; exact HV.out.symm)
      have EW : Aside0 (IntKind.i64.wrap (hgt ⟨Y, true⟩ - hgt x) = hgt ⟨Y, true⟩ - hgt x) := ⟨by rw [← hYT, i64_w]; exact w64 (x := hgt (mvT x k true) - hgt x) (by have := HB'.out; have := HB''.out; omega) (by have := HB'.out; have := HB''.out; omega)⟩
      rw [← hY] at HTA
      clear hY hYT hgood HB' HB''
      go_upto_region 10 with (first
       | (go_at_call 54; refine (impl_ToneAbove.calls 1 x.f0 x.f1 k true Y true true _ (HTA.out.trans rfl)).mono ?_; rintro e w4 ⟨rfl, hb4⟩; have HB4 := Aside0.mk hb4; clear hb4)
       | ((with_reducible refine gate_dst (N := 13) rfl ?_); refine box_event ?hg (N := 13) ?hd (cs := #[.int .i64 0, .bool false]) (t := 29) ?hr ?_; (case hd => rfl); (case hg => rfl); (case hr => first | (go_simp; done) | (go_simp; rfl)); intro gb hg w5 hbox hb5; have HG := Aside0.mk (show w4.heap.size ≤ gb by omega); have HB5 := Aside0.mk hb5; have HBK := Aside0.mk hbox; have hcz0 : w5.cell? ⟨gb, 0, none⟩ = some (.int .i64 0) := (blk_cell hbox 0).trans rfl; have hcz1 : w5.cell? ⟨gb, 1, none⟩ = some (.bool false) := (blk_cell hbox 1).trans rfl; have hfz0 := blk_frozen hbox 0; have hfz1 := blk_frozen hbox 1; clear hbox hb5 hg))
      have hbW : Below wr.heap.size wr ((w5.setCell ⟨gb, 0, none⟩ (.int .i64 Y)).setCell ⟨gb, 1, none⟩ (.bool true)) := below_step HB4.out (below_set (below_set HB5.out HG.out) HG.out)
      have hbk : ((w5.setCell ⟨gb, 0, none⟩ (.int .i64 Y)).setCell ⟨gb, 1, none⟩ (.bool true)).heap[gb]? = some (.cells #[.int .i64 Y, .bool true] 29 (0, 0)) := blk_put (cs := #[.int .i64 Y, .bool false]) (blk_put (cs := #[.int .i64 0, .bool false]) HBK.out 0 _ rfl) 1 _ rfl
      have HBW := Aside0.mk hbW
      have HBKW := Aside0.mk hbk
      clear hbW hbk HB4 HB5 HG HBK hcz0 hcz1 hx0 hx1 hfz0 hfz1
      generalize (w5.setCell ⟨gb, 0, none⟩ (.int .i64 Y)).setCell ⟨gb, 1, none⟩ (.bool true) = wx at HBW HBKW ⊢
      have hg0 : wx.drew.cell? ⟨gb, 0, none⟩ = some (.int .i64 Y) := (blk_cell HBKW.out 0).trans rfl
      have hg1 : wx.drew.cell? ⟨gb, 1, none⟩ = some (.bool true) := (blk_cell HBKW.out 1).trans rfl
      have hy0 : wx.drew.cell? ⟨b, 0, none⟩ = some (.int .i64 x.f0) := pw_cell_below (below_drew1 HBW.out) ((blk_cell HBX2.out 0).trans rfl)
      have hy1 : wx.drew.cell? ⟨b, 1, none⟩ = some (.bool x.f1) := pw_cell_below (below_drew1 HBW.out) ((blk_cell HBX2.out 1).trans rfl)
      have HTW := Aside0.mk (HT.out.below (below_step HB2.out (below_drew1 HBW.out)))
      go_region_held3 (fun w' => w'.cell? ⟨gb, 0, none⟩ = some (.int .i64 Y) ∧ w'.cell? ⟨gb, 1, none⟩ = some (.bool true) ∧ w'.cell? ⟨b, 0, none⟩ = some (.int .i64 x.f0) ∧ w'.cell? ⟨b, 1, none⟩ = some (.bool x.f1))
       (first
        | exact ⟨hg0, hg1, hy0, hy1⟩
        | go_keep
        | exact ⟨pw_cell_below hb6 hg0, pw_cell_below hb6 hg1, pw_cell_below hb6 hy0, pw_cell_below hb6 hy1⟩
        | exact ⟨pw_cell_below (below_step hb6 hb7) hg0, pw_cell_below (below_step hb6 hb7) hg1, pw_cell_below (below_step hb6 hb7) hy0, pw_cell_below (below_step hb6 hb7) hy1⟩
        | fail)
       (first
        | (go_at_call 73; with_reducible refine (impl_height_calls ⟨Y, true⟩ wx.drew HTW.out HYO.out).mono ?_; rintro e w6 ⟨rfl, hb6⟩)
        | (go_at_call 73; with_reducible refine (impl_height_calls x w6 (HTW.out.below hb6) HXL.out.1).mono ?_; rintro e w7 ⟨rfl, hb7⟩)
        | fail)
      have HB7 := Aside0.mk (below_step (below_drew1 HBW.out) (below_step hb6 hb7))
      have hz0 := pw_cell_below (below_step hb6 hb7) hg0
      have hz1 := pw_cell_below (below_step hb6 hb7) hg1
      have HO7 := Aside0.mk (Kd.R_below HO2.out HB7.out)
      have HBX7 := Aside0.mk (blk_below HBX2.out HB7.out)
      have HNX7 := Aside0.mk (Lk.below HB7.out HNX2.out)
      have HW7 := Aside0.mk (below_step HB2.out HB7.out)
      clear hg0 hg1 hy0 hy1 hb6 hb7 HBKW HBW HTW
      by_cases hs : hgt ⟨Y, true⟩ - hgt x = semis
      ·
       have d1 : (IntKind.i64.wrap (hgt ⟨Y, true⟩ - hgt x) == semis) = true := beq_iff_eq.2 (EW.out.trans hs)
       have d2 : decide (hgt ⟨Y, true⟩ - hgt x = semis) = true := decide_eq_true hs
       have GO : Aside0 (mvGood k semis x true = true) := ⟨by rw [HGD.out]; exact d2⟩
       have bx := HX.out.2.2.2
       clear hs
       go_wp2_with ((with_reducible refine gate_builtin (b := .append) (xs := #[.tmp 51, .tmp 53]) rfl ?_); at_builtin; go_loud (refine Kd.R_append k29 (w0 := w) w.heap.size rfl (.tmp 51) (.tmp 53) 23 29 (.agg #[(.int .i64 0), (.bool false)]) 16 rfl Tryd.underlying23 info29 rfl (by decide) (by omega) _ X (⟨Y, true⟩ : S29) [.int .i64 Y, .bool true] (fun _ => True) (fun _ => False) rfl rfl (k29_mkM _ _ _ _) (fun _ hk => hk.elim) (fun _ _ => trivial) HO7.out HW7.out HW7.out.size (by omega) ?_); intro v9 w8 ho8 hb8 hg8 hat8; have HO8 := Aside0.mk ho8; have HB8 := Aside0.mk hb8; have HNX8 := Aside0.mk (LkT.grown HO7.out hg8 HNX7.out); have cx2 : w8.cell? ⟨b, 2, none⟩ = some (.pointer p) := (blk_cell (blk_grown HBX7.out hg8 (Kd.R_ne HO7.out HBX7.out (by decide))) 2).trans rfl; clear ho8 hb8 hg8 hat8)
       go_roundg l.length
       case measure => exact NXM.out
       case rel => exact ⟨X ++ [⟨Y, true⟩], l, ⟨rfl, by rw [← HYT.out, ← mvRes_yes GO.out (fun _ => N0.out)]; exact HX.out.2.1, HXL.out.2, by simp only [List.length_append, List.length_cons, List.length_nil] at bx ⊢; omega⟩, HO8, HNX8, HB8⟩
      ·
       have d1 : (IntKind.i64.wrap (hgt ⟨Y, true⟩ - hgt x) == semis) = false := beq_eq_false_iff_ne.2 (fun h => hs (EW.out.symm.trans h))
       have d2 : decide (hgt ⟨Y, true⟩ - hgt x = semis) = false := decide_eq_false hs
       have NG : Aside0 (¬ mvGood k semis x true = true) := ⟨by rw [HGD.out, d2]; decide⟩
       clear hs
       go_wp2
       go_roundg (2 - 2)
       case measure => have := HK.out; omega
       case rel => exact ⟨2, rfl, rfl, ⟨by decide, by decide, by decide, fun _ => N0.out, fun _ => NG.out⟩, HO7, HBX7, HNX7, HW7⟩

end Go.Proofs.YthhnaplmjpacnaaDoor.Pure
namespace Go.Proofs.YthhnaplmjpacnaaDoor.Pure
set_option linter.unusedVariables false
set_option linter.unusedSimpArgs false
open Go Go.RowKit Go.Proofs.YthhnaplmjpacnaaDoor.PFnModeMoves Go.Proofs.YthhnaplmjpacnaaDoorW.PrintWords Go.Proofs.YthhnaplmjpacnaaDoorW.PrintLast Go.Proofs.YthhnaplmjpacnaaDoorW.PrintMore

theorem impl_ToneAbove_out (t : S29) (a : Int) (s : Bool) (ht : toneOk t = true) (ha : ¬ (-20 ≤ a ∧ a ≤ 20)) : impl_ToneAbove.f 1 t.f0 t.f1 a s = some (0, false, false) := by
 unfold impl_ToneAbove.f
 rw [impl_Tone_valid_eq]
 have e : (⟨t.f0, t.f1⟩ : S29) = t := rfl
 rw [e, ht, Option.bind_some, if_pos rfl]
 by_cases h : a < -20
 ·
  rw [if_pos h]; rfl
 ·
  rw [if_neg h, decide_eq_true (show a > 20 by omega)]; rfl
def mmT (m : List S29) (k : Int) (b : Bool) : Prop := (-20 ≤ k ∧ k ≤ 20) ∧ mmTry m k b = true
theorem mmove_yes {m : List S29} {k : Int} {b : Bool} (hok : melOk m = true) (hm : 0 < m.length) (h : mmT m k b) (h' : b = true → ¬ mmT m k false) : mmove m k = (mmOf m k b, true) := by
 unfold mmove
 rw [if_pos hok, if_neg (by omega), if_pos h.1]
 cases b
 ·
  rw [if_pos h.2]
 ·
  rw [if_neg (fun g => h' rfl ⟨h.1, g⟩), if_pos h.2]
theorem mmove_no {m : List S29} {k : Int} (hok : melOk m = true) (hm : 0 < m.length) (h : ¬ mmT m k true) (h' : ¬ mmT m k false) : mmove m k = ([], false) := by
 unfold mmove
 rw [if_pos hok, if_neg (by omega)]
 by_cases hk : -20 ≤ k ∧ k ≤ 20
 ·
  rw [if_pos hk, if_neg (fun g => h' ⟨hk, g⟩), if_neg (fun g => h ⟨hk, g⟩)]
 ·
  rw [if_neg hk]
set_option maxHeartbeats 8000000 in
set_option maxRecDepth 100000 in
theorem impl_MelodyMove_calls (m : List S29) (k : Int) (A0 : Option Addr) (c0 : Nat) (w : World) (ht : HTab w) (hr0 : Kd.C k29 w A0 m.length m) (hc0 : m.length ≤ c0) (hm : m.length ≤ 1000000000000) :
 Calls Tryd.prog 21 #[.slice A0 m.length c0, .int .i64 k] w fun e w' => ∃ v, e = .returned (.tuple #[v, .bool (mmove m k).2]) ∧ Kd.R k29 29 w' w.heap.size (fun _ => True) v (mmove m k).1 ∧ Below w.heap.size w w' := by
 obtain ⟨kk, hv⟩ := Ev.rounds (impl_MelodyValid_ev m)
 have hu1 := Tryd.underlying29
 have ix0 : ∀ w, (Instr.index 86 (.agg #[.bool false, .bool true]) (.int .i64 0)).run Tryd.prog w = .ok (.bool false) w := fun _ => by kernel_rfl
 have ix1 : ∀ w, (Instr.index 86 (.agg #[.bool false, .bool true]) (.int .i64 1)).run Tryd.prog w = .ok (.bool true) w := fun _ => by kernel_rfl
 have HT := Aside0.mk ht
 have HR0 := Aside0.mk hr0
 have HC0 := Aside0.mk hc0
 have HVV := Aside0.mk hv
 clear hr0 hc0 ht hv
 cases hok : melOk m
 ·
  have e : mmove m k = ([], false) := by unfold mmove; rw [hok]; rfl
  rw [e]
  rw [hok] at HVV
  clear hok e
  go_enter Tryd.func21, Tryd.ntmps21
  go_wp2_with (go_at_call 71; refine (impl_MelodyValid.calls kk _ _ m false _ HR0.out HC0.out HVV.out).mono ?_; rintro e w1 ⟨rfl, hb1⟩)
  go_ret2
  exact ⟨_, rfl, Kd.R_nil _ _ _ _ _, hb1⟩
 rw [hok] at HVV
 have HOK := Aside0.mk hok
 by_cases h0 : m.length = 0
 ·
  have e : mmove m k = ([], true) := by unfold mmove; rw [if_pos hok, if_pos h0]
  rw [e]
  have hne : ((m.length : Int) == 0) = true := by rw [beq_iff_eq]; omega
  have hne' : (m.length == 0) = true := by rw [beq_iff_eq]; omega
  clear hok e h0
  go_enter Tryd.func21, Tryd.ntmps21
  go_wp2_with (first
   | (go_at_call 71; refine (impl_MelodyValid.calls kk _ _ m true _ HR0.out HC0.out HVV.out).mono ?_; rintro e w1 ⟨rfl, hb1⟩)
   | ((with_reducible refine gate_dst (N := 18) rfl ?_); refine Kd.R_lit k29 _ 29 ?hg (N := 18) ?hd (xs := ([] : List S29)) (inner := []) (ok := fun _ => True) (okp := fun _ => True) ?hr (Reps.none _ _) (fun _ hk => hk) trivial (Below.refl _ _) (Nat.le_refl _) (by simp) ?_; (case hd => rfl); (case hg => rfl); (case hr => first | (go_simp; done) | (go_simp; rfl)); intro v1 w2 ho1 hb2 _ _; obtain ⟨A1, c1, rfl⟩ := Kd.R_slice ho1))
  go_ret2
  exact ⟨_, rfl, Kd.R_lower ho1 hb1.size, below_step hb1 hb2⟩
 have hlen := melOk_len hok
 have hpos : 0 < m.length := by omega
 have hne : ((m.length : Int) == 0) = false := by rw [beq_eq_false_iff_ne]; omega
 have hne' : (m.length == 0) = false := by rw [beq_eq_false_iff_ne]; omega
 obtain ⟨⟨R1, R2⟩, hR⟩ : ∃ R, R = mmove m k := ⟨_, rfl⟩
 rw [← hR]
 have HRR := Aside0.mk hR.symm
 obtain ⟨ad, e1, ux0, ux1⟩ := at_T29 HR0.out 0 (by omega) (by omega)
 subst e1
 obtain ⟨x, hx⟩ : ∃ x, x = rd_T29 m 0 := ⟨_, rfl⟩
 have hxo : toneOk x = true := by
  rw [hx]
  refine List.all_eq_true.1 (melOk_all hok) _ ?_
  unfold rd_T29
  rw [List.getD_eq_getElem?_getD, List.getElem?_eq_getElem (by simp; omega)]; exact List.getElem_mem _
 rw [← hx] at ux0 ux1
 have HXL := Aside0.mk (And.intro hxo hx)
 have UX0 : Aside0 (w.cell? ad = some (.int .i64 x.f0)) := ⟨ux0⟩
 have UX1 : Aside0 (w.cell? ⟨ad.block, ad.off + 1, none⟩ = some (.bool x.f1)) := ⟨ux1⟩
 have i1 := eq_true (show 0 < (m.length : Int) by omega)
 have i2 := eq_true hpos
 have HPOS := Aside0.mk hpos
 clear hok h0 hR ux0 ux1 hx hxo hpos
 go_enter Tryd.func21, Tryd.ntmps21
 go_wp2_with (go_at_call 71; refine (impl_MelodyValid.calls kk _ _ m true _ HR0.out HC0.out HVV.out).mono ?_; rintro e w1 ⟨rfl, hb1⟩; have HB1 := Aside0.mk hb1; clear hb1)
 go_loopg [20] 2 (fun kq v20 w' => ∃ (j : Int), v20 = .int .i64 j ∧ Aside0 (kq = (2 - j).toNat ∧ 0 ≤ j ∧ j ≤ 2 ∧ (1 ≤ j → ¬ mmT m k false) ∧ (2 ≤ j → ¬ mmT m k true)) ∧ Aside0 (Below w.heap.size w w'))
 case atStart => exact ⟨0, rfl, ⟨rfl, by decide, by decide, by omega, by omega⟩, HB1⟩
 case round =>
  obtain ⟨j, rfl, HJ, HB2⟩ := hrel
  clear HB1
  obtain ⟨hk, j0, j2, n0, n1⟩ := HJ.out
  by_cases h2 : j = 2
  ·
   subst h2
   have hR : (R1, R2) = ([], false) := HRR.out.symm.trans (mmove_no HOK.out HPOS.out (n1 (by omega)) (n0 (by omega)))
   cases hR
   clear n0 n1 hk j0 j2
   go_wp2
   go_ret2
   exact ⟨_, rfl, Kd.R_nil _ _ _ _ _, HB2.out⟩
  have hj : j = 0 ∨ j = 1 := by omega
  rcases hj with rfl | rfl
  ·
   have N0 : Aside0 True := ⟨trivial⟩
   have HK := Aside0.mk hk
   clear n0 n1 hk j0 j2 h2 HJ
   obtain ⟨ok, hv⟩ : ∃ ok, ok = (decide (-20 ≤ k ∧ k ≤ 20) && toneOk (mvT x k false)) := ⟨_, rfl⟩
   have HV := Aside0.mk hv
   have hta : impl_ToneAbove.f 1 x.f0 x.f1 k false = some (if ok = true then (x.f0 + k, false, true) else (0, false, false)) := by
    by_cases hk : -20 ≤ k ∧ k ≤ 20
    ·
     rw [impl_ToneAbove_eq x k false HXL.out.1 hk, hv, decide_eq_true hk]; rfl
    ·
     rw [impl_ToneAbove_out x k false HXL.out.1 hk, hv, decide_eq_false hk]; rfl
   have HTA := Aside0.mk hta
   clear hta hv
   have hx0 : wr.cell? ad = some (.int .i64 x.f0) := (HB2.out.cell (World.block_lt_of_cell? w _ UX0.out)).trans UX0.out
   have hx1 : wr.cell? ⟨ad.block, ad.off + 1, none⟩ = some (.bool x.f1) := (HB2.out.cell (World.block_lt_of_cell? w _ UX1.out)).trans UX1.out
   cases ok
   ·
    have NG : Aside0 (¬ mmT m k false) := ⟨fun h => by have hv := HV.out; rw [decide_eq_true h.1, Bool.true_and] at hv; have h2 := h.2; unfold mmTry at h2; rw [← HXL.out.2, ← hv] at h2; cases h2⟩
    go_wp2_with (first
     | (go_at_call 54; refine (impl_ToneAbove.calls 1 x.f0 x.f1 k false 0 false false _ (HTA.out.trans rfl)).mono ?_; rintro e w4 ⟨rfl, hb4⟩; have HB4 := Aside0.mk hb4; clear hb4)
     | ((with_reducible refine gate_dst (N := 8) rfl ?_); refine box_event ?hg (N := 8) ?hd (cs := #[.int .i64 0, .bool false]) (t := 29) ?hr ?_; (case hd => rfl); (case hg => rfl); (case hr => first | (go_simp; done) | (go_simp; rfl)); intro gb hg w5 hbox hb5; have HG := Aside0.mk (show w4.heap.size ≤ gb by omega); have HB5 := Aside0.mk hb5; have hcz0 : w5.cell? ⟨gb, 0, none⟩ = some (.int .i64 0) := (blk_cell hbox 0).trans rfl; have hcz1 : w5.cell? ⟨gb, 1, none⟩ = some (.bool false) := (blk_cell hbox 1).trans rfl; have hfz0 := blk_frozen hbox 0; have hfz1 := blk_frozen hbox 1; clear hbox hb5 hg))
    have hbW : Below wr.heap.size wr ((w5.setCell ⟨gb, 0, none⟩ (.int .i64 0)).setCell ⟨gb, 1, none⟩ (.bool false)) := below_step HB4.out (below_set (below_set HB5.out HG.out) HG.out)
    have HBW := Aside0.mk hbW
    go_roundg (2 - 1)
    case measure => have := HK.out; omega
    case rel => exact ⟨1, rfl, ⟨by decide, by decide, by decide, fun _ => NG.out, by omega⟩, ⟨below_step HB2.out HBW.out⟩⟩
   ·
    have hv := HV.out.symm
    rw [Bool.and_eq_true] at hv
    have hkk := of_decide_eq_true hv.1
    have HKK := Aside0.mk hkk
    have HB' := Aside0.mk (hgt_bd (t := mvT x k false) hv.2)
    have HB'' := Aside0.mk (hgt_bd HXL.out.1)
    obtain ⟨Y, hY⟩ : ∃ Y, Y = x.f0 + k := ⟨_, rfl⟩
    have hYT : mvT x k false = ⟨Y, false⟩ := by rw [hY]; rfl
    obtain ⟨⟨M1, M2⟩, hM⟩ : ∃ R, R = movedP k (hgt ⟨Y, false⟩ - hgt x) m := ⟨_, rfl⟩
    have HM := Aside0.mk hM.symm
    have HTRY : Aside0 (mmTry m k false = M2 ∧ mmOf m k false = M1) := ⟨by unfold mmTry mmOf; rw [← HXL.out.2, hv.2, hYT, ← hM]; exact ⟨rfl, rfl⟩⟩
    have HYO := Aside0.mk (show toneOk ⟨Y, false⟩ = true by rw [← hYT]; exact hv.2)
    have EW : Aside0 (IntKind.i64.wrap (hgt ⟨Y, false⟩ - hgt x) = hgt ⟨Y, false⟩ - hgt x) := ⟨by rw [← hYT, i64_w]; exact w64 (x := hgt (mvT x k false) - hgt x) (by have := HB'.out; have := HB''.out; omega) (by have := HB'.out; have := HB''.out; omega)⟩
    rw [← hY] at HTA
    clear hY hYT HB' HB'' hM hv hkk
    go_upto_region 10 with (first
     | (go_at_call 54; refine (impl_ToneAbove.calls 1 x.f0 x.f1 k false Y false true _ (HTA.out.trans rfl)).mono ?_; rintro e w4 ⟨rfl, hb4⟩; have HB4 := Aside0.mk hb4; clear hb4)
     | ((with_reducible refine gate_dst (N := 8) rfl ?_); refine box_event ?hg (N := 8) ?hd (cs := #[.int .i64 0, .bool false]) (t := 29) ?hr ?_; (case hd => rfl); (case hg => rfl); (case hr => first | (go_simp; done) | (go_simp; rfl)); intro gb hg w5 hbox hb5; have HG := Aside0.mk (show w4.heap.size ≤ gb by omega); have HB5 := Aside0.mk hb5; have HBK := Aside0.mk hbox; have hcz0 : w5.cell? ⟨gb, 0, none⟩ = some (.int .i64 0) := (blk_cell hbox 0).trans rfl; have hcz1 : w5.cell? ⟨gb, 1, none⟩ = some (.bool false) := (blk_cell hbox 1).trans rfl; have hfz0 := blk_frozen hbox 0; have hfz1 := blk_frozen hbox 1; clear hbox hb5 hg))
    have hbW : Below wr.heap.size wr ((w5.setCell ⟨gb, 0, none⟩ (.int .i64 Y)).setCell ⟨gb, 1, none⟩ (.bool false)) := below_step HB4.out (below_set (below_set HB5.out HG.out) HG.out)
    have hbk : ((w5.setCell ⟨gb, 0, none⟩ (.int .i64 Y)).setCell ⟨gb, 1, none⟩ (.bool false)).heap[gb]? = some (.cells #[.int .i64 Y, .bool false] 29 (0, 0)) := blk_put (cs := #[.int .i64 Y, .bool false]) (blk_put (cs := #[.int .i64 0, .bool false]) HBK.out 0 _ rfl) 1 _ rfl
    have HBW := Aside0.mk hbW
    have HBKW := Aside0.mk hbk
    have hy0' := pw_cell_below hbW hx0
    have hy1' := pw_cell_below hbW hx1
    clear hbW hbk HB4 HB5 HG HBK hcz0 hcz1 hx0 hx1 hfz0 hfz1
    generalize (w5.setCell ⟨gb, 0, none⟩ (.int .i64 Y)).setCell ⟨gb, 1, none⟩ (.bool false) = wx at HBW HBKW hy0' hy1' ⊢
    have hg0 : wx.drew.cell? ⟨gb, 0, none⟩ = some (.int .i64 Y) := (blk_cell HBKW.out 0).trans rfl
    have hg1 : wx.drew.cell? ⟨gb, 1, none⟩ = some (.bool false) := (blk_cell HBKW.out 1).trans rfl
    have hy0 : wx.drew.cell? ad = some (.int .i64 x.f0) := hy0'
    have hy1 : wx.drew.cell? ⟨ad.block, ad.off + 1, none⟩ = some (.bool x.f1) := hy1'
    have HW0 := Aside0.mk (below_step HB2.out (below_drew1 HBW.out))
    have HTW := Aside0.mk (HT.out.below HW0.out)
    clear hy0' hy1'
    go_region_held3 (fun w' => w'.cell? ⟨gb, 0, none⟩ = some (.int .i64 Y) ∧ w'.cell? ⟨gb, 1, none⟩ = some (.bool false) ∧ w'.cell? ad = some (.int .i64 x.f0) ∧ w'.cell? ⟨ad.block, ad.off + 1, none⟩ = some (.bool x.f1))
     (first
      | exact ⟨hg0, hg1, hy0, hy1⟩
      | go_keep
      | exact ⟨pw_cell_below hb6 hg0, pw_cell_below hb6 hg1, pw_cell_below hb6 hy0, pw_cell_below hb6 hy1⟩
      | exact ⟨pw_cell_below (below_step hb6 hb7) hg0, pw_cell_below (below_step hb6 hb7) hg1, pw_cell_below (below_step hb6 hb7) hy0, pw_cell_below (below_step hb6 hb7) hy1⟩
      | exact ⟨pw_cell_below (below_step (below_step hb6 hb7) hb8) hg0, pw_cell_below (below_step (below_step hb6 hb7) hb8) hg1, pw_cell_below (below_step (below_step hb6 hb7) hb8) hy0, pw_cell_below (below_step (below_step hb6 hb7) hb8) hy1⟩
      | fail)
     (first
      | (go_at_call 73; with_reducible refine (impl_height_calls ⟨Y, false⟩ wx.drew HTW.out HYO.out).mono ?_; rintro e w6 ⟨rfl, hb6⟩)
      | (go_at_call 73; with_reducible refine (impl_height_calls x w6 (HTW.out.below hb6) HXL.out.1).mono ?_; rintro e w7 ⟨rfl, hb7⟩)
      | (go_at_call 72; with_reducible refine (impl_movedMelody_calls m k (IntKind.i64.wrap (hgt ⟨Y, false⟩ - hgt x)) _ _ w7 (HTW.out.below (below_step hb6 hb7)) (Kd.C_below HR0.out (below_step HW0.out (below_step hb6 hb7))) HC0.out HOK.out HKK.out).mono ?_; rintro e w8 ⟨v8, rfl, ho8, hb8⟩; rw [EW.out, HM.out] at ho8; rw [EW.out, HM.out]; obtain ⟨A8, c8, rfl⟩ := Kd.R_slice ho8)
      | fail)
    have HB8 := Aside0.mk (below_step (below_step HW0.out (below_step hb6 hb7)) hb8)
    have HO8 := Aside0.mk (Kd.R_lower ho8 (below_step HW0.out (below_step hb6 hb7)).size)
    clear hg0 hg1 hy0 hy1 hb6 hb7 hb8 ho8 HBKW HBW HTW HW0
    cases M2
    ·
     have NG : Aside0 (¬ mmT m k false) := ⟨fun h => by have h2 := h.2; rw [HTRY.out.1] at h2; cases h2⟩
     go_wp2
     go_roundg (2 - 1)
     case measure => have := HK.out; omega
     case rel => exact ⟨1, rfl, ⟨by decide, by decide, by decide, fun _ => NG.out, by omega⟩, HB8⟩
    ·
     have hR : (R1, R2) = (M1, true) := by rw [← HTRY.out.2]; exact HRR.out.symm.trans (mmove_yes HOK.out HPOS.out ⟨HKK.out, HTRY.out.1⟩ (fun h => by cases h))
     cases hR
     go_wp2
     go_ret2
     exact ⟨_, rfl, HO8.out, HB8.out⟩
  ·
   have N0 := Aside0.mk (n0 (by omega))
   have HK := Aside0.mk hk
   clear n0 n1 hk j0 j2 h2 HJ
   obtain ⟨ok, hv⟩ : ∃ ok, ok = (decide (-20 ≤ k ∧ k ≤ 20) && toneOk (mvT x k true)) := ⟨_, rfl⟩
   have HV := Aside0.mk hv
   have hta : impl_ToneAbove.f 1 x.f0 x.f1 k true = some (if ok = true then (x.f0 + k, true, true) else (0, false, false)) := by
    by_cases hk : -20 ≤ k ∧ k ≤ 20
    ·
     rw [impl_ToneAbove_eq x k true HXL.out.1 hk, hv, decide_eq_true hk]; rfl
    ·
     rw [impl_ToneAbove_out x k true HXL.out.1 hk, hv, decide_eq_false hk]; rfl
   have HTA := Aside0.mk hta
   clear hta hv
   have hx0 : wr.cell? ad = some (.int .i64 x.f0) := (HB2.out.cell (World.block_lt_of_cell? w _ UX0.out)).trans UX0.out
   have hx1 : wr.cell? ⟨ad.block, ad.off + 1, none⟩ = some (.bool x.f1) := (HB2.out.cell (World.block_lt_of_cell? w _ UX1.out)).trans UX1.out
   cases ok
   ·
    have NG : Aside0 (¬ mmT m k true) := ⟨fun h => by have hv := HV.out; rw [decide_eq_true h.1, Bool.true_and] at hv; have h2 := h.2; unfold mmTry at h2; rw [← HXL.out.2, ← hv] at h2; cases h2⟩
    go_wp2_with (first
     | (go_at_call 54; refine (impl_ToneAbove.calls 1 x.f0 x.f1 k true 0 false false _ (HTA.out.trans rfl)).mono ?_; rintro e w4 ⟨rfl, hb4⟩; have HB4 := Aside0.mk hb4; clear hb4)
     | ((with_reducible refine gate_dst (N := 8) rfl ?_); refine box_event ?hg (N := 8) ?hd (cs := #[.int .i64 0, .bool false]) (t := 29) ?hr ?_; (case hd => rfl); (case hg => rfl); (case hr => first | (go_simp; done) | (go_simp; rfl)); intro gb hg w5 hbox hb5; have HG := Aside0.mk (show w4.heap.size ≤ gb by omega); have HB5 := Aside0.mk hb5; have hcz0 : w5.cell? ⟨gb, 0, none⟩ = some (.int .i64 0) := (blk_cell hbox 0).trans rfl; have hcz1 : w5.cell? ⟨gb, 1, none⟩ = some (.bool false) := (blk_cell hbox 1).trans rfl; have hfz0 := blk_frozen hbox 0; have hfz1 := blk_frozen hbox 1; clear hbox hb5 hg))
    have hbW : Below wr.heap.size wr ((w5.setCell ⟨gb, 0, none⟩ (.int .i64 0)).setCell ⟨gb, 1, none⟩ (.bool false)) := below_step HB4.out (below_set (below_set HB5.out HG.out) HG.out)
    have HBW := Aside0.mk hbW
    go_roundg (2 - 2)
    case measure => have := HK.out; omega
    case rel => exact ⟨2, rfl, ⟨by decide, by decide, by decide, fun _ => N0.out, fun _ => NG.out⟩, ⟨below_step HB2.out HBW.out⟩⟩
   ·
    have hv := HV.out.symm
    rw [Bool.and_eq_true] at hv
    have hkk := of_decide_eq_true hv.1
    have HKK := Aside0.mk hkk
    have HB' := Aside0.mk (hgt_bd (t := mvT x k true) hv.2)
    have HB'' := Aside0.mk (hgt_bd HXL.out.1)
    obtain ⟨Y, hY⟩ : ∃ Y, Y = x.f0 + k := ⟨_, rfl⟩
    have hYT : mvT x k true = ⟨Y, true⟩ := by rw [hY]; rfl
    obtain ⟨⟨M1, M2⟩, hM⟩ : ∃ R, R = movedP k (hgt ⟨Y, true⟩ - hgt x) m := ⟨_, rfl⟩
    have HM := Aside0.mk hM.symm
    have HTRY : Aside0 (mmTry m k true = M2 ∧ mmOf m k true = M1) := ⟨by unfold mmTry mmOf; rw [← HXL.out.2, hv.2, hYT, ← hM]; exact ⟨rfl, rfl⟩⟩
    have HYO := Aside0.mk (show toneOk ⟨Y, true⟩ = true by rw [← hYT]; exact hv.2)
    have EW : Aside0 (IntKind.i64.wrap (hgt ⟨Y, true⟩ - hgt x) = hgt ⟨Y, true⟩ - hgt x) := ⟨by rw [← hYT, i64_w]; exact w64 (x := hgt (mvT x k true) - hgt x) (by have := HB'.out; have := HB''.out; omega) (by have := HB'.out; have := HB''.out; omega)⟩
    rw [← hY] at HTA
    clear hY hYT HB' HB'' hM hv hkk
    go_upto_region 10 with (first
     | (go_at_call 54; refine (impl_ToneAbove.calls 1 x.f0 x.f1 k true Y true true _ (HTA.out.trans rfl)).mono ?_; rintro e w4 ⟨rfl, hb4⟩; have HB4 := Aside0.mk hb4; clear hb4)
     | ((with_reducible refine gate_dst (N := 8) rfl ?_); refine box_event ?hg (N := 8) ?hd (cs := #[.int .i64 0, .bool false]) (t := 29) ?hr ?_; (case hd => rfl); (case hg => rfl); (case hr => first | (go_simp; done) | (go_simp; rfl)); intro gb hg w5 hbox hb5; have HG := Aside0.mk (show w4.heap.size ≤ gb by omega); have HB5 := Aside0.mk hb5; have HBK := Aside0.mk hbox; have hcz0 : w5.cell? ⟨gb, 0, none⟩ = some (.int .i64 0) := (blk_cell hbox 0).trans rfl; have hcz1 : w5.cell? ⟨gb, 1, none⟩ = some (.bool false) := (blk_cell hbox 1).trans rfl; have hfz0 := blk_frozen hbox 0; have hfz1 := blk_frozen hbox 1; clear hbox hb5 hg))
    have hbW : Below wr.heap.size wr ((w5.setCell ⟨gb, 0, none⟩ (.int .i64 Y)).setCell ⟨gb, 1, none⟩ (.bool true)) := below_step HB4.out (below_set (below_set HB5.out HG.out) HG.out)
    have hbk : ((w5.setCell ⟨gb, 0, none⟩ (.int .i64 Y)).setCell ⟨gb, 1, none⟩ (.bool true)).heap[gb]? = some (.cells #[.int .i64 Y, .bool true] 29 (0, 0)) := blk_put (cs := #[.int .i64 Y, .bool false]) (blk_put (cs := #[.int .i64 0, .bool false]) HBK.out 0 _ rfl) 1 _ rfl
    have HBW := Aside0.mk hbW
    have HBKW := Aside0.mk hbk
    have hy0' := pw_cell_below hbW hx0
    have hy1' := pw_cell_below hbW hx1
    clear hbW hbk HB4 HB5 HG HBK hcz0 hcz1 hx0 hx1 hfz0 hfz1
    generalize (w5.setCell ⟨gb, 0, none⟩ (.int .i64 Y)).setCell ⟨gb, 1, none⟩ (.bool true) = wx at HBW HBKW hy0' hy1' ⊢
    have hg0 : wx.drew.cell? ⟨gb, 0, none⟩ = some (.int .i64 Y) := (blk_cell HBKW.out 0).trans rfl
    have hg1 : wx.drew.cell? ⟨gb, 1, none⟩ = some (.bool true) := (blk_cell HBKW.out 1).trans rfl
    have hy0 : wx.drew.cell? ad = some (.int .i64 x.f0) := hy0'
    have hy1 : wx.drew.cell? ⟨ad.block, ad.off + 1, none⟩ = some (.bool x.f1) := hy1'
    have HW0 := Aside0.mk (below_step HB2.out (below_drew1 HBW.out))
    have HTW := Aside0.mk (HT.out.below HW0.out)
    clear hy0' hy1'
    go_region_held3 (fun w' => w'.cell? ⟨gb, 0, none⟩ = some (.int .i64 Y) ∧ w'.cell? ⟨gb, 1, none⟩ = some (.bool true) ∧ w'.cell? ad = some (.int .i64 x.f0) ∧ w'.cell? ⟨ad.block, ad.off + 1, none⟩ = some (.bool x.f1))
     (first
      | exact ⟨hg0, hg1, hy0, hy1⟩
      | go_keep
      | exact ⟨pw_cell_below hb6 hg0, pw_cell_below hb6 hg1, pw_cell_below hb6 hy0, pw_cell_below hb6 hy1⟩
      | exact ⟨pw_cell_below (below_step hb6 hb7) hg0, pw_cell_below (below_step hb6 hb7) hg1, pw_cell_below (below_step hb6 hb7) hy0, pw_cell_below (below_step hb6 hb7) hy1⟩
      | exact ⟨pw_cell_below (below_step (below_step hb6 hb7) hb8) hg0, pw_cell_below (below_step (below_step hb6 hb7) hb8) hg1, pw_cell_below (below_step (below_step hb6 hb7) hb8) hy0, pw_cell_below (below_step (below_step hb6 hb7) hb8) hy1⟩
      | fail)
     (first
      | (go_at_call 73; with_reducible refine (impl_height_calls ⟨Y, true⟩ wx.drew HTW.out HYO.out).mono ?_; rintro e w6 ⟨rfl, hb6⟩)
      | (go_at_call 73; with_reducible refine (impl_height_calls x w6 (HTW.out.below hb6) HXL.out.1).mono ?_; rintro e w7 ⟨rfl, hb7⟩)
      | (go_at_call 72; with_reducible refine (impl_movedMelody_calls m k (IntKind.i64.wrap (hgt ⟨Y, true⟩ - hgt x)) _ _ w7 (HTW.out.below (below_step hb6 hb7)) (Kd.C_below HR0.out (below_step HW0.out (below_step hb6 hb7))) HC0.out HOK.out HKK.out).mono ?_; rintro e w8 ⟨v8, rfl, ho8, hb8⟩; rw [EW.out, HM.out] at ho8; rw [EW.out, HM.out]; obtain ⟨A8, c8, rfl⟩ := Kd.R_slice ho8)
      | fail)
    have HB8 := Aside0.mk (below_step (below_step HW0.out (below_step hb6 hb7)) hb8)
    have HO8 := Aside0.mk (Kd.R_lower ho8 (below_step HW0.out (below_step hb6 hb7)).size)
    clear hg0 hg1 hy0 hy1 hb6 hb7 hb8 ho8 HBKW HBW HTW HW0
    cases M2
    ·
     have NG : Aside0 (¬ mmT m k true) := ⟨fun h => by have h2 := h.2; rw [HTRY.out.1] at h2; cases h2⟩
     go_wp2
     go_roundg (2 - 2)
     case measure => have := HK.out; omega
     case rel => exact ⟨2, rfl, ⟨by decide, by decide, by decide, fun _ => N0.out, fun _ => NG.out⟩, HB8⟩
    ·
     have hR : (R1, R2) = (M1, true) := by rw [← HTRY.out.2]; exact HRR.out.symm.trans (mmove_yes HOK.out HPOS.out ⟨HKK.out, HTRY.out.1⟩ (fun _ => N0.out))
     cases hR
     go_wp2
     go_ret2
     exact ⟨_, rfl, HO8.out, HB8.out⟩

end Go.Proofs.YthhnaplmjpacnaaDoor.Pure
namespace Go.Proofs.YthhnaplmjpacnaaDoor.Pure
set_option linter.unusedVariables false
set_option linter.unusedSimpArgs false
open Go Go.RowKit Go.Proofs.YthhnaplmjpacnaaDoor.PFnModeMoves Go.Proofs.YthhnaplmjpacnaaDoorW.PrintWords Go.Proofs.YthhnaplmjpacnaaDoorW.PrintLast Go.Proofs.YthhnaplmjpacnaaDoorW.PrintMore

def mCells : Array Value := #[.int .i64 4, .int .i64 8, .int .i64 3, .int .i64 12, .int .i64 4, .int .i64 6, .int .i64 0, .int .i64 9, .int .i64 5, .int .i64 10, .int .i64 4, .int .i64 13, .int .i64 5, .int .i64 8, .int .i64 1, .int .i64 10, .int .i64 6, .int .i64 10, .int .i64 5, .int .i64 14, .int .i64 6, .int .i64 8, .int .i64 2, .int .i64 11, .int .i64 7, .int .i64 11, .int .i64 6, .int .i64 15, .int .i64 7, .int .i64 10, .int .i64 3, .int .i64 12]
def MTab (w : World) : Prop := ∃ t fz, w.heap[0]? = some (.cells mCells t fz)
theorem MTab.below {w w' : World} (h : MTab w) (hb : Below w.heap.size w w') : MTab w' := by
 obtain ⟨t, fz, h⟩ := h
 exact ⟨t, fz, (hb.block _ (blk_lt h)).trans h⟩
theorem MTab.cell {w : World} (h : MTab w) (i : Nat) : w.cell? ⟨0, i, none⟩ = mCells[i]? := by
 obtain ⟨t, fz, h⟩ := h
 exact cell_of_row w _ i mCells t fz h
def mRz (mode : Int) : Int × Int × Int × Int := if mOk mode = true then mRow mode else (0, 0, 0, 0)
set_option maxHeartbeats 4000000 in
set_option maxRecDepth 100000 in
theorem impl_modeAt_calls (mode : Int) (w : World) (ht : MTab w) :
 Calls Tryd.prog 61 #[.int .i64 mode] w fun e w' => e = .returned (.tuple #[.agg #[.int .i64 (mRz mode).1, .int .i64 (mRz mode).2.1, .int .i64 (mRz mode).2.2.1, .int .i64 (mRz mode).2.2.2], .bool (mOk mode)]) ∧ Below w.heap.size w w' := by
 have hu := Tryd.underlying75
 by_cases h1 : mode < 1
 ·
  have d1 : decide (mode < 1) = true := decide_eq_true h1
  have e : mOk mode = false := decide_eq_false (by omega)
  have ez : mRz mode = (0, 0, 0, 0) := by unfold mRz; rw [e]; rfl
  rw [e, ez]
  clear h1 e ez
  go_enter Tryd.func61, Tryd.ntmps61
  go_wp2
  (try simp only [Exit.inBlock, Exit.then])
  refine bodyPost_ret (results_ct rfl _ _ w.heap.size 75 #[.int .i64 0, .int .i64 0, .int .i64 0, .int .i64 0] (0, 0) _ rfl (blk_new w _) Tryd.underlying75 rfl (by kernel_rfl)) rfl ?_
  exact ⟨rfl, below_alloc (Below.refl _ _) _⟩
 have d1 : decide (mode < 1) = false := decide_eq_false h1
 by_cases h2 : mode > 8
 ·
  have d2 : decide (8 < mode) = true := decide_eq_true h2
  have e : mOk mode = false := decide_eq_false (by omega)
  have ez : mRz mode = (0, 0, 0, 0) := by unfold mRz; rw [e]; rfl
  rw [e, ez]
  clear h1 h2 e ez
  go_enter Tryd.func61, Tryd.ntmps61
  go_wp2
  (try simp only [Exit.inBlock, Exit.then])
  refine bodyPost_ret (results_ct rfl _ _ w.heap.size 75 #[.int .i64 0, .int .i64 0, .int .i64 0, .int .i64 0] (0, 0) _ rfl (blk_new w _) Tryd.underlying75 rfl (by kernel_rfl)) rfl ?_
  exact ⟨rfl, below_alloc (Below.refl _ _) _⟩
 have e : mOk mode = true := decide_eq_true (by omega)
 have hc := mOk_cases e
 have ez : mRz mode = mRow mode := by unfold mRz; rw [e]; rfl
 rw [e, ez]
 clear h1 h2 d1 e ez
 have hn := fun (i : Nat) (v : Value) (h : w.cell? ⟨0, i, none⟩ = some v) => pw_cell_below (below_alloc (Below.refl w.heap.size w) (.cells #[.int .i64 0, .int .i64 0, .int .i64 0, .int .i64 0] 75 (0, 0))) h
 rcases hc with rfl | rfl | rfl | rfl | rfl | rfl | rfl | rfl
 ·
  have c0 := hn 0 (.int .i64 4) ((ht.cell 0).trans rfl)
  have c1 := hn 1 (.int .i64 8) ((ht.cell 1).trans rfl)
  have c2 := hn 2 (.int .i64 3) ((ht.cell 2).trans rfl)
  have c3 := hn 3 (.int .i64 12) ((ht.cell 3).trans rfl)
  clear hn
  go_enter Tryd.func61, Tryd.ntmps61
  go_wp2
  (try simp only [Exit.inBlock, Exit.then])
  refine bodyPost_ret (results_ct rfl _ _ w.heap.size 75 #[.int .i64 4, .int .i64 8, .int .i64 3, .int .i64 12] (0, 0) _ rfl (blk_new w _) Tryd.underlying75 rfl (by kernel_rfl)) rfl ?_
  exact ⟨rfl, below_alloc (Below.refl _ _) _⟩
 ·
  have c0 := hn 4 (.int .i64 4) ((ht.cell 4).trans rfl)
  have c1 := hn 5 (.int .i64 6) ((ht.cell 5).trans rfl)
  have c2 := hn 6 (.int .i64 0) ((ht.cell 6).trans rfl)
  have c3 := hn 7 (.int .i64 9) ((ht.cell 7).trans rfl)
  clear hn
  go_enter Tryd.func61, Tryd.ntmps61
  go_wp2
  (try simp only [Exit.inBlock, Exit.then])
  refine bodyPost_ret (results_ct rfl _ _ w.heap.size 75 #[.int .i64 4, .int .i64 6, .int .i64 0, .int .i64 9] (0, 0) _ rfl (blk_new w _) Tryd.underlying75 rfl (by kernel_rfl)) rfl ?_
  exact ⟨rfl, below_alloc (Below.refl _ _) _⟩
 ·
  have c0 := hn 8 (.int .i64 5) ((ht.cell 8).trans rfl)
  have c1 := hn 9 (.int .i64 10) ((ht.cell 9).trans rfl)
  have c2 := hn 10 (.int .i64 4) ((ht.cell 10).trans rfl)
  have c3 := hn 11 (.int .i64 13) ((ht.cell 11).trans rfl)
  clear hn
  go_enter Tryd.func61, Tryd.ntmps61
  go_wp2
  (try simp only [Exit.inBlock, Exit.then])
  refine bodyPost_ret (results_ct rfl _ _ w.heap.size 75 #[.int .i64 5, .int .i64 10, .int .i64 4, .int .i64 13] (0, 0) _ rfl (blk_new w _) Tryd.underlying75 rfl (by kernel_rfl)) rfl ?_
  exact ⟨rfl, below_alloc (Below.refl _ _) _⟩
 ·
  have c0 := hn 12 (.int .i64 5) ((ht.cell 12).trans rfl)
  have c1 := hn 13 (.int .i64 8) ((ht.cell 13).trans rfl)
  have c2 := hn 14 (.int .i64 1) ((ht.cell 14).trans rfl)
  have c3 := hn 15 (.int .i64 10) ((ht.cell 15).trans rfl)
  clear hn
  go_enter Tryd.func61, Tryd.ntmps61
  go_wp2
  (try simp only [Exit.inBlock, Exit.then])
  refine bodyPost_ret (results_ct rfl _ _ w.heap.size 75 #[.int .i64 5, .int .i64 8, .int .i64 1, .int .i64 10] (0, 0) _ rfl (blk_new w _) Tryd.underlying75 rfl (by kernel_rfl)) rfl ?_
  exact ⟨rfl, below_alloc (Below.refl _ _) _⟩
 ·
  have c0 := hn 16 (.int .i64 6) ((ht.cell 16).trans rfl)
  have c1 := hn 17 (.int .i64 10) ((ht.cell 17).trans rfl)
  have c2 := hn 18 (.int .i64 5) ((ht.cell 18).trans rfl)
  have c3 := hn 19 (.int .i64 14) ((ht.cell 19).trans rfl)
  clear hn
  go_enter Tryd.func61, Tryd.ntmps61
  go_wp2
  (try simp only [Exit.inBlock, Exit.then])
  refine bodyPost_ret (results_ct rfl _ _ w.heap.size 75 #[.int .i64 6, .int .i64 10, .int .i64 5, .int .i64 14] (0, 0) _ rfl (blk_new w _) Tryd.underlying75 rfl (by kernel_rfl)) rfl ?_
  exact ⟨rfl, below_alloc (Below.refl _ _) _⟩
 ·
  have c0 := hn 20 (.int .i64 6) ((ht.cell 20).trans rfl)
  have c1 := hn 21 (.int .i64 8) ((ht.cell 21).trans rfl)
  have c2 := hn 22 (.int .i64 2) ((ht.cell 22).trans rfl)
  have c3 := hn 23 (.int .i64 11) ((ht.cell 23).trans rfl)
  clear hn
  go_enter Tryd.func61, Tryd.ntmps61
  go_wp2
  (try simp only [Exit.inBlock, Exit.then])
  refine bodyPost_ret (results_ct rfl _ _ w.heap.size 75 #[.int .i64 6, .int .i64 8, .int .i64 2, .int .i64 11] (0, 0) _ rfl (blk_new w _) Tryd.underlying75 rfl (by kernel_rfl)) rfl ?_
  exact ⟨rfl, below_alloc (Below.refl _ _) _⟩
 ·
  have c0 := hn 24 (.int .i64 7) ((ht.cell 24).trans rfl)
  have c1 := hn 25 (.int .i64 11) ((ht.cell 25).trans rfl)
  have c2 := hn 26 (.int .i64 6) ((ht.cell 26).trans rfl)
  have c3 := hn 27 (.int .i64 15) ((ht.cell 27).trans rfl)
  clear hn
  go_enter Tryd.func61, Tryd.ntmps61
  go_wp2
  (try simp only [Exit.inBlock, Exit.then])
  refine bodyPost_ret (results_ct rfl _ _ w.heap.size 75 #[.int .i64 7, .int .i64 11, .int .i64 6, .int .i64 15] (0, 0) _ rfl (blk_new w _) Tryd.underlying75 rfl (by kernel_rfl)) rfl ?_
  exact ⟨rfl, below_alloc (Below.refl _ _) _⟩
 ·
  have c0 := hn 28 (.int .i64 7) ((ht.cell 28).trans rfl)
  have c1 := hn 29 (.int .i64 10) ((ht.cell 29).trans rfl)
  have c2 := hn 30 (.int .i64 3) ((ht.cell 30).trans rfl)
  have c3 := hn 31 (.int .i64 12) ((ht.cell 31).trans rfl)
  clear hn
  go_enter Tryd.func61, Tryd.ntmps61
  go_wp2
  (try simp only [Exit.inBlock, Exit.then])
  refine bodyPost_ret (results_ct rfl _ _ w.heap.size 75 #[.int .i64 7, .int .i64 10, .int .i64 3, .int .i64 12] (0, 0) _ rfl (blk_new w _) Tryd.underlying75 rfl (by kernel_rfl)) rfl ?_
  exact ⟨rfl, below_alloc (Below.refl _ _) _⟩

theorem mlo_step {a v : Int} {x : S29} {xs : List S29} {r : Int} (h : mlo a (x :: xs) = r) (hv : (v = a ∧ a ≤ x.f0) ∨ (v = x.f0 ∧ x.f0 ≤ a)) : mlo v xs = r := by
 have := mn_le a x.f0
 have e : v = mn a x.f0 := by omega
 rw [e]; exact h
theorem mhi_step {a v : Int} {x : S29} {xs : List S29} {r : Int} (h : mhi a (x :: xs) = r) (hv : (v = a ∧ x.f0 ≤ a) ∨ (v = x.f0 ∧ a ≤ x.f0)) : mhi v xs = r := by
 have := mx_le a x.f0
 have e : v = mx a x.f0 := by omega
 rw [e]; exact h
attribute [local go_sem] max2_int min2_int max_two min_two max_three min_three max_four min_four
set_option maxHeartbeats 4000000 in
set_option maxRecDepth 100000 in
theorem impl_MelodyRange_calls (m : List S29) (A0 : Option Addr) (c0 : Nat) (w : World) (hr0 : Kd.C k29 w A0 m.length m) (hc0 : m.length ≤ c0) (hm : m.length ≤ 1000000000000) :
 Calls Tryd.prog 62 #[.slice A0 m.length c0] w fun e w' => e = .returned (.tuple #[.int .i64 (mrange m).1, .int .i64 (mrange m).2.1, .bool (mrange m).2.2]) ∧ Below w.heap.size w w' := by
 obtain ⟨kk, hv⟩ := Ev.rounds (impl_MelodyValid_ev m)
 have HR0 := Aside0.mk hr0
 have HC0 := Aside0.mk hc0
 have HV := Aside0.mk hv
 clear hr0 hc0 hv
 cases hok : melOk m
 ·
  have e : mrange m = (0, 0, false) := by unfold mrange mSome; rw [hok]; rfl
  rw [e]
  rw [hok] at HV
  clear hok e
  go_enter Tryd.func62, Tryd.ntmps62
  go_wp2_with (go_at_call 71; refine (impl_MelodyValid.calls kk _ _ m false _ HR0.out HC0.out HV.out).mono ?_; rintro e w1 ⟨rfl, hb1⟩)
  go_ret3
  exact ⟨rfl, hb1⟩
 rw [hok] at HV
 by_cases h0 : 0 < m.length
 ·
  have e : mrange m = (mlo (rd_T29 m 0).f0 m, mhi (rd_T29 m 0).f0 m, true) := by unfold mrange mSome; rw [hok, decide_eq_true h0]; rfl
  rw [e]
  have hne : ((m.length : Int) == 0) = false := by rw [beq_eq_false_iff_ne]; omega
  have hne' : (m.length == 0) = false := by rw [beq_eq_false_iff_ne]; omega
  obtain ⟨LO, hLO⟩ : ∃ x, x = mlo (rd_T29 m 0).f0 m := ⟨_, rfl⟩
  obtain ⟨HI, hHI⟩ : ∃ x, x = mhi (rd_T29 m 0).f0 m := ⟨_, rfl⟩
  rw [← hLO, ← hHI]
  have HX := Aside0.mk (And.intro hLO hHI)
  obtain ⟨ad, e1, ux0, ux1⟩ := at_T29 HR0.out 0 (by omega) (by omega)
  subst e1
  obtain ⟨X, hX⟩ : ∃ X, X = (rd_T29 m 0).f0 := ⟨_, rfl⟩
  have HXX := Aside0.mk hX
  rw [← hX] at ux0
  have UX := Aside0.mk ux0
  have i1 := eq_true (show 0 < (m.length : Int) by omega)
  have i2 := eq_true h0
  clear hok e hLO hHI h0 ux0 ux1 hX
  go_enter Tryd.func62, Tryd.ntmps62
  have UY : Aside0 (w.cell? ad = some (.int .i64 X)) := ⟨UX.out⟩
  go_upto_region 3 with (go_at_call 71; refine (impl_MelodyValid.calls kk _ _ m true _ HR0.out HC0.out HV.out).mono ?_; rintro e w1 ⟨rfl, hb1⟩; have hx0 := pw_cell_below hb1 UY.out)
  go_region
  go_wp2_with (go_at_call 96; refine (impl_linked_calls m _ _ w1.drew (Kd.C_below HR0.out (below_drew1 hb1)) HC0.out hm).mono ?_; rintro e w2 ⟨v, rfl, hl2, hb2⟩; have HL := Aside0.mk hl2; have HB := Aside0.mk (below_step (below_drew1 hb1) hb2); clear hl2)
  go_loopg [5, 6, 7] m.length (fun kq v5 v6 v7 w' => ∃ (a b : Int) (l : List S29), v5 = .int .i64 a ∧ v6 = .int .i64 b ∧ Aside0 (kq = l.length ∧ mlo a l = LO ∧ mhi b l = HI) ∧ Aside0 (Lk w' w1.drew.heap.size v7 l) ∧ Aside0 (Below w.heap.size w w'))
  case atStart => exact ⟨X, X, m, rfl, rfl, ⟨rfl, by rw [HX.out.1, HXX.out], by rw [HX.out.2, HXX.out]⟩, ⟨HL.out⟩, ⟨HB.out⟩⟩
  case round =>
   obtain ⟨a, b, l, rfl, rfl, HY, HL1, HB1⟩ := hrel
   obtain ⟨hk, hlo, hhi⟩ := HY.out
   cases l with
   | nil =>
    obtain rfl := HL1.out
    simp only [mlo] at hlo
    simp only [mhi] at hhi
    subst hlo; subst hhi
    go_wp2
    go_ret3
    exact ⟨rfl, HB1.out⟩
   | cons x xs =>
    obtain ⟨g, nx, e1, _, hbx, hnx⟩ := HL1.out
    subst e1
    have hx1 : wr.cell? ⟨g, 0, none⟩ = some (.int .i64 x.f0) := (blk_cell hbx 0).trans rfl
    have hx2 : wr.cell? ⟨g, 2, none⟩ = some nx := (blk_cell hbx 2).trans rfl
    obtain ⟨p, rfl⟩ := hnx.ptr
    have HN := Aside0.mk hnx
    have HK := Aside0.mk hk
    have HZ := Aside0.mk (And.intro hlo hhi)
    clear hk hlo hhi hbx hnx
    go_wp2
    all_goals
     go_roundg xs.length
     case measure => rw [HK.out]; simp
     case rel => exact ⟨_, _, xs, rfl, rfl, ⟨rfl, mlo_step HZ.out.1 (by omega), mhi_step HZ.out.2 (by omega)⟩, HN, HB1⟩
 ·
  have e : mrange m = (0, 0, false) := by unfold mrange mSome; rw [hok, decide_eq_false h0]; rfl
  rw [e]
  have e2 : m = [] := List.eq_nil_of_length_eq_zero (by omega)
  subst e2
  clear hok e h0
  go_enter Tryd.func62, Tryd.ntmps62
  go_wp2_with (go_at_call 71; refine (impl_MelodyValid.calls kk _ _ [] true _ HR0.out HC0.out HV.out).mono ?_; rintro e w1 ⟨rfl, hb1⟩)
  go_ret3
  exact ⟨rfl, hb1⟩

end Go.Proofs.YthhnaplmjpacnaaDoor.Pure
namespace Go.Proofs.YthhnaplmjpacnaaDoor.Pure
set_option linter.unusedVariables false
set_option linter.unusedSimpArgs false
open Go Go.RowKit Go.Proofs.YthhnaplmjpacnaaDoor.PFnModeMoves Go.Proofs.YthhnaplmjpacnaaDoorW.PrintWords Go.Proofs.YthhnaplmjpacnaaDoorW.PrintLast Go.Proofs.YthhnaplmjpacnaaDoorW.PrintMore

set_option maxHeartbeats 8000000 in
set_option maxRecDepth 100000 in
theorem impl_ModeIn_calls (m : List S29) (mode : Int) (A0 : Option Addr) (c0 : Nat) (w : World) (ht : MTab w) (hr0 : Kd.C k29 w A0 m.length m) (hc0 : m.length ≤ c0) (hm : m.length ≤ 1000000000000) :
 Calls Tryd.prog 15 #[.slice A0 m.length c0, .int .i64 mode] w fun e w' => e = .returned (.bool (mIn m mode)) ∧ Below w.heap.size w w' := by
 have HT := Aside0.mk ht
 have HR0 := Aside0.mk hr0
 have HC0 := Aside0.mk hc0
 clear ht hr0 hc0
 have hu := Tryd.underlying75
 have hu1 := Tryd.underlying29
 have hout : mIn m mode = (mSome m && (mOk mode && ((rd_T29 m ((m.length : Int) - 1)).f0 == (mRz mode).1 && (!(rd_T29 m ((m.length : Int) - 1)).f1 && (decide ((mRz mode).2.2.1 ≤ mlo (rd_T29 m 0).f0 m) && decide (mhi (rd_T29 m 0).f0 m ≤ (mRz mode).2.2.2)))))) := by
  unfold mIn mRz
  cases mOk mode <;> simp
 have hrange : mrange m = if mSome m = true then (mlo (rd_T29 m 0).f0 m, mhi (rd_T29 m 0).f0 m, true) else (0, 0, false) := rfl
 obtain ⟨a, b, c, d, hz⟩ : ∃ a b c d, mRz mode = (a, b, c, d) := ⟨_, _, _, _, rfl⟩
 rw [hz] at hout
 simp only [] at hout
 obtain ⟨lo, hi, so, hg⟩ : ∃ lo hi so, mrange m = (lo, hi, so) := ⟨_, _, _, rfl⟩
 have HA := Aside0.mk (show ∀ w, MTab w → Calls Tryd.prog 61 #[.int .i64 mode] w fun e w' => e = .returned (.tuple #[.agg #[.int .i64 a, .int .i64 b, .int .i64 c, .int .i64 d], .bool (mOk mode)]) ∧ Below w.heap.size w w' from fun w h => by have := impl_modeAt_calls mode w h; rw [hz] at this; exact this)
 have HM := Aside0.mk (show ∀ w, Kd.C k29 w A0 m.length m → Calls Tryd.prog 62 #[.slice A0 m.length c0] w fun e w' => e = .returned (.tuple #[.int .i64 lo, .int .i64 hi, .bool so]) ∧ Below w.heap.size w w' from fun w h => by have := impl_MelodyRange_calls m A0 c0 w h HC0.out hm; rw [hg] at this; exact this)
 obtain ⟨ok, hok⟩ : ∃ ok, ok = mOk mode := ⟨_, rfl⟩
 rw [← hok] at hout HA
 clear hok hz
 cases hs : mSome m
 ·
  rw [hs] at hout hrange
  rw [hout]
  rw [hg] at hrange
  simp only [Bool.false_eq_true, if_false, Prod.mk.injEq] at hrange
  obtain ⟨rfl, rfl, rfl⟩ := hrange
  clear hout hs hg
  cases ok
  ·
   go_enter Tryd.func15, Tryd.ntmps15
   go_wp2_with (first
    | (go_at_call 61; refine (HA.out _ HT.out).mono ?_; rintro e w1 ⟨rfl, hb1⟩)
    | (go_at_call 62; refine (HM.out _ (Kd.C_below HR0.out (below_alloc hb1 _))).mono ?_; rintro e w2 ⟨rfl, hb2⟩))
   go_ret
   exact ⟨rfl, below_step (below_alloc hb1 _) hb2⟩
  ·
   go_enter Tryd.func15, Tryd.ntmps15
   go_wp2_with (first
    | (go_at_call 61; refine (HA.out _ HT.out).mono ?_; rintro e w1 ⟨rfl, hb1⟩)
    | (go_at_call 62; refine (HM.out _ (Kd.C_below HR0.out (below_alloc hb1 _))).mono ?_; rintro e w2 ⟨rfl, hb2⟩))
   go_ret
   exact ⟨rfl, below_step (below_alloc hb1 _) hb2⟩
 rw [hs] at hout hrange
 rw [hg] at hrange
 simp only [if_true, Prod.mk.injEq] at hrange
 obtain ⟨h1, h2, rfl⟩ := hrange
 rw [← h1, ← h2] at hout
 have h0 : 0 < m.length := by unfold mSome at hs; simp at hs; exact hs.2
 clear hs hg h1 h2
 cases ok
 ·
  rw [hout]
  clear hout
  go_enter Tryd.func15, Tryd.ntmps15
  go_wp2_with (first
   | (go_at_call 61; refine (HA.out _ HT.out).mono ?_; rintro e w1 ⟨rfl, hb1⟩)
   | (go_at_call 62; refine (HM.out _ (Kd.C_below HR0.out (below_alloc hb1 _))).mono ?_; rintro e w2 ⟨rfl, hb2⟩))
  go_ret
  exact ⟨rfl, below_step (below_alloc hb1 _) hb2⟩
 obtain ⟨ad, e1, ux0, ux1⟩ := at_T29 HR0.out ((m.length : Int) - 1) (by omega) (by omega)
 subst e1
 obtain ⟨X, hX⟩ : ∃ X, X = rd_T29 m ((m.length : Int) - 1) := ⟨_, rfl⟩
 rw [← hX] at ux0 ux1 hout
 have en : ((m.length : Int) - 1).toNat = m.length - 1 := by omega
 rw [en] at ux0 ux1
 have U0 := Aside0.mk ux0
 have U1 := Aside0.mk ux1
 simp only [Bool.true_and] at hout
 have i1 := eq_true (show (m.length : Int) - 1 < (m.length : Int) by omega)
 have i2 := eq_true (show 0 ≤ (m.length : Int) - 1 by omega)
 clear hX ux0 ux1
 cases h1 : (X.f0 == a)
 ·
  rw [hout, h1]
  clear hout
  simp only [Bool.false_and]
  go_enter Tryd.func15, Tryd.ntmps15
  go_wp2_with (first
   | (go_at_call 61; refine (HA.out _ HT.out).mono ?_; rintro e w1 ⟨rfl, hb1⟩)
   | (go_at_call 62; refine (HM.out _ (Kd.C_below HR0.out (below_alloc hb1 _))).mono ?_; rintro e w2 ⟨rfl, hb2⟩; have hq0 : (w2.alloc (Obj.cells #[.int .i64 X.f0, .bool X.f1] 29)).cell? ⟨w1.heap.size, 0, none⟩ = some (.int .i64 a) := pw_cell_below (below_alloc (Below.refl _ _) _) (pw_cell_below hb2 ((blk_cell (blk_new w1 _) 0).trans rfl)); have hq2 : (w2.alloc (Obj.cells #[.int .i64 X.f0, .bool X.f1] 29)).cell? ⟨w1.heap.size, 2, none⟩ = some (.int .i64 c) := pw_cell_below (below_alloc (Below.refl _ _) _) (pw_cell_below hb2 ((blk_cell (blk_new w1 _) 2).trans rfl)); have hq3 : (w2.alloc (Obj.cells #[.int .i64 X.f0, .bool X.f1] 29)).cell? ⟨w1.heap.size, 3, none⟩ = some (.int .i64 d) := pw_cell_below (below_alloc (Below.refl _ _) _) (pw_cell_below hb2 ((blk_cell (blk_new w1 _) 3).trans rfl)); have HB := Aside0.mk (below_step (below_alloc hb1 _) hb2); have hx0 := pw_cell_below (below_step (below_alloc hb1 _) hb2) U0.out; have hx1 := pw_cell_below (below_step (below_alloc hb1 _) hb2) U1.out))
  go_ret
  exact ⟨rfl, below_alloc HB.out _⟩
 cases h2 : X.f1
 ·
  rw [h2] at U1
  by_cases h3 : c ≤ lo
  ·
   have d3 : decide (c ≤ lo) = true := decide_eq_true h3
   by_cases h4 : hi ≤ d
   ·
    have d4 : decide (hi ≤ d) = true := decide_eq_true h4
    have e : mIn m mode = true := by rw [hout, h1, h2, d3, d4]; rfl
    rw [e]
    clear hout h3 h4 e
    go_enter Tryd.func15, Tryd.ntmps15
    go_wp2_with (first
     | (go_at_call 61; refine (HA.out _ HT.out).mono ?_; rintro e w1 ⟨rfl, hb1⟩)
     | (go_at_call 62; refine (HM.out _ (Kd.C_below HR0.out (below_alloc hb1 _))).mono ?_; rintro e w2 ⟨rfl, hb2⟩; have hq0 : (w2.alloc (Obj.cells #[.int .i64 X.f0, .bool false] 29)).cell? ⟨w1.heap.size, 0, none⟩ = some (.int .i64 a) := pw_cell_below (below_alloc (Below.refl _ _) _) (pw_cell_below hb2 ((blk_cell (blk_new w1 _) 0).trans rfl)); have hq2 : (w2.alloc (Obj.cells #[.int .i64 X.f0, .bool false] 29)).cell? ⟨w1.heap.size, 2, none⟩ = some (.int .i64 c) := pw_cell_below (below_alloc (Below.refl _ _) _) (pw_cell_below hb2 ((blk_cell (blk_new w1 _) 2).trans rfl)); have hq3 : (w2.alloc (Obj.cells #[.int .i64 X.f0, .bool false] 29)).cell? ⟨w1.heap.size, 3, none⟩ = some (.int .i64 d) := pw_cell_below (below_alloc (Below.refl _ _) _) (pw_cell_below hb2 ((blk_cell (blk_new w1 _) 3).trans rfl)); have HB := Aside0.mk (below_step (below_alloc hb1 _) hb2); have hx0 := pw_cell_below (below_step (below_alloc hb1 _) hb2) U0.out; have hx1 := pw_cell_below (below_step (below_alloc hb1 _) hb2) U1.out))
    go_ret
    exact ⟨rfl, below_alloc HB.out _⟩
   ·
    have d4 : decide (hi ≤ d) = false := decide_eq_false h4
    have e : mIn m mode = false := by rw [hout, h1, h2, d3, d4]; rfl
    rw [e]
    clear hout h3 h4 e
    go_enter Tryd.func15, Tryd.ntmps15
    go_wp2_with (first
     | (go_at_call 61; refine (HA.out _ HT.out).mono ?_; rintro e w1 ⟨rfl, hb1⟩)
     | (go_at_call 62; refine (HM.out _ (Kd.C_below HR0.out (below_alloc hb1 _))).mono ?_; rintro e w2 ⟨rfl, hb2⟩; have hq0 : (w2.alloc (Obj.cells #[.int .i64 X.f0, .bool false] 29)).cell? ⟨w1.heap.size, 0, none⟩ = some (.int .i64 a) := pw_cell_below (below_alloc (Below.refl _ _) _) (pw_cell_below hb2 ((blk_cell (blk_new w1 _) 0).trans rfl)); have hq2 : (w2.alloc (Obj.cells #[.int .i64 X.f0, .bool false] 29)).cell? ⟨w1.heap.size, 2, none⟩ = some (.int .i64 c) := pw_cell_below (below_alloc (Below.refl _ _) _) (pw_cell_below hb2 ((blk_cell (blk_new w1 _) 2).trans rfl)); have hq3 : (w2.alloc (Obj.cells #[.int .i64 X.f0, .bool false] 29)).cell? ⟨w1.heap.size, 3, none⟩ = some (.int .i64 d) := pw_cell_below (below_alloc (Below.refl _ _) _) (pw_cell_below hb2 ((blk_cell (blk_new w1 _) 3).trans rfl)); have HB := Aside0.mk (below_step (below_alloc hb1 _) hb2); have hx0 := pw_cell_below (below_step (below_alloc hb1 _) hb2) U0.out; have hx1 := pw_cell_below (below_step (below_alloc hb1 _) hb2) U1.out))
    go_ret
    exact ⟨rfl, below_alloc HB.out _⟩
  ·
   have d3 : decide (c ≤ lo) = false := decide_eq_false h3
   have e : mIn m mode = false := by rw [hout, h1, h2, d3]; rfl
   rw [e]
   clear hout h3 e
   go_enter Tryd.func15, Tryd.ntmps15
   go_wp2_with (first
    | (go_at_call 61; refine (HA.out _ HT.out).mono ?_; rintro e w1 ⟨rfl, hb1⟩)
    | (go_at_call 62; refine (HM.out _ (Kd.C_below HR0.out (below_alloc hb1 _))).mono ?_; rintro e w2 ⟨rfl, hb2⟩; have hq0 : (w2.alloc (Obj.cells #[.int .i64 X.f0, .bool false] 29)).cell? ⟨w1.heap.size, 0, none⟩ = some (.int .i64 a) := pw_cell_below (below_alloc (Below.refl _ _) _) (pw_cell_below hb2 ((blk_cell (blk_new w1 _) 0).trans rfl)); have hq2 : (w2.alloc (Obj.cells #[.int .i64 X.f0, .bool false] 29)).cell? ⟨w1.heap.size, 2, none⟩ = some (.int .i64 c) := pw_cell_below (below_alloc (Below.refl _ _) _) (pw_cell_below hb2 ((blk_cell (blk_new w1 _) 2).trans rfl)); have hq3 : (w2.alloc (Obj.cells #[.int .i64 X.f0, .bool false] 29)).cell? ⟨w1.heap.size, 3, none⟩ = some (.int .i64 d) := pw_cell_below (below_alloc (Below.refl _ _) _) (pw_cell_below hb2 ((blk_cell (blk_new w1 _) 3).trans rfl)); have HB := Aside0.mk (below_step (below_alloc hb1 _) hb2); have hx0 := pw_cell_below (below_step (below_alloc hb1 _) hb2) U0.out; have hx1 := pw_cell_below (below_step (below_alloc hb1 _) hb2) U1.out))
   go_ret
   exact ⟨rfl, below_alloc HB.out _⟩
 ·
  rw [h2] at U1
  have e : mIn m mode = false := by rw [hout, h1, h2]; rfl
  rw [e]
  clear hout e
  go_enter Tryd.func15, Tryd.ntmps15
  go_wp2_with (first
   | (go_at_call 61; refine (HA.out _ HT.out).mono ?_; rintro e w1 ⟨rfl, hb1⟩)
   | (go_at_call 62; refine (HM.out _ (Kd.C_below HR0.out (below_alloc hb1 _))).mono ?_; rintro e w2 ⟨rfl, hb2⟩; have hq0 : (w2.alloc (Obj.cells #[.int .i64 X.f0, .bool true] 29)).cell? ⟨w1.heap.size, 0, none⟩ = some (.int .i64 a) := pw_cell_below (below_alloc (Below.refl _ _) _) (pw_cell_below hb2 ((blk_cell (blk_new w1 _) 0).trans rfl)); have hq2 : (w2.alloc (Obj.cells #[.int .i64 X.f0, .bool true] 29)).cell? ⟨w1.heap.size, 2, none⟩ = some (.int .i64 c) := pw_cell_below (below_alloc (Below.refl _ _) _) (pw_cell_below hb2 ((blk_cell (blk_new w1 _) 2).trans rfl)); have hq3 : (w2.alloc (Obj.cells #[.int .i64 X.f0, .bool true] 29)).cell? ⟨w1.heap.size, 3, none⟩ = some (.int .i64 d) := pw_cell_below (below_alloc (Below.refl _ _) _) (pw_cell_below hb2 ((blk_cell (blk_new w1 _) 3).trans rfl)); have HB := Aside0.mk (below_step (below_alloc hb1 _) hb2); have hx0 := pw_cell_below (below_step (below_alloc hb1 _) hb2) U0.out; have hx1 := pw_cell_below (below_step (below_alloc hb1 _) hb2) U1.out))
  go_ret
  exact ⟨rfl, below_alloc HB.out _⟩

end Go.Proofs.YthhnaplmjpacnaaDoor.Pure
namespace Go.Proofs.YthhnaplmjpacnaaDoor.Pure
set_option linter.unusedVariables false
set_option linter.unusedSimpArgs false
open Go Go.RowKit Go.Proofs.YthhnaplmjpacnaaDoor.PFnModeMoves Go.Proofs.YthhnaplmjpacnaaDoorW.PrintWords Go.Proofs.YthhnaplmjpacnaaDoorW.PrintLast Go.Proofs.YthhnaplmjpacnaaDoorW.PrintMore

set_option maxHeartbeats 4000000 in
set_option maxRecDepth 100000 in
theorem impl_ModeAll_calls (m : List S29) (A0 : Option Addr) (c0 : Nat) (w : World) (ht : MTab w) (hr0 : Kd.C k29 w A0 m.length m) (hc0 : m.length ≤ c0) (hm : m.length ≤ 1000000000000) :
 Calls Tryd.prog 28 #[.slice A0 m.length c0] w fun e w' => ∃ v, e = .returned v ∧ Kd.R (Kd.int .i64) 3 w' w.heap.size (fun _ => True) v (mUp m 8) ∧ Below w.heap.size w w' := by
 have HT := Aside0.mk ht
 have HR0 := Aside0.mk hr0
 have HC0 := Aside0.mk hc0
 clear ht hr0 hc0
 have hinf : (Tryd.prog.info? 3).map (fun i => (i.zero, i.size, i.bytes)) = some (some (.int .i64 0), 1, 8) := by kernel_rfl
 have HI := Aside0.mk hinf
 clear hinf
 go_enter Tryd.func28, Tryd.ntmps28
 go_wp2_with ((with_reducible refine gate_dst (N := 5) rfl ?_); refine Kd.R_lit (Kd.int .i64) _ 3 ?hg (N := 5) ?hd (xs := ([] : List Int)) (inner := []) (ok := fun _ => True) (okp := fun _ => True) ?hr (Reps.none _ _) (fun _ hk => hk) trivial (Below.refl _ _) (Nat.le_refl _) (by simp) ?_; (case hd => rfl); (case hg => rfl); (case hr => first | (go_simp; done) | (go_simp; rfl)); intro v2 w2 ho2 hb2 _ _; have HO := Aside0.mk ho2; have HB := Aside0.mk hb2; clear ho2 hb2)
 go_loopg [3, 4] 8 (fun kq v3 v4 w' => ∃ (i : Int), v4 = .int .i64 i ∧ Aside0 (kq = (9 - i).toNat ∧ 1 ≤ i ∧ i ≤ 9) ∧ Aside0 (Kd.R (Kd.int .i64) 3 w' w.heap.size (fun _ => True) v3 (mUp m (i - 1).toNat)) ∧ Aside0 (Below w.heap.size w w'))
 case atStart => exact ⟨1, rfl, ⟨by decide⟩, ⟨HO.out⟩, ⟨HB.out⟩⟩
 case round =>
  clear HO HB
  obtain ⟨i, rfl, HX, HO, HB⟩ := hrel
  obtain ⟨hk, h1, h9⟩ := HX.out
  by_cases h : i ≤ 8
  ·
   have d1 : decide (i ≤ 8) = true := decide_eq_true h
   have NX : Aside0 ((9 - (i + 1)).toNat < gk ∧ 1 ≤ i + 1 ∧ i + 1 ≤ 9) := ⟨by omega, by omega, by omega⟩
   have hu : mUp m (i + 1 - 1).toNat = if mIn m i = true then mUp m (i - 1).toNat ++ [i] else mUp m (i - 1).toNat := by
    have e1 : (i + 1 - 1).toNat = (i - 1).toNat + 1 := by omega
    have e2 : (((i - 1).toNat : Nat) : Int) + 1 = i := by omega
    rw [e1]
    simp only [mUp]
    rw [e2]
   have hl := mUp_len m (i - 1).toNat
   obtain ⟨J, hJ⟩ : ∃ J, J = mUp m (i - 1).toNat := ⟨_, rfl⟩
   rw [← hJ] at hu hl HO
   have hl2 : J.length ≤ 8 := by omega
   clear hJ hl hk
   cases hin : mIn m i
   ·
    rw [hin] at hu
    have HU := Aside0.mk hu
    clear hu
    go_wp2_with (go_at_call 15; refine (impl_ModeIn_calls m i _ _ wr (HT.out.below HB.out) (Kd.C_below HR0.out HB.out) HC0.out hm).mono ?_; rw [hin]; rintro e w3 ⟨rfl, hb3⟩)
    go_roundg ((9 - (i + 1)).toNat)
    case measure => exact NX.out.1
    case rel => exact ⟨i + 1, rfl, ⟨rfl, NX.out.2⟩, ⟨by rw [HU.out]; exact Kd.R_below HO.out hb3⟩, ⟨below_step HB.out hb3⟩⟩
   ·
    rw [hin] at hu
    have HU := Aside0.mk hu
    clear hu
    go_wp2_with (first
     | (go_at_call 15; refine (impl_ModeIn_calls m i _ _ wr (HT.out.below HB.out) (Kd.C_below HR0.out HB.out) HC0.out hm).mono ?_; rw [hin]; rintro e w3 ⟨rfl, hb3⟩; have HO3 := Aside0.mk (Kd.R_below HO.out hb3); have HB3 := Aside0.mk (below_step HB.out hb3))
     | ((with_reducible refine gate_builtin (b := .append) (xs := #[.tmp 13, .tmp 15]) rfl ?_); at_builtin; refine Kd.R_append (Kd.int .i64) (w0 := w) w.heap.size rfl (.tmp 13) (.tmp 15) 42 3 (.int .i64 0) 8 rfl Tryd.underlying42 HI.out rfl (by decide) (by omega) _ J i [.int .i64 i] (fun _ => True) (fun _ => False) rfl rfl ?aP (fun _ hk => hk.elim) (fun _ _ => trivial) HO3.out HB3.out HB3.out.size (by omega) ?_; (case aP => exact rfl); intro v4 w4 ho4 hb4 hg4 hat4))
    go_roundg ((9 - (i + 1)).toNat)
    case measure => exact NX.out.1
    case rel => exact ⟨i + 1, rfl, ⟨rfl, NX.out.2⟩, ⟨by rw [HU.out]; exact ho4⟩, ⟨hb4⟩⟩
  ·
   have d1 : decide (i ≤ 8) = false := decide_eq_false h
   obtain rfl : i = 9 := by omega
   go_wp2
   go_ret
   exact ⟨_, rfl, HO.out, HB.out⟩

end Go.Proofs.YthhnaplmjpacnaaDoor.Pure
namespace Go.Proofs.YthhnaplmjpacnaaDoor.Pure
set_option linter.unusedVariables false
set_option linter.unusedSimpArgs false
open Go Go.RowKit Go.Proofs.YthhnaplmjpacnaaDoor.PFnModeMoves Go.Proofs.YthhnaplmjpacnaaDoorW.PrintWords Go.Proofs.YthhnaplmjpacnaaDoorW.PrintLast Go.Proofs.YthhnaplmjpacnaaDoorW.PrintMore

def DTab (w : World) : Prop := HTab w ∧ MTab w
theorem DTab.below {w w' : World} (h : DTab w) (hb : Below w.heap.size w w') : DTab w' := ⟨h.1.below hb, h.2.below hb⟩
def mmGood (m : List S29) (k : Int) : Bool := (mmove m k).2 && decide (0 < (mUp (mmove m k).1 8).length)
def mmRest (m : List S29) : Nat → List Int
 | 0 => []
 | n + 1 => if mmGood m (20 - (n : Int)) = true then (20 - (n : Int)) :: mmRest m n else mmRest m n
theorem mmRest_len (m : List S29) : ∀ n, (mmRest m n).length ≤ n
 | 0 => Nat.le_refl _
 | n + 1 => by
  have := mmRest_len m n
  simp only [mmRest]
  split
  ·
   rw [List.length_cons]; omega
  ·
   omega
theorem mmRest_yes {m : List S29} {k : Int} (hk : k ≤ 20) (h : mmGood m k = true) : mmRest m (21 - k).toNat = k :: mmRest m (21 - (k + 1)).toNat := by
 obtain ⟨n, hn⟩ : ∃ n : Nat, (20 - k) = (n : Int) := ⟨(20 - k).toNat, by omega⟩
 rw [show (21 - k).toNat = n + 1 by omega, show (21 - (k + 1)).toNat = n by omega]
 simp only [mmRest]
 rw [show (20 - (n : Int)) = k by omega, if_pos h]
theorem mmRest_no {m : List S29} {k : Int} (hk : k ≤ 20) (h : mmGood m k = false) : mmRest m (21 - k).toNat = mmRest m (21 - (k + 1)).toNat := by
 obtain ⟨n, hn⟩ : ∃ n : Nat, (20 - k) = (n : Int) := ⟨(20 - k).toNat, by omega⟩
 rw [show (21 - k).toNat = n + 1 by omega, show (21 - (k + 1)).toNat = n by omega]
 simp only [mmRest]
 rw [show (20 - (n : Int)) = k by omega, if_neg (by rw [h]; decide)]
set_option maxHeartbeats 8000000 in
set_option maxRecDepth 100000 in
theorem impl_ModeMoves_calls (m : List S29) (A0 : Option Addr) (c0 : Nat) (w : World) (ht : DTab w) (hr0 : Kd.C k29 w A0 m.length m) (hc0 : m.length ≤ c0) (hm : m.length ≤ 1000000000000) :
 Calls Tryd.prog 40 #[.slice A0 m.length c0] w fun e w' => ∃ v, e = .returned v ∧ Kd.R (Kd.int .i64) 3 w' w.heap.size (fun _ => True) v (mmRest m 41) ∧ Below w.heap.size w w' := by
 have HI := Aside0.mk info3
 have HT := Aside0.mk ht
 have HR0 := Aside0.mk hr0
 have HC0 := Aside0.mk hc0
 clear hr0 hc0 ht
 obtain ⟨R, hR⟩ : ∃ R, R = mmRest m 41 := ⟨_, rfl⟩
 rw [← hR]
 have HRR := Aside0.mk hR.symm
 clear hR
 go_enter Tryd.func40, Tryd.ntmps40
 go_wp2_with ((with_reducible refine gate_dst (N := 7) rfl ?_); refine Kd.R_lit (Kd.int .i64) _ 3 ?hg (N := 7) ?hd (xs := ([] : List Int)) (inner := []) (ok := fun _ => True) (okp := fun _ => True) ?hr (Reps.none _ _) (fun _ hk => hk) trivial (Below.refl _ _) (Nat.le_refl _) (by simp) ?_; (case hd => rfl); (case hg => rfl); (case hr => first | (go_simp; done) | (go_simp; rfl)); intro v1 w1 ho1 hb1 _ _; have HO1 := Aside0.mk ho1; have HB1 := Aside0.mk hb1; clear ho1 hb1)
 go_loopg [3, 4] 41 (fun kq v3 v4 w' => ∃ (X : List Int) (k : Int), v4 = .int .i64 k ∧ Aside0 (kq = (21 - k).toNat ∧ -20 ≤ k ∧ k ≤ 21 ∧ X ++ mmRest m (21 - k).toNat = R ∧ X.length ≤ (k + 20).toNat) ∧ Aside0 (Kd.R (Kd.int .i64) 3 w' w.heap.size (fun _ => True) v3 X) ∧ Aside0 (Below w.heap.size w w'))
 case atStart => exact ⟨[], -20, rfl, ⟨rfl, by decide, by decide, HRR.out, Nat.le_refl _⟩, HO1, HB1⟩
 case round =>
  clear HO1 HB1
  obtain ⟨X, k, rfl, HX, HO, HB⟩ := hrel
  obtain ⟨hk, k0, k1, hXR, hXl⟩ := HX.out
  by_cases h2 : k ≤ 20
  ·
   have d1 : decide (k ≤ 20) = true := decide_eq_true h2
   have HW := Aside0.mk (w64 (x := k + 1) (by omega) (by omega))
   have NX : Aside0 ((21 - (k + 1)).toNat < gk ∧ -20 ≤ k + 1 ∧ k + 1 ≤ 21 ∧ X.length ≤ (k + 20).toNat ∧ X.length ≤ (k + 1 + 20).toNat) := ⟨by omega, by omega, by omega, by omega, by omega⟩
   have HK2 := Aside0.mk h2
   have bx : X.length ≤ 41 := by omega
   obtain ⟨⟨M, ok⟩, hM⟩ : ∃ R, R = mmove m k := ⟨_, rfl⟩
   have HM := Aside0.mk hM.symm
   have hML : M.length ≤ 24 := by have := mmove_len m k; rw [← hM] at this; exact this
   clear hM hk k0 k1 hXl hXR
   cases ok
   ·
    have hg : mmGood m k = false := by unfold mmGood; rw [HM.out]; rfl
    have HG := Aside0.mk (mmRest_no h2 hg)
    clear h2 hg
    go_wp2_with (go_at_call 21; refine (impl_MelodyMove_calls m k _ _ wr (HT.out.1.below HB.out) (Kd.C_below HR0.out HB.out) HC0.out hm).mono ?_; rintro e w2 ⟨v2, rfl, ho2, hb2⟩; rw [HM.out] at ho2; rw [HM.out]; obtain ⟨A2, c2, rfl⟩ := Kd.R_slice ho2; have HO2 := Aside0.mk (Kd.R_below HO.out hb2); have HB2 := Aside0.mk (below_step HB.out hb2); clear ho2 hb2)
    go_roundg (21 - (k + 1)).toNat
    case measure => exact NX.out.1
    case rel => exact ⟨X, k + 1, by rw [HW.out], ⟨rfl, NX.out.2.1, NX.out.2.2.1, by rw [← HG.out]; exact HX.out.2.2.2.1, NX.out.2.2.2.2⟩, HO2, HB2⟩
   ·
    by_cases h0 : 0 < (mUp M 8).length
    ·
     have d2 : decide (0 < ((mUp M 8).length : Int)) = true := decide_eq_true (by omega)
     have d3 : decide (0 < (mUp M 8).length) = true := decide_eq_true h0
     have hg : mmGood m k = true := by unfold mmGood; rw [HM.out, d3]; rfl
     have HG := Aside0.mk (mmRest_yes h2 hg)
     clear h2 hg h0
     go_wp2_with (first
      | (go_at_call 21; refine (impl_MelodyMove_calls m k _ _ wr (HT.out.1.below HB.out) (Kd.C_below HR0.out HB.out) HC0.out hm).mono ?_; rintro e w2 ⟨v2, rfl, ho2, hb2⟩; rw [HM.out] at ho2; rw [HM.out]; obtain ⟨A2, c2, rfl⟩ := Kd.R_slice ho2; have HO2 := Aside0.mk (Kd.R_below HO.out hb2); have HB2 := Aside0.mk (below_step HB.out hb2); have HS2 := Aside0.mk (Kd.R_reads' ho2).2; clear ho2 hb2)
      | (go_at_call 28; refine (impl_ModeAll_calls M _ _ w2 (HT.out.2.below HB2.out) HS2.out.2 HS2.out.1 (by omega)).mono ?_; rintro e w3 ⟨v3, rfl, ho3, hb3⟩; obtain ⟨A3, c3, rfl⟩ := Kd.R_slice ho3; have HO3 := Aside0.mk (Kd.R_below HO2.out hb3); have HB3 := Aside0.mk (below_step HB2.out hb3); clear ho3 hb3)
      | ((with_reducible refine gate_builtin (b := .append) (xs := #[.tmp 25, .tmp 27]) rfl ?_); at_builtin; go_loud (refine Kd.R_append (Kd.int .i64) (w0 := w) w.heap.size rfl (.tmp 25) (.tmp 27) 42 3 (.int .i64 0) 8 rfl Tryd.underlying42 HI.out rfl (by decide) (by omega) _ X k [.int .i64 k] (fun _ => True) (fun _ => False) rfl rfl ?aP (fun _ hk => hk.elim) (fun _ _ => trivial) HO3.out HB3.out HB3.out.size (by omega) ?_); (case aP => exact rfl); intro v9 w9 ho9 hb9 hg9 hat9; have HO9 := Aside0.mk ho9; have HB9 := Aside0.mk hb9; clear ho9 hb9 hg9 hat9))
     go_roundg (21 - (k + 1)).toNat
     case measure => exact NX.out.1
     case rel => exact ⟨X ++ [k], k + 1, by rw [HW.out], ⟨rfl, NX.out.2.1, NX.out.2.2.1, by rw [List.append_assoc, List.singleton_append, ← HG.out]; exact HX.out.2.2.2.1, by have h1 := NX.out.2.2.2.1; have h2 := HX.out.2.1; rw [List.length_append, List.length_singleton]; omega⟩, HO9, HB9⟩
    ·
     have d2 : decide (0 < ((mUp M 8).length : Int)) = false := decide_eq_false (by omega)
     have d3 : decide (0 < (mUp M 8).length) = false := decide_eq_false h0
     have hg : mmGood m k = false := by unfold mmGood; rw [HM.out, d3]; rfl
     have HG := Aside0.mk (mmRest_no h2 hg)
     clear h2 hg h0
     go_wp2_with (first
      | (go_at_call 21; refine (impl_MelodyMove_calls m k _ _ wr (HT.out.1.below HB.out) (Kd.C_below HR0.out HB.out) HC0.out hm).mono ?_; rintro e w2 ⟨v2, rfl, ho2, hb2⟩; rw [HM.out] at ho2; rw [HM.out]; obtain ⟨A2, c2, rfl⟩ := Kd.R_slice ho2; have HO2 := Aside0.mk (Kd.R_below HO.out hb2); have HB2 := Aside0.mk (below_step HB.out hb2); have HS2 := Aside0.mk (Kd.R_reads' ho2).2; clear ho2 hb2)
      | (go_at_call 28; refine (impl_ModeAll_calls M _ _ w2 (HT.out.2.below HB2.out) HS2.out.2 HS2.out.1 (by omega)).mono ?_; rintro e w3 ⟨v3, rfl, ho3, hb3⟩; obtain ⟨A3, c3, rfl⟩ := Kd.R_slice ho3; have HO3 := Aside0.mk (Kd.R_below HO2.out hb3); have HB3 := Aside0.mk (below_step HB2.out hb3); clear ho3 hb3))
     go_roundg (21 - (k + 1)).toNat
     case measure => exact NX.out.1
     case rel => exact ⟨X, k + 1, by rw [HW.out], ⟨rfl, NX.out.2.1, NX.out.2.2.1, by rw [← HG.out]; exact HX.out.2.2.2.1, NX.out.2.2.2.2⟩, HO3, HB3⟩
  ·
   have d1 : decide (k ≤ 20) = false := decide_eq_false h2
   obtain rfl : k = 21 := by omega
   have hX : X = R := by simpa [mmRest] using hXR
   subst hX
   obtain ⟨A5, c5, e5⟩ := Kd.R_slice HO.out
   subst e5
   go_wp2
   go_ret
   exact ⟨_, rfl, HO.out, HB.out⟩

end Go.Proofs.YthhnaplmjpacnaaDoor.Pure
namespace Go.Proofs.YthhnaplmjpacnaaDoor.PFnModeMoves
set_option linter.unusedVariables false
set_option linter.unusedSimpArgs false
open Go Go.RowKit Go.Proofs.YthhnaplmjpacnaaDoor.Pure Go.Proofs.YthhnaplmjpacnaaDoorW.PrintWords Go.Proofs.YthhnaplmjpacnaaDoorW.PrintLast Go.Proofs.YthhnaplmjpacnaaDoorW.PrintMore
def impl_MelodyMove.f (l0 : List S29) (a1 : Int) : Option (List S29 × Bool) := if l0.length ≤ 1000000000000 then some (mmove l0 a1) else none
theorem impl_MelodyMove.calls (A0 : Option Addr) (c0 : Nat) (l0 : List S29) (a1 : Int) (r1 : List S29) (r2 : Bool) (w : World) (ht : DTab w) (hr0 : Kd.C k29 w A0 l0.length l0) (hc0 : l0.length ≤ c0) (h : impl_MelodyMove.f l0 a1 = some (r1, r2)) :
 Calls Tryd.prog 21 #[.slice A0 l0.length c0, .int .i64 a1] w fun e w' => ∃ v0_ : Value, e = .returned (.tuple #[v0_, .bool r2]) ∧ Kd.R k29 29 w' w.heap.size (fun _ => True) v0_ r1 ∧ Below w.heap.size w w' := by
 unfold impl_MelodyMove.f at h; split at h
 ·
  rename_i hh
  injection h with h
  have := impl_MelodyMove_calls l0 a1 A0 c0 w ht.1 hr0 hc0 hh; rw [h] at this; exact this
 ·
  cases h

end Go.Proofs.YthhnaplmjpacnaaDoor.PFnModeMoves
namespace Go.Proofs.YthhnaplmjpacnaaDoor.PFnModeMoves
set_option linter.unusedVariables false
set_option linter.unusedSimpArgs false
open Go Go.RowKit Go.Proofs.YthhnaplmjpacnaaDoor.Pure Go.Proofs.YthhnaplmjpacnaaDoorW.PrintWords Go.Proofs.YthhnaplmjpacnaaDoorW.PrintLast Go.Proofs.YthhnaplmjpacnaaDoorW.PrintMore
def impl_ModeAll.f (l0 : List S29) : Option (List Int) := if l0.length ≤ 1000000000000 then some (mUp l0 8) else none
theorem impl_ModeAll.calls (A0 : Option Addr) (c0 : Nat) (l0 : List S29) (r : List Int) (w : World) (ht : DTab w) (hr0 : Kd.C k29 w A0 l0.length l0) (hc0 : l0.length ≤ c0) (h : impl_ModeAll.f l0 = some r) :
 Calls Tryd.prog 28 #[.slice A0 l0.length c0] w fun e w' => ∃ v0_ : Value, e = .returned (v0_) ∧ Kd.R (Kd.int .i64) 3 w' w.heap.size (fun _ => True) v0_ r ∧ Below w.heap.size w w' := by
 unfold impl_ModeAll.f at h; split at h
 ·
  rename_i hh
  injection h with h
  have := impl_ModeAll_calls l0 A0 c0 w ht.2 hr0 hc0 hh; rw [h] at this; exact this
 ·
  cases h

end Go.Proofs.YthhnaplmjpacnaaDoor.PFnModeMoves
namespace Go.Proofs.YthhnaplmjpacnaaDoor.PFnModeMoves
open Go.RowKit Go.Proofs.YthhnaplmjpacnaaDoorW.PrintWords Go.Proofs.YthhnaplmjpacnaaDoorW.PrintLast Go.Proofs.YthhnaplmjpacnaaDoorW.PrintMore
attribute [local go_sem] max2_int min2_int max_two min_two max_three min_three max_four min_four   -- for this text's walks alone
set_option linter.unusedVariables false
set_option linter.unusedSimpArgs false

/-- A state of type 98 at block g of W; what its slices lead to came in by w0. -/
def IsS98 (w0 W : World) (g : Nat) (f0 : List Int) (f1 : Int) : Prop := ∃ A0 c0, W.heap[g]? = some (.cells #[.slice A0 f0.length c0, .int .i64 f1] 98 (0, 0)) ∧ w0.heap.size ≤ g ∧ Kd.C (Kd.int .u8) w0 A0 f0.length f0
theorem IsS98.grown {w0 W : World} {g : Nat} {f0 : List Int} {f1 : Int} {W1 : World} {row : Option Nat} (h : IsS98 w0 W g f0 f1) (hw : W.grownBy W1 row) (hne : some g ≠ row) : IsS98 w0 W1 g f0 f1 := by
 obtain ⟨A0, c0, hb, hg, hr0⟩ := h; exact ⟨A0, c0, blk_grown hb hw hne, hg, hr0⟩
theorem IsS98.below {w0 W : World} {g : Nat} {f0 : List Int} {f1 : Int} {W1 : World} (h : IsS98 w0 W g f0 f1) (hw : Below W.heap.size W W1) : IsS98 w0 W1 g f0 f1 := h.grown (grown_of_below hw none) (by simp)
theorem IsS98.drewN {w0 W : World} {g : Nat} {f0 : List Int} {f1 : Int} (h : IsS98 w0 W g f0 f1) (m : Nat) : IsS98 w0 (W.drewN m) g f0 f1 := h
theorem IsS98.apart {w0 W : World} {g : Nat} {f0 : List Int} {f1 : Int} {α : Type} {d : Kd α} {e : Nat} {base : Nat} {ok : Nat → Prop} {v : Value} {xs : List α} (h : IsS98 w0 W g f0 f1) (ho : d.R e W base ok v xs) (ht : ∀ q, q ∈ e :: d.E → q ≠ 98) : d.R e W base (fun k => ok k ∧ k ≠ g) v xs := by
 obtain ⟨A0, c0, hb, hg, hr0⟩ := h; exact Kd.R_types ho hb ht
theorem IsS98.own_ne {w0 W : World} {g : Nat} {f0 : List Int} {f1 : Int} {α : Type} {d : Kd α} {e : Nat} {base : Nat} {ok : Nat → Prop} {v : Value} {xs : List α} (h : IsS98 w0 W g f0 f1) (ho : d.R e W base ok v xs) (ht : e ≠ 98) : some g ≠ v.ownBlock := by
 obtain ⟨A0, c0, hb, hg, hr0⟩ := h; exact Kd.R_ne ho hb ht
theorem IsS98.ge {w0 W : World} {g : Nat} {f0 : List Int} {f1 : Int} (h : IsS98 w0 W g f0 f1) : w0.heap.size ≤ g := by
 obtain ⟨A0, c0, hb, hg, hr0⟩ := h; exact hg
theorem cellS98_0 {W : World} {g : Nat} {A0 : Option Addr} {c0 : Nat} {f0 : List Int} {f1 : Int} (h : W.heap[g]? = some (.cells #[.slice A0 f0.length c0, .int .i64 f1] 98 (0, 0))) : W.cell? ⟨g, 0, none⟩ = some (.slice A0 f0.length c0) := (blk_cell h 0).trans rfl
theorem cellS98_1 {W : World} {g : Nat} {A0 : Option Addr} {c0 : Nat} {f0 : List Int} {f1 : Int} (h : W.heap[g]? = some (.cells #[.slice A0 f0.length c0, .int .i64 f1] 98 (0, 0))) : W.cell? ⟨g, 1, none⟩ = some (.int .i64 f1) := (blk_cell h 1).trans rfl
theorem IsS98.set_1 {w0 W : World} {g : Nat} {f0 : List Int} {f1 : Int} (h : IsS98 w0 W g f0 f1) (x : Int) : IsS98 w0 (W.setCell ⟨g, 1, none⟩ (.int .i64 x)) g f0 x := by
 obtain ⟨A0, c0, hb, hg, hr0⟩ := h; exact ⟨A0, c0, by simpa using blk_set hb 1 (.int .i64 x), hg, hr0⟩
def spec_l6Open.f (l0 : List Int) : Option (List Int × Int) := if (l0.length : Int) > 2000 then (if 2000 ≤ (l0.length : Int) then (some (l0.take 2000, 0)) else (none)) else (some (l0, 0))
set_option maxHeartbeats 8000000 in
set_option maxRecDepth 100000 in
theorem spec_l6Open.calls (A0 : Option Addr) (c0 : Nat) (l0 : List Int) (r1 : List Int) (r2 : Int) (w0 w : World) (hB : Below w0.heap.size w0 w) (hr0 : Kd.C (Kd.int .u8) w0 A0 l0.length l0) (hc0 : l0.length ≤ c0) (h : spec_l6Open.f l0 = some (r1, r2)) :
 Calls Tryd.prog 56 #[.slice A0 l0.length c0] w fun e w' => ∃ g_ : Nat, e = .returned (.pointer (some ⟨g_, 0, none⟩)) ∧ IsS98 w0 w' g_ r1 r2 ∧ Below w0.heap.size w0 w' ∧ Below w.heap.size w w' := by
 have hu98 := Tryd.underlying98; have HR0 := Aside0.mk hr0; have HC0 := Aside0.mk hc0; clear hr0 hc0; have HBW := Aside0.mk (Below.refl w.heap.size w); have HW0 := Aside0.mk hB.size; have HB := Aside0.mk hB; clear hB; have H : (if (l0.length : Int) > 2000 then (if 2000 ≤ (l0.length : Int) then (some (l0.take 2000, 0)) else (none)) else (some (l0, 0))) = some (r1, r2) := h; clear h; by_cases c2 : (l0.length : Int) > 2000
 ·
  rw [if_pos c2] at H; have c2b0 : decide (2000 < (l0.length : Int)) = true := decide_eq_true c2; have c2b1 : decide (2000 < l0.length) = true := decide_eq_true (by omega); clear c2; by_cases c3 : 2000 ≤ (l0.length : Int)
  ·
   rw [if_pos c3] at H; have c3b0 := eq_true c3; have c3b1 : decide (2000 ≤ (l0.length : Int)) = true := decide_eq_true c3; clear c3; simp only [Option.some.injEq, Prod.mk.injEq] at H; obtain ⟨rfl, rfl⟩ := H; obtain ⟨i04, hi04, _, hsz4, _⟩ := info_parts info5; obtain ⟨hcut4, hA4, hC4⟩ := print_take_of (P := Tryd.prog) (Value.int .u8) 0 22 5 .i64 Tryd.underlying22 hi04 hsz4 A0 c0 l0 2000 (by omega) (of_decide_eq_true (by first | (with_reducible assumption) | assumption)) HC0.out; have HR130 := Aside0.mk (Kd.C_of_reads (h1 := fun _ => rfl) (hA4 _ (Kd.reads_of_C HR0.out))); have HC130 := Aside0.mk hC4; clear hA4 hC4 hi04 hsz4; go_enter Tryd.func56, Tryd.ntmps56
   go_wp2_with (first | ((with_reducible refine gate_dst (N := 10) rfl ?_); refine box_event ?hg (N := 10) ?hd (cs := #[.slice A0 (l0.take 2000).length c0, .int .i64 0]) (t := 98) ?hr ?_; (case hd => rfl); (case hg => rfl); (case hr => first | (go_simp; done) | (go_simp; rfl)); intro gb131 hg w5 hbox hb; have n0_ := Aside0.mk (below_step HBW.out hb); have n1_ := Aside0.mk (below_step (by repeat (first | (with_reducible first | exact HB.out | apply below_alloc | apply pw_below_drewN | apply below_drew1) | exact HB.out)) hb); have n2_ := Aside0.mk (hbox); have n3_ := Aside0.mk ((by rw [hg]; exact (below_size (by repeat (first | (with_reducible first | exact HBW.out | apply below_alloc | apply pw_below_drewN | apply below_drew1) | exact HBW.out))) : w.heap.size ≤ gb131)); have n4_ := Aside0.mk ((Nat.le_trans HW0.out (by rw [hg]; exact (below_size (by repeat (first | (with_reducible first | exact HBW.out | apply below_alloc | apply pw_below_drewN | apply below_drew1) | exact HBW.out))) : w.heap.size ≤ gb131) : w0.heap.size ≤ gb131)); clear HBW; clear HB; have HBW := n0_; have HB := n1_; have BK131 := n2_; have GW131 := n3_; have GE131 := n4_; clear n0_ n1_ n2_ n3_ n4_; clear hb hbox hg))
   go_ret
   exact ⟨_, rfl, (show IsS98 w0 _ gb131 (l0.take 2000) 0 from ⟨_, _, by (with_reducible repeat (first | refine blk_drewN ?_ _ | refine blk_drew ?_ | refine blk_alloc ?_ _)); exact BK131.out, GE131.out, HR130.out⟩), by repeat (first | (with_reducible first | exact HB.out | apply below_alloc | apply pw_below_drewN | apply below_drew1 | refine below_set ?_ GE131.out) | exact HB.out), by repeat (first | (with_reducible first | exact HBW.out | apply below_alloc | apply pw_below_drewN | apply below_drew1 | refine below_set ?_ GW131.out) | exact HBW.out)⟩
  ·
   rw [if_neg c3] at H; exact absurd H (by simp)
 ·
  rw [if_neg c2] at H; have c2b0 : decide (2000 < (l0.length : Int)) = false := decide_eq_false c2; have c2b1 : decide (2000 < l0.length) = false := decide_eq_false (by omega); clear c2; simp only [Option.some.injEq, Prod.mk.injEq] at H; obtain ⟨rfl, rfl⟩ := H; go_enter Tryd.func56, Tryd.ntmps56
  go_wp2_with (first | ((with_reducible refine gate_dst (N := 10) rfl ?_); refine box_event ?hg (N := 10) ?hd (cs := #[.slice A0 l0.length c0, .int .i64 0]) (t := 98) ?hr ?_; (case hd => rfl); (case hg => rfl); (case hr => first | (go_simp; done) | (go_simp; rfl)); intro gb132 hg w6 hbox hb; have n0_ := Aside0.mk (below_step HBW.out hb); have n1_ := Aside0.mk (below_step (by repeat (first | (with_reducible first | exact HB.out | apply below_alloc | apply pw_below_drewN | apply below_drew1) | exact HB.out)) hb); have n2_ := Aside0.mk (hbox); have n3_ := Aside0.mk ((by rw [hg]; exact (below_size (by repeat (first | (with_reducible first | exact HBW.out | apply below_alloc | apply pw_below_drewN | apply below_drew1) | exact HBW.out))) : w.heap.size ≤ gb132)); have n4_ := Aside0.mk ((Nat.le_trans HW0.out (by rw [hg]; exact (below_size (by repeat (first | (with_reducible first | exact HBW.out | apply below_alloc | apply pw_below_drewN | apply below_drew1) | exact HBW.out))) : w.heap.size ≤ gb132) : w0.heap.size ≤ gb132)); clear HBW; clear HB; have HBW := n0_; have HB := n1_; have BK132 := n2_; have GW132 := n3_; have GE132 := n4_; clear n0_ n1_ n2_ n3_ n4_; clear hb hbox hg))
  go_ret
  exact ⟨_, rfl, (show IsS98 w0 _ gb132 l0 0 from ⟨_, _, by (with_reducible repeat (first | refine blk_drewN ?_ _ | refine blk_drew ?_ | refine blk_alloc ?_ _)); exact BK132.out, GE132.out, HR0.out⟩), by repeat (first | (with_reducible first | exact HB.out | apply below_alloc | apply pw_below_drewN | apply below_drew1 | refine below_set ?_ GE132.out) | exact HB.out), by repeat (first | (with_reducible first | exact HBW.out | apply below_alloc | apply pw_below_drewN | apply below_drew1 | refine below_set ?_ GW132.out) | exact HBW.out)⟩

end Go.Proofs.YthhnaplmjpacnaaDoor.PFnModeMoves
namespace Go.Proofs.YthhnaplmjpacnaaDoor.PFnModeMoves
open Go.RowKit Go.Proofs.YthhnaplmjpacnaaDoorW.PrintWords Go.Proofs.YthhnaplmjpacnaaDoorW.PrintLast Go.Proofs.YthhnaplmjpacnaaDoorW.PrintMore
attribute [local go_sem] max2_int min2_int max_two min_two max_three min_three max_four min_four   -- for this text's walks alone
set_option linter.unusedVariables false
set_option linter.unusedSimpArgs false

def spec_l6Rd_pick.j0 : Nat → Int → Bool → List Int → Int → Option (Int × Int)
 | 0, _, _, _, _ => none
 | k + 1, x1, x24, x1000, x1001 => if x24 = true then (some (0, x1001)) else (if (wrap64 (x1001 - 1)) < (x1000.length : Int) then (if 0 ≤ (wrap64 (x1001 - 1)) then (if x1 = 0 then (none) else (some (Int.tmod (wrap64 (rd x1000 (wrap64 (x1001 - 1)))) x1, x1001))) else (none)) else (if (x1000.length : Int) = 0 then (none) else (if 0 ≤ (Int.tmod (wrap64 (x1001 - 1)) (x1000.length : Int)) then (if (Int.tmod (wrap64 (x1001 - 1)) (x1000.length : Int)) < (x1000.length : Int) then (if 0 ≤ (Int.tmod (wrap64 ((wrap64 ((wrap64 (x1001 - 1)) * 7)) + 3)) (x1000.length : Int)) then (if (Int.tmod (wrap64 ((wrap64 ((wrap64 (x1001 - 1)) * 7)) + 3)) (x1000.length : Int)) < (x1000.length : Int) then (if x1 = 0 then (none) else (some (Int.tmod (Go.bits .xor .i64 (wrap64 ((wrap64 ((wrap64 ((wrap64 ((wrap64 (rd x1000 (Int.tmod (wrap64 (x1001 - 1)) (x1000.length : Int)))) * 131)) + (wrap64 ((wrap64 (rd x1000 (Int.tmod (wrap64 ((wrap64 ((wrap64 (x1001 - 1)) * 7)) + 3)) (x1000.length : Int)))) * 1117)))) + (wrap64 ((wrap64 (x1001 - 1)) * 29)))) + (wrap64 ((wrap64 (Int.tdiv (wrap64 (x1001 - 1)) (x1000.length : Int))) * 53)))) (wrap64 (Int.tdiv (wrap64 ((wrap64 ((wrap64 ((wrap64 ((wrap64 (rd x1000 (Int.tmod (wrap64 (x1001 - 1)) (x1000.length : Int)))) * 131)) + (wrap64 ((wrap64 (rd x1000 (Int.tmod (wrap64 ((wrap64 ((wrap64 (x1001 - 1)) * 7)) + 3)) (x1000.length : Int)))) * 1117)))) + (wrap64 ((wrap64 (x1001 - 1)) * 29)))) + (wrap64 ((wrap64 (Int.tdiv (wrap64 (x1001 - 1)) (x1000.length : Int))) * 53)))) 64))) x1, x1001))) else (none)) else (none)) else (none)) else (none))))
def spec_l6Rd_pick.f (k : Nat) (s0_0 : List Int) (s0_1 : Int) (a1 : Int) : Option (Int × Int) := if a1 < 1 then (spec_l6Rd_pick.j0 k a1 true s0_0 (wrap64 (s0_1 + 1))) else (spec_l6Rd_pick.j0 k a1 ((s0_0.length : Int) == 0) s0_0 (wrap64 (s0_1 + 1)))
set_option maxHeartbeats 8000000 in
set_option maxRecDepth 100000 in
theorem spec_l6Rd_pick.calls (k : Nat) (g : Nat) (s0_0 : List Int) (s0_1 : Int) (a1 : Int) (r1 : Int) (r2 : Int) (w0 w : World) (hI : IsS98 w0 w g s0_0 s0_1) (hB : Below w0.heap.size w0 w) (h : spec_l6Rd_pick.f k s0_0 s0_1 a1 = some (r1, r2)) :
 Calls Tryd.prog 59 #[.pointer (some ⟨g, 0, none⟩), .int .i64 a1] w fun e w' => e = .returned (.int .i64 r1) ∧ IsS98 w0 w' g s0_0 r2 ∧ Below w0.heap.size w0 w' ∧ KeepBut w w' g none := by
 have HI0 := Aside0.mk hI; have HK := Aside0.mk (KeepBut.refl w g none); have HL := Aside0.mk hB.size; clear hI; have HW0 := Aside0.mk hB.size; have HB := Aside0.mk hB; clear hB; have H : (if a1 < 1 then (spec_l6Rd_pick.j0 k a1 true s0_0 (wrap64 (s0_1 + 1))) else (spec_l6Rd_pick.j0 k a1 ((s0_0.length : Int) == 0) s0_0 (wrap64 (s0_1 + 1)))) = some (r1, r2) := h; clear h; have HC3 := Aside0.mk H; clear H; obtain ⟨ASz4_0, cSz4_0, HGz4, hgz4, HSz4_0⟩ := HI0.out; have hcz4_0 := cellS98_0 HGz4; have hcz4_1 := cellS98_1 HGz4; have hfz4_1 := blk_frozen HGz4 1; clear HGz4 hgz4; go_enter Tryd.func59, Tryd.ntmps59
 go_upto_region 2 with (fail)
 repeat (go_quiet (fail); go_upto_region 2 with (fail))
 go_cut [24] (fun v24 wc => ∃ (kq : Nat) (x24_2 : Bool), v24 = .bool x24_2 ∧ Aside0 (spec_l6Rd_pick.j0 kq a1 x24_2 s0_0 (wrap64 (s0_1 + 1)) = some (r1, r2)) ∧ Aside0 (kq ≤ k) ∧ Aside0 (IsS98 w0 wc g s0_0 (wrap64 (s0_1 + 1))) ∧ Aside0 (KeepBut w wc g none) ∧ Aside0 (Below w0.heap.size w0 wc))
 case first =>
  have H := HC3.out; clear HC3; by_cases c5 : a1 < 1
  ·
   rw [if_pos c5] at H; have c5b0 : decide (a1 < 1) = true := decide_eq_true c5; clear c5; (first | rw [c5b0] | (simp only [i64_w, i32_w]; rw [c5b0]) | skip)
   have H' := Aside0.mk H; clear H; go_wp2; repeat (go_quiet (fail); try go_wp2)
   go_meet
   case rel => exact ⟨_, (true), (by first | rfl | (simp; done) | (simp [*]; done)), H', ⟨by first | omega | exact Nat.le_refl _⟩, ⟨by repeat (first | (with_reducible first | exact HI0.out | apply IsS98.alloc | apply IsS98.drewN | apply IsS98.drew | apply IsS98.set_1) | exact HI0.out)⟩, ⟨by repeat (first | (with_reducible first | exact HK.out | apply KeepBut.set_ | apply keep_drewN | apply keep_drew | apply keep_alloc) | exact HK.out)⟩, ⟨by repeat (first | (with_reducible first | exact HB.out | apply below_alloc | apply pw_below_drewN | apply below_drew1 | refine below_set ?_ (IsS98.ge HI0.out)) | exact HB.out)⟩⟩
  ·
   rw [if_neg c5] at H; have c5b0 : decide (a1 < 1) = false := decide_eq_false c5; clear c5; (first | rw [c5b0] | (simp only [i64_w, i32_w]; rw [c5b0]) | skip)
   have H' := Aside0.mk H; clear H; obtain ⟨ASz6_0, cSz6_0, HGz6, hgz6, HSz6_0⟩ := HI0.out; have hcz6_0 := cellS98_0 HGz6; have hcz6_1 := cellS98_1 HGz6; have hfz6_1 := blk_frozen HGz6 1; clear HGz6 hgz6; go_wp2; repeat (go_quiet (fail); try go_wp2)
   go_meet
   case rel => exact ⟨_, (((s0_0.length : Int) == 0)), (by first | rfl | (simp; done) | (simp [*]; done)), H', ⟨by first | omega | exact Nat.le_refl _⟩, ⟨by repeat (first | (with_reducible first | exact HI0.out | apply IsS98.alloc | apply IsS98.drewN | apply IsS98.drew | apply IsS98.set_1) | exact HI0.out)⟩, ⟨by repeat (first | (with_reducible first | exact HK.out | apply KeepBut.set_ | apply keep_drewN | apply keep_drew | apply keep_alloc) | exact HK.out)⟩, ⟨by repeat (first | (with_reducible first | exact HB.out | apply below_alloc | apply pw_below_drewN | apply below_drew1 | refine below_set ?_ (IsS98.ge HI0.out)) | exact HB.out)⟩⟩
 case rest =>
  clear HC3; try clear p2
  try clear c5
  try clear c5b0
  try clear p6
  try clear hcz4_0
  try clear hcz4_1
  try clear hcz6_0
  try clear hcz6_1
  try clear hfz4_1
  try clear hfz6_1
  obtain ⟨kq, x24_2, rfl, HA, HJ2, HI0, HK, HB⟩ := hcut; cases kq with
  | zero => exact absurd HA.out (by simp [spec_l6Rd_pick.j0])
  | succ kj2 =>
   have H := HA.out; clear HA; simp only [spec_l6Rd_pick.j0] at H; by_cases c7 : x24_2 = true
   ·
    subst c7; have H1 : (some (0, (wrap64 (s0_1 + 1)))) = some (r1, r2) := by rw [if_pos rfl] at H; exact H
    clear H; have H := H1; clear H1; simp only [Option.some.injEq, Prod.mk.injEq] at H; obtain ⟨rfl, rfl⟩ := H; go_wp2; repeat (go_quiet (fail); try go_wp2)
    go_ret
    exact ⟨by first | rfl | (simp [errW_none, errW_some] <;> rfl) | (simp [*, errW_none, errW_some] <;> rfl), by repeat (first | (with_reducible first | exact HI0.out | apply IsS98.alloc | apply IsS98.drewN | apply IsS98.drew | apply IsS98.set_1) | exact HI0.out), by repeat (first | (with_reducible first | exact HB.out | apply below_alloc | apply pw_below_drewN | apply below_drew1 | refine below_set ?_ (IsS98.ge HI0.out)) | exact HB.out), by repeat (first | (with_reducible first | exact HK.out | apply KeepBut.set_ | apply keep_drewN | apply keep_drew | apply keep_alloc) | exact HK.out)⟩
   ·
    replace c7 := Bool.eq_false_iff.mpr c7; subst c7; have H1 : (if (wrap64 ((wrap64 (s0_1 + 1)) - 1)) < (s0_0.length : Int) then (if 0 ≤ (wrap64 ((wrap64 (s0_1 + 1)) - 1)) then (if a1 = 0 then (none) else (some (Int.tmod (wrap64 (rd s0_0 (wrap64 ((wrap64 (s0_1 + 1)) - 1)))) a1, (wrap64 (s0_1 + 1))))) else (none)) else (if (s0_0.length : Int) = 0 then (none) else (if 0 ≤ (Int.tmod (wrap64 ((wrap64 (s0_1 + 1)) - 1)) (s0_0.length : Int)) then (if (Int.tmod (wrap64 ((wrap64 (s0_1 + 1)) - 1)) (s0_0.length : Int)) < (s0_0.length : Int) then (if 0 ≤ (Int.tmod (wrap64 ((wrap64 ((wrap64 ((wrap64 (s0_1 + 1)) - 1)) * 7)) + 3)) (s0_0.length : Int)) then (if (Int.tmod (wrap64 ((wrap64 ((wrap64 ((wrap64 (s0_1 + 1)) - 1)) * 7)) + 3)) (s0_0.length : Int)) < (s0_0.length : Int) then (if a1 = 0 then (none) else (some (Int.tmod (Go.bits .xor .i64 (wrap64 ((wrap64 ((wrap64 ((wrap64 ((wrap64 (rd s0_0 (Int.tmod (wrap64 ((wrap64 (s0_1 + 1)) - 1)) (s0_0.length : Int)))) * 131)) + (wrap64 ((wrap64 (rd s0_0 (Int.tmod (wrap64 ((wrap64 ((wrap64 ((wrap64 (s0_1 + 1)) - 1)) * 7)) + 3)) (s0_0.length : Int)))) * 1117)))) + (wrap64 ((wrap64 ((wrap64 (s0_1 + 1)) - 1)) * 29)))) + (wrap64 ((wrap64 (Int.tdiv (wrap64 ((wrap64 (s0_1 + 1)) - 1)) (s0_0.length : Int))) * 53)))) (wrap64 (Int.tdiv (wrap64 ((wrap64 ((wrap64 ((wrap64 ((wrap64 (rd s0_0 (Int.tmod (wrap64 ((wrap64 (s0_1 + 1)) - 1)) (s0_0.length : Int)))) * 131)) + (wrap64 ((wrap64 (rd s0_0 (Int.tmod (wrap64 ((wrap64 ((wrap64 ((wrap64 (s0_1 + 1)) - 1)) * 7)) + 3)) (s0_0.length : Int)))) * 1117)))) + (wrap64 ((wrap64 ((wrap64 (s0_1 + 1)) - 1)) * 29)))) + (wrap64 ((wrap64 (Int.tdiv (wrap64 ((wrap64 (s0_1 + 1)) - 1)) (s0_0.length : Int))) * 53)))) 64))) a1, (wrap64 (s0_1 + 1))))) else (none)) else (none)) else (none)) else (none)))) = some (r1, r2) := by rw [if_neg (show ¬ (false = true) by decide)] at H; exact H
    clear H; have H := H1; clear H1; by_cases c8 : (wrap64 ((wrap64 (s0_1 + 1)) - 1)) < (s0_0.length : Int)
    ·
     rw [if_pos c8] at H; have c8b0 : decide ((wrap64 ((wrap64 (s0_1 + 1)) - 1)) < (s0_0.length : Int)) = true := decide_eq_true c8; clear c8; obtain ⟨ji9, hji9⟩ : ∃ j_ : Int, (wrap64 ((wrap64 (s0_1 + 1)) - 1)) = j_ := ⟨_, rfl⟩
     replace H : (if 0 ≤ (ji9) then (if a1 = 0 then (none) else (some (Int.tmod (wrap64 (rd s0_0 (ji9))) a1, (wrap64 (s0_1 + 1))))) else (none)) = some (r1, r2) := by first | (rw [hji9] at H; exact H) | (simp only [hji9] at H ⊢; exact H)
     (try rw [hji9] at c8b0)
     have hji9w : (IntKind.i64.wrap ((wrap64 (s0_1 + 1)) - 1)) = ji9 := (i64_w _).trans hji9; by_cases c10 : 0 ≤ (ji9)
     ·
      rw [if_pos c10] at H; have c10b0 : decide (0 ≤ (ji9)) = true := decide_eq_true c10; clear c10; by_cases c11 : a1 = 0
      ·
       rw [if_pos c11] at H; exact absurd H (by simp)
      ·
       rw [if_neg c11] at H; have c11b0 : (a1 == 0) = false := beq_eq_false_iff_ne.mpr c11; have c11b1 : (a1 != 0) = true := bne_iff_ne.mpr c11; simp only [Option.some.injEq, Prod.mk.injEq] at H; obtain ⟨rfl, rfl⟩ := H; obtain ⟨ASz12_0, cSz12_0, HGz12, hgz12, HSz12_0⟩ := HI0.out; have hcz12_0 := cellS98_0 HGz12; have hcz12_1 := cellS98_1 HGz12; have hfz12_1 := blk_frozen HGz12 1; clear HGz12 hgz12; have p133 : 0 ≤ ((ji9) : Int) := of_decide_eq_true (by first | (with_reducible assumption) | assumption); have q133 : (ji9) < (s0_0.length : Int) := of_decide_eq_true (by first | (with_reducible assumption) | assumption); obtain ⟨ad133, e133, hx133_0⟩ := Kd.at_int HSz12_0 (ji9) p133 q133; cases e133; replace hx133_0 := pw_cell_below HB.out hx133_0; replace p133 := eq_true p133; replace q133 := eq_true q133; go_wp2; repeat (go_quiet (fail); try go_wp2)
       go_ret
       exact ⟨by first | rfl | (simp [errW_none, errW_some] <;> rfl) | (simp only [← hji9]; first | rfl | (simp [errW_none, errW_some] <;> rfl)) | (simp [*, errW_none, errW_some] <;> rfl), by repeat (first | (with_reducible first | exact HI0.out | apply IsS98.alloc | apply IsS98.drewN | apply IsS98.drew | apply IsS98.set_1) | exact HI0.out), by repeat (first | (with_reducible first | exact HB.out | apply below_alloc | apply pw_below_drewN | apply below_drew1 | refine below_set ?_ (IsS98.ge HI0.out)) | exact HB.out), by repeat (first | (with_reducible first | exact HK.out | apply KeepBut.set_ | apply keep_drewN | apply keep_drew | apply keep_alloc) | exact HK.out)⟩
     ·
      rw [if_neg c10] at H; exact absurd H (by simp)
    ·
     rw [if_neg c8] at H; have c8b0 : decide ((wrap64 ((wrap64 (s0_1 + 1)) - 1)) < (s0_0.length : Int)) = false := decide_eq_false c8; clear c8; by_cases c13 : (s0_0.length : Int) = 0
     ·
      rw [if_pos c13] at H; exact absurd H (by simp)
     ·
      rw [if_neg c13] at H; have c13b0 : ((s0_0.length : Int) == 0) = false := beq_eq_false_iff_ne.mpr c13; have c13b1 : ((s0_0.length : Int) != 0) = true := bne_iff_ne.mpr c13; have c13b2 : ¬ (s0_0 = []) := fun h_ => c13 (by rw [h_]; rfl)
      obtain ⟨ji14, hji14⟩ : ∃ j_ : Int, (Int.tmod (wrap64 ((wrap64 (s0_1 + 1)) - 1)) (s0_0.length : Int)) = j_ := ⟨_, rfl⟩
      replace H : (if 0 ≤ (ji14) then (if (ji14) < (s0_0.length : Int) then (if 0 ≤ (Int.tmod (wrap64 ((wrap64 ((wrap64 ((wrap64 (s0_1 + 1)) - 1)) * 7)) + 3)) (s0_0.length : Int)) then (if (Int.tmod (wrap64 ((wrap64 ((wrap64 ((wrap64 (s0_1 + 1)) - 1)) * 7)) + 3)) (s0_0.length : Int)) < (s0_0.length : Int) then (if a1 = 0 then (none) else (some (Int.tmod (Go.bits .xor .i64 (wrap64 ((wrap64 ((wrap64 ((wrap64 ((wrap64 (rd s0_0 (ji14))) * 131)) + (wrap64 ((wrap64 (rd s0_0 (Int.tmod (wrap64 ((wrap64 ((wrap64 ((wrap64 (s0_1 + 1)) - 1)) * 7)) + 3)) (s0_0.length : Int)))) * 1117)))) + (wrap64 ((wrap64 ((wrap64 (s0_1 + 1)) - 1)) * 29)))) + (wrap64 ((wrap64 (Int.tdiv (wrap64 ((wrap64 (s0_1 + 1)) - 1)) (s0_0.length : Int))) * 53)))) (wrap64 (Int.tdiv (wrap64 ((wrap64 ((wrap64 ((wrap64 ((wrap64 (rd s0_0 (ji14))) * 131)) + (wrap64 ((wrap64 (rd s0_0 (Int.tmod (wrap64 ((wrap64 ((wrap64 ((wrap64 (s0_1 + 1)) - 1)) * 7)) + 3)) (s0_0.length : Int)))) * 1117)))) + (wrap64 ((wrap64 ((wrap64 (s0_1 + 1)) - 1)) * 29)))) + (wrap64 ((wrap64 (Int.tdiv (wrap64 ((wrap64 (s0_1 + 1)) - 1)) (s0_0.length : Int))) * 53)))) 64))) a1, (wrap64 (s0_1 + 1))))) else (none)) else (none)) else (none)) else (none)) = some (r1, r2) := by first | (rw [hji14] at H; exact H) | (simp only [hji14] at H ⊢; exact H)
      by_cases c15 : 0 ≤ (ji14)
      ·
       rw [if_pos c15] at H; have c15b0 : decide (0 ≤ (ji14)) = true := decide_eq_true c15; clear c15; by_cases c16 : (ji14) < (s0_0.length : Int)
       ·
        rw [if_pos c16] at H; have c16b0 : decide ((ji14) < (s0_0.length : Int)) = true := decide_eq_true c16; clear c16; obtain ⟨ji17, hji17⟩ : ∃ j_ : Int, (Int.tmod (wrap64 ((wrap64 ((wrap64 ((wrap64 (s0_1 + 1)) - 1)) * 7)) + 3)) (s0_0.length : Int)) = j_ := ⟨_, rfl⟩
        replace H : (if 0 ≤ (ji17) then (if (ji17) < (s0_0.length : Int) then (if a1 = 0 then (none) else (some (Int.tmod (Go.bits .xor .i64 (wrap64 ((wrap64 ((wrap64 ((wrap64 ((wrap64 (rd s0_0 (ji14))) * 131)) + (wrap64 ((wrap64 (rd s0_0 (ji17))) * 1117)))) + (wrap64 ((wrap64 ((wrap64 (s0_1 + 1)) - 1)) * 29)))) + (wrap64 ((wrap64 (Int.tdiv (wrap64 ((wrap64 (s0_1 + 1)) - 1)) (s0_0.length : Int))) * 53)))) (wrap64 (Int.tdiv (wrap64 ((wrap64 ((wrap64 ((wrap64 ((wrap64 (rd s0_0 (ji14))) * 131)) + (wrap64 ((wrap64 (rd s0_0 (ji17))) * 1117)))) + (wrap64 ((wrap64 ((wrap64 (s0_1 + 1)) - 1)) * 29)))) + (wrap64 ((wrap64 (Int.tdiv (wrap64 ((wrap64 (s0_1 + 1)) - 1)) (s0_0.length : Int))) * 53)))) 64))) a1, (wrap64 (s0_1 + 1))))) else (none)) else (none)) = some (r1, r2) := by first | (rw [hji17] at H; exact H) | (simp only [hji17] at H ⊢; exact H)
        by_cases c18 : 0 ≤ (ji17)
        ·
         rw [if_pos c18] at H; have c18b0 : decide (0 ≤ (ji17)) = true := decide_eq_true c18; clear c18; by_cases c19 : (ji17) < (s0_0.length : Int)
         ·
          rw [if_pos c19] at H; have c19b0 : decide ((ji17) < (s0_0.length : Int)) = true := decide_eq_true c19; clear c19; by_cases c20 : a1 = 0
          ·
           rw [if_pos c20] at H; exact absurd H (by simp)
          ·
           rw [if_neg c20] at H; have c20b0 : (a1 == 0) = false := beq_eq_false_iff_ne.mpr c20; have c20b1 : (a1 != 0) = true := bne_iff_ne.mpr c20; simp only [Option.some.injEq, Prod.mk.injEq] at H; obtain ⟨rfl, rfl⟩ := H; obtain ⟨ASz21_0, cSz21_0, HGz21, hgz21, HSz21_0⟩ := HI0.out; have hcz21_0 := cellS98_0 HGz21; have hcz21_1 := cellS98_1 HGz21; have hfz21_1 := blk_frozen HGz21 1; clear HGz21 hgz21; have p134 : 0 ≤ ((ji14) : Int) := of_decide_eq_true (by first | (with_reducible assumption) | assumption); have q134 : (ji14) < (s0_0.length : Int) := of_decide_eq_true (by first | (with_reducible assumption) | assumption); obtain ⟨ad134, e134, hx134_0⟩ := Kd.at_int HSz21_0 (ji14) p134 q134; cases e134; replace hx134_0 := pw_cell_below HB.out hx134_0; replace p134 := eq_true p134; replace q134 := eq_true q134; have p135 : 0 ≤ ((ji17) : Int) := of_decide_eq_true (by first | (with_reducible assumption) | assumption); have q135 : (ji17) < (s0_0.length : Int) := of_decide_eq_true (by first | (with_reducible assumption) | assumption); obtain ⟨ad135, e135, hx135_0⟩ := Kd.at_int HSz21_0 (ji17) p135 q135; obtain rfl : ad134 = ad135 := (by injection e135)
           replace hx135_0 := pw_cell_below HB.out hx135_0; replace p135 := eq_true p135; replace q135 := eq_true q135; go_wp2; repeat (go_quiet (fail); try go_wp2)
           go_ret
           exact ⟨by first | rfl | (simp [errW_none, errW_some] <;> rfl) | (simp only [← hji14, ← hji17]; first | rfl | (simp [errW_none, errW_some] <;> rfl)) | (simp [*, errW_none, errW_some] <;> rfl), by repeat (first | (with_reducible first | exact HI0.out | apply IsS98.alloc | apply IsS98.drewN | apply IsS98.drew | apply IsS98.set_1) | exact HI0.out), by repeat (first | (with_reducible first | exact HB.out | apply below_alloc | apply pw_below_drewN | apply below_drew1 | refine below_set ?_ (IsS98.ge HI0.out)) | exact HB.out), by repeat (first | (with_reducible first | exact HK.out | apply KeepBut.set_ | apply keep_drewN | apply keep_drew | apply keep_alloc) | exact HK.out)⟩
         ·
          rw [if_neg c19] at H; exact absurd H (by simp)
        ·
         rw [if_neg c18] at H; exact absurd H (by simp)
       ·
        rw [if_neg c16] at H; exact absurd H (by simp)
      ·
       rw [if_neg c15] at H; exact absurd H (by simp)

end Go.Proofs.YthhnaplmjpacnaaDoor.PFnModeMoves
namespace Go.Proofs.YthhnaplmjpacnaaDoor.PFnModeMoves
open Go.RowKit Go.Proofs.YthhnaplmjpacnaaDoorW.PrintWords Go.Proofs.YthhnaplmjpacnaaDoorW.PrintLast Go.Proofs.YthhnaplmjpacnaaDoorW.PrintMore
attribute [local go_sem] max2_int min2_int max_two min_two max_three min_three max_four min_four   -- for this text's walks alone
set_option linter.unusedVariables false
set_option linter.unusedSimpArgs false

def spec_l6In.f (a0 : Int) (a1 : Int) (a2 : Int) : Option (Bool) := if a0 ≥ a1 then (some (decide (a0 ≤ a2))) else (some false)
set_option maxHeartbeats 8000000 in
set_option maxRecDepth 100000 in
theorem spec_l6In.calls (a0 : Int) (a1 : Int) (a2 : Int) (r : Bool) (w : World) (h : spec_l6In.f a0 a1 a2 = some r) :
 Calls Tryd.prog 67 #[.int .i64 a0, .int .i64 a1, .int .i64 a2] w fun e w' => e = .returned (.bool r) ∧ Drawn0 w w' := by
 have H : (if a0 ≥ a1 then (some (decide (a0 ≤ a2))) else (some false)) = some r := h; clear h; by_cases c4 : a0 ≥ a1
 ·
  rw [if_pos c4] at H; have c4b0 : decide (a1 ≤ a0) = true := decide_eq_true c4; clear c4; obtain rfl := Option.some.inj H; go_enter Tryd.func67, Tryd.ntmps67
  go_wp2; go_ret
  exact ⟨by first | rfl | (simp; done) | (simp [*]; done), by repeat (first | exact Drawn0.refl _ | apply Drawn0.step)⟩
 ·
  rw [if_neg c4] at H; have c4b0 : decide (a1 ≤ a0) = false := decide_eq_false c4; clear c4; obtain rfl := Option.some.inj H; go_enter Tryd.func67, Tryd.ntmps67
  go_wp2; go_ret
  exact ⟨by first | rfl | (simp; done) | (simp [*]; done), by repeat (first | exact Drawn0.refl _ | apply Drawn0.step)⟩

end Go.Proofs.YthhnaplmjpacnaaDoor.PFnModeMoves
namespace Go.Proofs.YthhnaplmjpacnaaDoor.PFnModeMoves
open Go.RowKit Go.Proofs.YthhnaplmjpacnaaDoorW.PrintWords Go.Proofs.YthhnaplmjpacnaaDoorW.PrintLast Go.Proofs.YthhnaplmjpacnaaDoorW.PrintMore
attribute [local go_sem] max2_int min2_int max_two min_two max_three min_three max_four min_four   -- for this text's walks alone
set_option linter.unusedVariables false
set_option linter.unusedSimpArgs false

def spec_l1Letter.f (a0 : Int) : Option (Int) := some (Int.tmod a0 7)
set_option maxHeartbeats 8000000 in
set_option maxRecDepth 100000 in
theorem spec_l1Letter.calls (a0 : Int) (r : Int) (w : World) (h : spec_l1Letter.f a0 = some r) :
 Calls Tryd.prog 98 #[.int .i64 a0] w fun e w' => e = .returned (.int .i64 r) ∧ Drawn0 w w' := by
 have H : (some (Int.tmod a0 7)) = some r := h; clear h; obtain rfl := Option.some.inj H; go_enter Tryd.func98, Tryd.ntmps98
 go_wp2; go_ret
 exact ⟨by first | rfl | (simp; done) | (simp [*]; done), by repeat (first | exact Drawn0.refl _ | apply Drawn0.step)⟩

end Go.Proofs.YthhnaplmjpacnaaDoor.PFnModeMoves
namespace Go.Proofs.YthhnaplmjpacnaaDoor.PFnModeMoves
open Go.RowKit Go.Proofs.YthhnaplmjpacnaaDoorW.PrintWords Go.Proofs.YthhnaplmjpacnaaDoorW.PrintLast Go.Proofs.YthhnaplmjpacnaaDoorW.PrintMore
attribute [local go_sem] max2_int min2_int max_two min_two max_three min_three max_four min_four   -- for this text's walks alone
set_option linter.unusedVariables false
set_option linter.unusedSimpArgs false

def spec_ToneValid.f (a0_0 : Int) (a0_1 : Bool) : Option (Bool) := (spec_l6In.f a0_0 0 20).bind fun t137 => (if t137 = true then (if a0_1 = true then ((spec_l1Letter.f a0_0).bind fun t138 => (some (t138 == 2))) else (some true)) else (some false))
set_option maxHeartbeats 8000000 in
set_option maxRecDepth 100000 in
theorem spec_ToneValid.calls (a0_0 : Int) (a0_1 : Bool) (r : Bool) (w : World) (h : spec_ToneValid.f a0_0 a0_1 = some r) :
 Calls Tryd.prog 68 #[.agg #[.int .i64 a0_0, .bool a0_1]] w fun e w' => e = .returned (.bool r) ∧ Below w.heap.size w w' := by
 have hu29 := Tryd.underlying29; have HB := Aside0.mk (Below.refl w.heap.size w); have H : ((spec_l6In.f a0_0 0 20).bind fun t137 => (if t137 = true then (if a0_1 = true then ((spec_l1Letter.f a0_0).bind fun t138 => (some (t138 == 2))) else (some true)) else (some false))) = some r := h; clear h; replace H := Option.bind_eq_some_iff.mp H; obtain ⟨t137, A20, H⟩ := H; replace H : (if t137 = true then (if a0_1 = true then ((spec_l1Letter.f a0_0).bind fun t138 => (some (t138 == 2))) else (some true)) else (some false)) = some r := H; have A2 := Aside0.mk A20; clear A20; by_cases c3 : t137 = true
 ·
  subst c3; have H1 : (if a0_1 = true then ((spec_l1Letter.f a0_0).bind fun t138 => (some (t138 == 2))) else (some true)) = some r := by rw [if_pos rfl] at H; exact H
  clear H; have H := H1; clear H1; by_cases c4 : a0_1 = true
  ·
   subst c4; have H1 : ((spec_l1Letter.f a0_0).bind fun t138 => (some (t138 == 2))) = some r := by rw [if_pos rfl] at H; exact H
   clear H; have H := H1; clear H1; replace H := Option.bind_eq_some_iff.mp H; obtain ⟨t138, A50, H⟩ := H; replace H : (some (t138 == 2)) = some r := H; have A5 := Aside0.mk A50; clear A50; obtain rfl := Option.some.inj H; go_enter Tryd.func68, Tryd.ntmps68
   go_wp2_with (first | ((with_reducible refine gate_dst (N := 1) rfl ?_); refine box_event ?hg (N := 1) ?hd (cs := #[.int .i64 a0_0, .bool true]) (t := 29) ?hr ?_; (case hd => rfl); (case hg => rfl); (case hr => first | (go_simp; done) | (go_simp; rfl)); intro gb136 hg w6 hbox hb; have n0_ := Aside0.mk (below_step (by repeat (first | (with_reducible first | exact HB.out | apply below_alloc | apply pw_below_drewN | apply below_drew1) | exact HB.out)) hb); have n1_ := Aside0.mk (hbox); have n2_ := Aside0.mk ((by rw [hg]; exact (below_size (by repeat (first | (with_reducible first | exact HB.out | apply below_alloc | apply pw_below_drewN | apply below_drew1) | exact HB.out))) : w.heap.size ≤ gb136)); have n3_ := Aside0.mk ((by rw [hg]; exact (below_size (by repeat (first | (with_reducible first | exact HB.out | apply below_alloc | apply pw_below_drewN | apply below_drew1) | exact HB.out))) : w.heap.size ≤ gb136)); clear HB; have HB := n0_; have BK136 := n1_; have GW136 := n2_; have GE136 := n3_; clear n0_ n1_ n2_ n3_; clear hb hbox hg; have hcz7_0 : w6.cell? ⟨gb136, 0, none⟩ = some (.int .i64 a0_0) := (blk_cell BK136.out 0).trans rfl; have hcz7_1 : w6.cell? ⟨gb136, 1, none⟩ = some (.bool true) := (blk_cell BK136.out 1).trans rfl; have hfz7_0 := blk_frozen BK136.out 0; have hfz7_1 := blk_frozen BK136.out 1) | ((with_reducible refine gate_callee (f := 67) rfl ?_); refine goesL_ (some 5) rfl rfl Tryd.func67 (by kernel_rfl) rfl #[.int .i64 a0_0, .int .i64 0, .int .i64 20] rfl (by (try simp only [List.map_toArray, List.map_cons, List.map_nil]); first | done | rfl | (simp only [List.length_drop, List.length_take]; rfl)) ?_; (with_reducible refine (spec_l6In.calls a0_0 0 20 true _ A2.out).mono ?_); rintro e w' ⟨rfl, ⟨nd, rfl⟩⟩; refine ⟨_, rfl, ?_⟩) | (go_at_call 98; (with_reducible refine (spec_l1Letter.calls a0_0 t138 _ A5.out).mono ?_); rintro e w' ⟨rfl, ⟨nd, rfl⟩⟩))
   go_ret
   exact ⟨by first | rfl | (simp [errW_none, errW_some] <;> rfl) | (simp [*, errW_none, errW_some] <;> rfl), by repeat (first | (with_reducible first | exact HB.out | apply below_alloc | apply pw_below_drewN | apply below_drew1 | refine below_set ?_ GE136.out) | exact HB.out)⟩
  ·
   replace c4 := Bool.eq_false_iff.mpr c4; subst c4; have H1 : (some true) = some r := by rw [if_neg (show ¬ (false = true) by decide)] at H; exact H
   clear H; have H := H1; clear H1; obtain rfl := Option.some.inj H; go_enter Tryd.func68, Tryd.ntmps68
   go_wp2_with (first | ((with_reducible refine gate_dst (N := 1) rfl ?_); refine box_event ?hg (N := 1) ?hd (cs := #[.int .i64 a0_0, .bool false]) (t := 29) ?hr ?_; (case hd => rfl); (case hg => rfl); (case hr => first | (go_simp; done) | (go_simp; rfl)); intro gb136 hg w8 hbox hb; have n0_ := Aside0.mk (below_step (by repeat (first | (with_reducible first | exact HB.out | apply below_alloc | apply pw_below_drewN | apply below_drew1) | exact HB.out)) hb); have n1_ := Aside0.mk (hbox); have n2_ := Aside0.mk ((by rw [hg]; exact (below_size (by repeat (first | (with_reducible first | exact HB.out | apply below_alloc | apply pw_below_drewN | apply below_drew1) | exact HB.out))) : w.heap.size ≤ gb136)); have n3_ := Aside0.mk ((by rw [hg]; exact (below_size (by repeat (first | (with_reducible first | exact HB.out | apply below_alloc | apply pw_below_drewN | apply below_drew1) | exact HB.out))) : w.heap.size ≤ gb136)); clear HB; have HB := n0_; have BK136 := n1_; have GW136 := n2_; have GE136 := n3_; clear n0_ n1_ n2_ n3_; clear hb hbox hg; have hcz9_0 : w8.cell? ⟨gb136, 0, none⟩ = some (.int .i64 a0_0) := (blk_cell BK136.out 0).trans rfl; have hcz9_1 : w8.cell? ⟨gb136, 1, none⟩ = some (.bool false) := (blk_cell BK136.out 1).trans rfl; have hfz9_0 := blk_frozen BK136.out 0; have hfz9_1 := blk_frozen BK136.out 1) | ((with_reducible refine gate_callee (f := 67) rfl ?_); refine goesL_ (some 5) rfl rfl Tryd.func67 (by kernel_rfl) rfl #[.int .i64 a0_0, .int .i64 0, .int .i64 20] rfl (by (try simp only [List.map_toArray, List.map_cons, List.map_nil]); first | done | rfl | (simp only [List.length_drop, List.length_take]; rfl)) ?_; (with_reducible refine (spec_l6In.calls a0_0 0 20 true _ A2.out).mono ?_); rintro e w' ⟨rfl, ⟨nd, rfl⟩⟩; refine ⟨_, rfl, ?_⟩))
   go_ret
   exact ⟨by first | rfl | (simp [errW_none, errW_some] <;> rfl) | (simp [*, errW_none, errW_some] <;> rfl), by repeat (first | (with_reducible first | exact HB.out | apply below_alloc | apply pw_below_drewN | apply below_drew1 | refine below_set ?_ GE136.out) | exact HB.out)⟩
 ·
  replace c3 := Bool.eq_false_iff.mpr c3; subst c3; have H1 : (some false) = some r := by rw [if_neg (show ¬ (false = true) by decide)] at H; exact H
  clear H; have H := H1; clear H1; obtain rfl := Option.some.inj H; go_enter Tryd.func68, Tryd.ntmps68
  go_wp2_with (first | ((with_reducible refine gate_dst (N := 1) rfl ?_); refine box_event ?hg (N := 1) ?hd (cs := #[.int .i64 a0_0, .bool a0_1]) (t := 29) ?hr ?_; (case hd => rfl); (case hg => rfl); (case hr => first | (go_simp; done) | (go_simp; rfl)); intro gb136 hg w10 hbox hb; have n0_ := Aside0.mk (below_step (by repeat (first | (with_reducible first | exact HB.out | apply below_alloc | apply pw_below_drewN | apply below_drew1) | exact HB.out)) hb); have n1_ := Aside0.mk (hbox); have n2_ := Aside0.mk ((by rw [hg]; exact (below_size (by repeat (first | (with_reducible first | exact HB.out | apply below_alloc | apply pw_below_drewN | apply below_drew1) | exact HB.out))) : w.heap.size ≤ gb136)); have n3_ := Aside0.mk ((by rw [hg]; exact (below_size (by repeat (first | (with_reducible first | exact HB.out | apply below_alloc | apply pw_below_drewN | apply below_drew1) | exact HB.out))) : w.heap.size ≤ gb136)); clear HB; have HB := n0_; have BK136 := n1_; have GW136 := n2_; have GE136 := n3_; clear n0_ n1_ n2_ n3_; clear hb hbox hg; have hcz11_0 : w10.cell? ⟨gb136, 0, none⟩ = some (.int .i64 a0_0) := (blk_cell BK136.out 0).trans rfl; have hcz11_1 : w10.cell? ⟨gb136, 1, none⟩ = some (.bool a0_1) := (blk_cell BK136.out 1).trans rfl; have hfz11_0 := blk_frozen BK136.out 0; have hfz11_1 := blk_frozen BK136.out 1) | ((with_reducible refine gate_callee (f := 67) rfl ?_); refine goesL_ (some 5) rfl rfl Tryd.func67 (by kernel_rfl) rfl #[.int .i64 a0_0, .int .i64 0, .int .i64 20] rfl (by (try simp only [List.map_toArray, List.map_cons, List.map_nil]); first | done | rfl | (simp only [List.length_drop, List.length_take]; rfl)) ?_; (with_reducible refine (spec_l6In.calls a0_0 0 20 false _ A2.out).mono ?_); rintro e w' ⟨rfl, ⟨nd, rfl⟩⟩; refine ⟨_, rfl, ?_⟩))
  go_ret
  exact ⟨by first | rfl | (simp [errW_none, errW_some] <;> rfl) | (simp [*, errW_none, errW_some] <;> rfl), by repeat (first | (with_reducible first | exact HB.out | apply below_alloc | apply pw_below_drewN | apply below_drew1 | refine below_set ?_ GE136.out) | exact HB.out)⟩

end Go.Proofs.YthhnaplmjpacnaaDoor.PFnModeMoves
namespace Go.Proofs.YthhnaplmjpacnaaDoor.PFnModeMoves
open Go.RowKit Go.Proofs.YthhnaplmjpacnaaDoorW.PrintWords Go.Proofs.YthhnaplmjpacnaaDoorW.PrintLast Go.Proofs.YthhnaplmjpacnaaDoorW.PrintMore
attribute [local go_sem] max2_int min2_int max_two min_two max_three min_three max_four min_four   -- for this text's walks alone
set_option linter.unusedVariables false
set_option linter.unusedSimpArgs false

def spec_MelodyValid.l0 : Nat → List (S29) → Int → Option (Bool)
 | 0, _, _ => none
 | k + 1, x0, x3 => if x3 < (x0.length : Int) then (if 0 ≤ x3 then ((spec_ToneValid.f ((rd_T29 x0 x3).f0) ((rd_T29 x0 x3).f1)).bind fun t140 => (if t140 = true then (spec_MelodyValid.l0 k x0 (wrap64 (x3 + 1))) else (some false))) else (none)) else (some (decide ((x0.length : Int) ≤ 24)))
def spec_MelodyValid.f (k : Nat) (l0 : List (S29)) : Option (Bool) := spec_MelodyValid.l0 k l0 0
set_option maxHeartbeats 8000000 in
set_option maxRecDepth 100000 in
theorem spec_MelodyValid.calls (k : Nat) (A0 : Option Addr) (c0 : Nat) (l0 : List (S29)) (r : Bool) (w : World) (hr0 : Kd.C k29 w A0 l0.length l0) (hc0 : l0.length ≤ c0) (h : spec_MelodyValid.f k l0 = some r) :
 Calls Tryd.prog 66 #[.slice A0 l0.length c0] w fun e w' => e = .returned (.bool r) ∧ Below w.heap.size w w' := by
 have hu29 := Tryd.underlying29; have HR0 := Aside0.mk hr0; have HC0 := Aside0.mk hc0; clear hr0 hc0; have HB := Aside0.mk (Below.refl w.heap.size w); have H : (spec_MelodyValid.l0 k l0 0) = some r := h; clear h; have H' := Aside0.mk H; clear H; go_enter Tryd.func66, Tryd.ntmps66
 go_wp2; go_loopg [3] k (fun kq v3 w' => ∃ (x3_1 : Int), v3 = .int .i64 x3_1 ∧ Aside0 (spec_MelodyValid.l0 kq l0 x3_1 = some r) ∧ Aside0 (kq ≤ k) ∧ Aside0 (Below w.heap.size w w'))
 case atStart => exact ⟨(0), (by first | rfl | (simp; done) | (simp [*]; done)), H', ⟨Nat.le_refl _⟩, ⟨by repeat (first | (with_reducible first | exact HB.out | apply below_alloc | apply pw_below_drewN | apply below_drew1) | exact HB.out)⟩⟩
 case round =>
  clear H'; obtain ⟨x3_1, rfl, HA, HK1, HB⟩ := hrel; cases gk with
  | zero => exact absurd HA.out (by simp [spec_MelodyValid.l0])
  | succ k1 =>
   have H := HA.out; clear HA; simp only [spec_MelodyValid.l0] at H; by_cases c2 : x3_1 < (l0.length : Int)
   ·
    rw [if_pos c2] at H; have c2b0 : decide (x3_1 < (l0.length : Int)) = true := decide_eq_true c2; clear c2; by_cases c3 : 0 ≤ x3_1
    ·
     rw [if_pos c3] at H; have c3b0 : decide (0 ≤ x3_1) = true := decide_eq_true c3; clear c3; replace H := Option.bind_eq_some_iff.mp H; obtain ⟨t140, A40, H⟩ := H; replace H : (if t140 = true then (spec_MelodyValid.l0 k1 l0 (wrap64 (x3_1 + 1))) else (some false)) = some r := H; have A4 := Aside0.mk A40; clear A40; by_cases c5 : t140 = true
     ·
      subst c5; have H1 : (spec_MelodyValid.l0 k1 l0 (wrap64 (x3_1 + 1))) = some r := by rw [if_pos rfl] at H; exact H
      clear H; have H := H1; clear H1; have H' := Aside0.mk H; clear H; have p139 : 0 ≤ (x3_1 : Int) := of_decide_eq_true (by first | (with_reducible assumption) | assumption); have q139 : x3_1 < (l0.length : Int) := of_decide_eq_true (by first | (with_reducible assumption) | assumption); obtain ⟨ad139, e139, hx139_0, hx139_1⟩ := at_T29 HR0.out x3_1 p139 q139; cases e139; replace hx139_0 := (HB.out.cell (World.block_lt_of_cell? w _ hx139_0)).trans hx139_0; replace hx139_1 := (HB.out.cell (World.block_lt_of_cell? w _ hx139_1)).trans hx139_1; replace p139 := eq_true p139; replace q139 := eq_true q139; go_wp2_with (first | ((with_reducible refine gate_callee (f := 68) rfl ?_); refine goesL_ (some 14) rfl rfl Tryd.func68 (by kernel_rfl) rfl #[.agg #[.int .i64 ((rd_T29 l0 x3_1).f0), .bool ((rd_T29 l0 x3_1).f1)]] rfl (by (try simp only [List.map_toArray, List.map_cons, List.map_nil]); first | done | rfl | (simp only [List.length_drop, List.length_take]; rfl)) ?_; (with_reducible refine (spec_ToneValid.calls ((rd_T29 l0 x3_1).f0) ((rd_T29 l0 x3_1).f1) true _ A4.out).mono ?_); rintro e w6 ⟨rfl, hb⟩; refine ⟨_, rfl, ?_⟩; have n0_ := Aside0.mk (below_step (by repeat (first | (with_reducible first | exact HB.out | apply below_alloc | apply pw_below_drewN | apply below_drew1) | exact HB.out)) hb); clear HB; have HB := n0_; clear n0_; (try clear hb); (try clear hb2); (try clear hk); (try clear hi)))
      go_roundg k1
      case measure => have := HK1.out; omega
      case rel => exact ⟨(wrap64 (x3_1 + 1)), (by first | rfl | (simp; done) | (simp [*]; done)), H', ⟨by have := HK1.out; omega⟩, ⟨by repeat (first | (with_reducible first | exact HB.out | apply below_alloc | apply pw_below_drewN | apply below_drew1) | exact HB.out)⟩⟩
     ·
      replace c5 := Bool.eq_false_iff.mpr c5; subst c5; have H1 : (some false) = some r := by rw [if_neg (show ¬ (false = true) by decide)] at H; exact H
      clear H; have H := H1; clear H1; obtain rfl := Option.some.inj H; have p139 : 0 ≤ (x3_1 : Int) := of_decide_eq_true (by first | (with_reducible assumption) | assumption); have q139 : x3_1 < (l0.length : Int) := of_decide_eq_true (by first | (with_reducible assumption) | assumption); obtain ⟨ad139, e139, hx139_0, hx139_1⟩ := at_T29 HR0.out x3_1 p139 q139; cases e139; replace hx139_0 := (HB.out.cell (World.block_lt_of_cell? w _ hx139_0)).trans hx139_0; replace hx139_1 := (HB.out.cell (World.block_lt_of_cell? w _ hx139_1)).trans hx139_1; replace p139 := eq_true p139; replace q139 := eq_true q139; go_wp2_with (first | ((with_reducible refine gate_callee (f := 68) rfl ?_); refine goesL_ (some 14) rfl rfl Tryd.func68 (by kernel_rfl) rfl #[.agg #[.int .i64 ((rd_T29 l0 x3_1).f0), .bool ((rd_T29 l0 x3_1).f1)]] rfl (by (try simp only [List.map_toArray, List.map_cons, List.map_nil]); first | done | rfl | (simp only [List.length_drop, List.length_take]; rfl)) ?_; (with_reducible refine (spec_ToneValid.calls ((rd_T29 l0 x3_1).f0) ((rd_T29 l0 x3_1).f1) false _ A4.out).mono ?_); rintro e w7 ⟨rfl, hb⟩; refine ⟨_, rfl, ?_⟩; have n0_ := Aside0.mk (below_step (by repeat (first | (with_reducible first | exact HB.out | apply below_alloc | apply pw_below_drewN | apply below_drew1) | exact HB.out)) hb); clear HB; have HB := n0_; clear n0_; (try clear hb); (try clear hb2); (try clear hk); (try clear hi)))
      go_ret
      exact ⟨by first | rfl | (simp [errW_none, errW_some] <;> rfl) | (simp [*, errW_none, errW_some] <;> rfl), by repeat (first | (with_reducible first | exact HB.out | apply below_alloc | apply pw_below_drewN | apply below_drew1) | exact HB.out)⟩
    ·
     rw [if_neg c3] at H; exact absurd H (by simp)
   ·
    rw [if_neg c2] at H; have c2b0 : decide (x3_1 < (l0.length : Int)) = false := decide_eq_false c2; clear c2; obtain rfl := Option.some.inj H; go_wp2; go_ret
    exact ⟨by first | rfl | (simp [errW_none, errW_some] <;> rfl) | (simp [*, errW_none, errW_some] <;> rfl), by repeat (first | (with_reducible first | exact HB.out | apply below_alloc | apply pw_below_drewN | apply below_drew1) | exact HB.out)⟩

end Go.Proofs.YthhnaplmjpacnaaDoor.PFnModeMoves
namespace Go.Proofs.YthhnaplmjpacnaaDoor.PFnModeMoves
open Go.RowKit Go.Proofs.YthhnaplmjpacnaaDoorW.PrintWords Go.Proofs.YthhnaplmjpacnaaDoorW.PrintLast Go.Proofs.YthhnaplmjpacnaaDoorW.PrintMore
attribute [local go_sem] max2_int min2_int max_two min_two max_three min_three max_four min_four   -- for this text's walks alone
set_option linter.unusedVariables false
set_option linter.unusedSimpArgs false

def spec_l91Melody.l0 : Nat → List (S29) → Int → Int → Int → List Int → Int → Option ((List (S29)) × Int)
 | 0, _, _, _, _, _, _ => none
 | k + 1, x5, x6, x7, x8, x1000, x1001 => if x8 < x6 then ((spec_l1Letter.f x7).bind fun t148 => (if t148 = 2 then ((spec_l6Rd_pick.f k x1000 x1001 3).bind fun bt149 => (if x5.length < 8796093022208 then ((spec_l6Rd_pick.f k x1000 bt149.2 5).bind fun bt154 => (spec_l91Melody.l0 k (x5 ++ [(⟨x7, (bt149.1 == 0)⟩ : S29)]) x6 (mx 1 (mn 15 (wrap64 ((wrap64 (x7 + bt154.1)) - 2)))) (wrap64 (x8 + 1)) x1000 bt154.2)) else (none))) else (if x5.length < 8796093022208 then ((spec_l6Rd_pick.f k x1000 x1001 5).bind fun bt159 => (spec_l91Melody.l0 k (x5 ++ [(⟨x7, false⟩ : S29)]) x6 (mx 1 (mn 15 (wrap64 ((wrap64 (x7 + bt159.1)) - 2)))) (wrap64 (x8 + 1)) x1000 bt159.2)) else (none)))) else (if x6 > 0 then ((spec_l6Rd_pick.f k x1000 x1001 50).bind fun bt161 => (if bt161.1 = 0 then ((some (([(-1), 21, 20] : List Int) : List Int)).bind fun y163 => ((spec_l6Rd_pick.f k x1000 bt161.2 3).bind fun bt166 => (if 0 ≤ bt166.1 then (if bt166.1 < (y163.length : Int) then (if 0 < (x5.length : Int) then (some ((x5.set (0 : Int).toNat (⟨rd y163 bt166.1, (rd_T29 x5 0).f1⟩ : S29)), bt166.2)) else (none)) else (none)) else (none)))) else (if bt161.1 = 1 then (if 0 ≤ (wrap64 (x6 - 1)) then (if (wrap64 (x6 - 1)) < (x5.length : Int) then (some ((x5.set ((wrap64 (x6 - 1)) : Int).toNat (⟨(rd_T29 x5 (wrap64 (x6 - 1))).f0, true⟩ : S29)), bt161.2)) else (none)) else (none)) else (some (x5, bt161.2))))) else (some (x5, x1001)))
def spec_l91Melody.f (k : Nat) (s0_0 : List Int) (s0_1 : Int) (a1 : Int) : Option ((List (S29)) × Int) := (spec_l6Rd_pick.f k s0_0 s0_1 (wrap64 (a1 + 1))).bind fun bt144 => ((spec_l6Rd_pick.f k s0_0 bt144.2 5).bind fun bt146 => (spec_l91Melody.l0 k (([] : List (S29))) bt144.1 (wrap64 (4 + bt146.1)) 0 s0_0 bt146.2))
set_option maxHeartbeats 8000000 in
set_option maxRecDepth 100000 in
theorem spec_l91Melody.calls (k : Nat) (g : Nat) (s0_0 : List Int) (s0_1 : Int) (a1 : Int) (r1 : List (S29)) (r2 : Int) (w0 w : World) (hI : IsS98 w0 w g s0_0 s0_1) (hB : Below w0.heap.size w0 w) (h : spec_l91Melody.f k s0_0 s0_1 a1 = some (r1, r2)) :
 Calls Tryd.prog 78 #[.pointer (some ⟨g, 0, none⟩), .int .i64 a1] w fun e w' => ∃ v0_ : Value, e = .returned (v0_) ∧ Kd.R k29 29 w' w.heap.size (fun _ => True) v0_ r1 ∧ IsS98 w0 w' g s0_0 r2 ∧ Below w0.heap.size w0 w' ∧ KeepBut w w' g none := by
 have hu29 := Tryd.underlying29; have HI0 := Aside0.mk hI; have HK := Aside0.mk (KeepBut.refl w g none); have HL := Aside0.mk hB.size; clear hI; have HW0 := Aside0.mk hB.size; have HB := Aside0.mk hB; clear hB; have H : ((spec_l6Rd_pick.f k s0_0 s0_1 (wrap64 (a1 + 1))).bind fun bt144 => ((spec_l6Rd_pick.f k s0_0 bt144.2 5).bind fun bt146 => (spec_l91Melody.l0 k (([] : List (S29))) bt144.1 (wrap64 (4 + bt146.1)) 0 s0_0 bt146.2))) = some (r1, r2) := h; clear h; obtain ⟨y141, hy141⟩ : ∃ y_ : List (S29), y_ = (([] : List (S29))) := ⟨_, rfl⟩
 replace H : ((spec_l6Rd_pick.f k s0_0 s0_1 (wrap64 (a1 + 1))).bind fun bt144 => ((spec_l6Rd_pick.f k s0_0 bt144.2 5).bind fun bt146 => (spec_l91Melody.l0 k y141 bt144.1 (wrap64 (4 + bt146.1)) 0 s0_0 bt146.2))) = some (r1, r2) := by first | (rw [hy141]; with_reducible exact H) | (have H2_ := (Option.bind_some _ _).symm.trans H; rw [hy141]; with_reducible exact H2_) | (have H2_ := (Option.bind_some _ _).symm.trans H; with_reducible exact H2_) | with_reducible exact H | (rw [hy141]; exact H) | exact H
 have Ny141 := Aside0.mk hy141; clear hy141; replace H := Option.bind_eq_some_iff.mp H; obtain ⟨⟨t144, t145⟩, A30, H⟩ := H; replace H : ((spec_l6Rd_pick.f k s0_0 t145 5).bind fun bt146 => (spec_l91Melody.l0 k y141 t144 (wrap64 (4 + bt146.1)) 0 s0_0 bt146.2)) = some (r1, r2) := H; have A3 := Aside0.mk A30; clear A30; replace H := Option.bind_eq_some_iff.mp H; obtain ⟨⟨t146, t147⟩, A40, H⟩ := H; replace H : (spec_l91Melody.l0 k y141 t144 (wrap64 (4 + t146)) 0 s0_0 t147) = some (r1, r2) := H; have A4 := Aside0.mk A40; clear A40; have H' := Aside0.mk H; clear H; go_enter Tryd.func78, Tryd.ntmps78
 go_wp2_with (first | ((with_reducible refine gate_dst (N := 9) rfl ?_); refine Kd.R_lit k29 _ 29 ?hg (N := 9) ?hd (xs := ([] : List (S29))) (inner := []) (ok := fun _ => True) (okp := fun _ => True) ?hr ?hp (fun _ hk => hk) trivial (Below.refl _ _) (Nat.le_refl _) (by simp) ?_; (case hd => rfl); (case hg => rfl); (case hr => first | (go_simp; done) | (go_simp; rfl)); (case hp => exact (Reps.none _ _)); intro v142 w5 ho6 hb hg_ hnew_; clear hg_ hnew_; (first | rw [← Ny141.out] at ho6 | (simp only [Int.reduceToNat] at ho6; rw [← Ny141.out] at ho6)); have n0_ := Aside0.mk (Kd.R_lower ho6 (keep_size (w := w) (g := g) (row := none) (by repeat (first | (with_reducible first | exact HK.out | apply KeepBut.set_ | apply keep_drewN | apply keep_drew | apply keep_alloc) | exact HK.out)))); have n1_ := Aside0.mk (IsS98.below (by repeat (first | (with_reducible first | exact HI0.out | apply IsS98.alloc | apply IsS98.drewN | apply IsS98.drew | apply IsS98.set_1) | exact HI0.out)) hb); have n2_ := Aside0.mk (KeepBut.trans (by repeat (first | (with_reducible first | exact HK.out | apply KeepBut.set_ | apply keep_drewN | apply keep_drew | apply keep_alloc) | exact HK.out)) (KeepBut.of_below hb g none) (.inl rfl)); have n3_ := Aside0.mk (below_step (by repeat (first | (with_reducible first | exact HB.out | apply below_alloc | apply pw_below_drewN | apply below_drew1 | refine below_set ?_ (IsS98.ge HI0.out)) | exact HB.out)) hb); clear HI0; clear HK; clear HB; have HO143 := n0_; have HI0 := n1_; have HK := n2_; have HB := n3_; clear n0_ n1_ n2_ n3_; clear hb ho6) | ((with_reducible refine gate_callee (f := 59) rfl ?_); refine goesL_ (some 13) rfl rfl Tryd.func59 (by kernel_rfl) rfl #[.pointer (some ⟨g, 0, none⟩), .int .i64 (wrap64 (a1 + 1))] rfl (by (try simp only [List.map_toArray, List.map_cons, List.map_nil]); first | done | rfl | (simp only [List.length_drop, List.length_take]; rfl)) ?_; (with_reducible refine (spec_l6Rd_pick.calls k g s0_0 s0_1 (wrap64 (a1 + 1)) t144 t145 w0 _ ?side1 ?side2 A3.out).mono ?_); (case side1 => repeat (first | (with_reducible first | exact HI0.out | apply IsS98.alloc | apply IsS98.drewN | apply IsS98.drew | apply IsS98.set_1) | exact HI0.out)); (case side2 => repeat (first | (with_reducible first | exact HB.out | apply below_alloc | apply pw_below_drewN | apply below_drew1 | refine below_set ?_ (IsS98.ge HI0.out)) | exact HB.out)); rintro e w7 ⟨rfl, hi, hb, hk⟩; refine ⟨_, rfl, ?_⟩; have n0_ := Aside0.mk (Kd.R_mono (Kd.R_keep (IsS98.apart (show IsS98 w0 _ g s0_0 s0_1 from by repeat (first | (with_reducible first | exact HI0.out | apply IsS98.alloc | apply IsS98.drewN | apply IsS98.drew | apply IsS98.set_1) | exact HI0.out)) (by (with_reducible repeat (first | apply Kd.R_alloc | apply Kd.R_drewN | apply Kd.R_drew)); exact HO143.out) (by decide)) hk (fun _ h => h.2)) (fun _ h => h.1)); have n1_ := Aside0.mk (KeepBut.trans (by repeat (first | (with_reducible first | exact HK.out | apply KeepBut.set_ | apply keep_drewN | apply keep_drew | apply keep_alloc) | exact HK.out)) hk (.inl rfl)); have n2_ := Aside0.mk (hb); have n3_ := Aside0.mk (hi); clear HO143; clear HK; clear HB; clear HI0; have HO143 := n0_; have HK := n1_; have HB := n2_; have HI0 := n3_; clear n0_ n1_ n2_ n3_; (try clear hb); (try clear hb2); (try clear hk); (try clear hi)) | ((with_reducible refine gate_callee (f := 59) rfl ?_); refine goesL_ (some 15) rfl rfl Tryd.func59 (by kernel_rfl) rfl #[.pointer (some ⟨g, 0, none⟩), .int .i64 5] rfl (by (try simp only [List.map_toArray, List.map_cons, List.map_nil]); first | done | rfl | (simp only [List.length_drop, List.length_take]; rfl)) ?_; (with_reducible refine (spec_l6Rd_pick.calls k g s0_0 t145 5 t146 t147 w0 _ ?side1 ?side2 A4.out).mono ?_); (case side1 => repeat (first | (with_reducible first | exact HI0.out | apply IsS98.alloc | apply IsS98.drewN | apply IsS98.drew | apply IsS98.set_1) | exact HI0.out)); (case side2 => repeat (first | (with_reducible first | exact HB.out | apply below_alloc | apply pw_below_drewN | apply below_drew1 | refine below_set ?_ (IsS98.ge HI0.out)) | exact HB.out)); rintro e w8 ⟨rfl, hi, hb, hk⟩; refine ⟨_, rfl, ?_⟩; have n0_ := Aside0.mk (Kd.R_mono (Kd.R_keep (IsS98.apart (show IsS98 w0 _ g s0_0 t145 from by repeat (first | (with_reducible first | exact HI0.out | apply IsS98.alloc | apply IsS98.drewN | apply IsS98.drew | apply IsS98.set_1) | exact HI0.out)) (by (with_reducible repeat (first | apply Kd.R_alloc | apply Kd.R_drewN | apply Kd.R_drew)); exact HO143.out) (by decide)) hk (fun _ h => h.2)) (fun _ h => h.1)); have n1_ := Aside0.mk (KeepBut.trans (by repeat (first | (with_reducible first | exact HK.out | apply KeepBut.set_ | apply keep_drewN | apply keep_drew | apply keep_alloc) | exact HK.out)) hk (.inl rfl)); have n2_ := Aside0.mk (hb); have n3_ := Aside0.mk (hi); clear HO143; clear HK; clear HB; clear HI0; have HO143 := n0_; have HK := n1_; have HB := n2_; have HI0 := n3_; clear n0_ n1_ n2_ n3_; (try clear hb); (try clear hb2); (try clear hk); (try clear hi)))
 go_loopg [5, 7, 8] k (fun kq v5 v7 v8 w' => ∃ (x5_1 : List (S29)) (x7_1 : Int) (x8_1 : Int) (x1001_1 : Int), v7 = .int .i64 x7_1 ∧ v8 = .int .i64 x8_1 ∧ Aside0 (spec_l91Melody.l0 kq x5_1 t144 x7_1 x8_1 s0_0 x1001_1 = some (r1, r2)) ∧ Aside0 (kq ≤ k) ∧ Aside0 (Kd.R k29 29 w' w.heap.size (fun _ => True) v5 x5_1) ∧ Aside0 (IsS98 w0 w' g s0_0 x1001_1) ∧ Aside0 (KeepBut w w' g none) ∧ Aside0 (Below w0.heap.size w0 w'))
 case atStart => exact ⟨(y141), (wrap64 (4 + t146)), (0), (t147), (by first | rfl | (simp; done) | (simp [*]; done)), (by first | rfl | (simp; done) | (simp [*]; done)), H', ⟨Nat.le_refl _⟩, ⟨by (with_reducible repeat (first | apply Kd.R_alloc | apply Kd.R_drewN | apply Kd.R_drew)); exact HO143.out⟩, ⟨by repeat (first | (with_reducible first | exact HI0.out | apply IsS98.alloc | apply IsS98.drewN | apply IsS98.drew | apply IsS98.set_1) | exact HI0.out)⟩, ⟨by repeat (first | (with_reducible first | exact HK.out | apply KeepBut.set_ | apply keep_drewN | apply keep_drew | apply keep_alloc) | exact HK.out)⟩, ⟨by repeat (first | (with_reducible first | exact HB.out | apply below_alloc | apply pw_below_drewN | apply below_drew1 | refine below_set ?_ (IsS98.ge HI0.out)) | exact HB.out)⟩⟩
 case round =>
  clear H'; try clear p2
  try clear c5
  try clear p6
  try clear c7
  obtain ⟨x5_1, x7_1, x8_1, x1001_1, rfl, rfl, HA, HK1, HO_5, HI0, HK, HB⟩ := hrel; cases gk with
  | zero => exact absurd HA.out (by simp [spec_l91Melody.l0])
  | succ k1 =>
   have H := HA.out; clear HA; simp only [spec_l91Melody.l0] at H; by_cases c9 : x8_1 < t144
   ·
    rw [if_pos c9] at H; have c9b0 : decide (x8_1 < t144) = true := decide_eq_true c9; clear c9; replace H := Option.bind_eq_some_iff.mp H; obtain ⟨t148, A100, H⟩ := H; replace H : (if t148 = 2 then ((spec_l6Rd_pick.f k1 s0_0 x1001_1 3).bind fun bt149 => (if x5_1.length < 8796093022208 then ((spec_l6Rd_pick.f k1 s0_0 bt149.2 5).bind fun bt154 => (spec_l91Melody.l0 k1 (x5_1 ++ [(⟨x7_1, (bt149.1 == 0)⟩ : S29)]) t144 (mx 1 (mn 15 (wrap64 ((wrap64 (x7_1 + bt154.1)) - 2)))) (wrap64 (x8_1 + 1)) s0_0 bt154.2)) else (none))) else (if x5_1.length < 8796093022208 then ((spec_l6Rd_pick.f k1 s0_0 x1001_1 5).bind fun bt159 => (spec_l91Melody.l0 k1 (x5_1 ++ [(⟨x7_1, false⟩ : S29)]) t144 (mx 1 (mn 15 (wrap64 ((wrap64 (x7_1 + bt159.1)) - 2)))) (wrap64 (x8_1 + 1)) s0_0 bt159.2)) else (none))) = some (r1, r2) := H; have A10 := Aside0.mk A100; clear A100; by_cases c11 : t148 = 2
    ·
     rw [if_pos c11] at H; have c11b0 : (t148 == 2) = true := beq_iff_eq.mpr c11; have c11b1 : (t148 != 2) = false := bne_eq_false_iff_eq.mpr c11; clear c11; replace H := Option.bind_eq_some_iff.mp H; obtain ⟨⟨t149, t150⟩, A120, H⟩ := H; replace H : (if x5_1.length < 8796093022208 then ((spec_l6Rd_pick.f k1 s0_0 t150 5).bind fun bt154 => (spec_l91Melody.l0 k1 (x5_1 ++ [(⟨x7_1, (t149 == 0)⟩ : S29)]) t144 (mx 1 (mn 15 (wrap64 ((wrap64 (x7_1 + bt154.1)) - 2)))) (wrap64 (x8_1 + 1)) s0_0 bt154.2)) else (none)) = some (r1, r2) := H; have A12 := Aside0.mk A120; clear A120; by_cases c13 : x5_1.length < 8796093022208
     ·
      rw [if_pos c13] at H; have LMc13 := Aside0.mk c13; clear c13; obtain ⟨y151, hy151⟩ : ∃ y_ : List (S29), y_ = (x5_1 ++ [(⟨x7_1, (t149 == 0)⟩ : S29)]) := ⟨_, rfl⟩
      replace H : ((spec_l6Rd_pick.f k1 s0_0 t150 5).bind fun bt154 => (spec_l91Melody.l0 k1 y151 t144 (mx 1 (mn 15 (wrap64 ((wrap64 (x7_1 + bt154.1)) - 2)))) (wrap64 (x8_1 + 1)) s0_0 bt154.2)) = some (r1, r2) := by first | (rw [hy151]; with_reducible exact H) | (have H2_ := (Option.bind_some _ _).symm.trans H; rw [hy151]; with_reducible exact H2_) | (have H2_ := (Option.bind_some _ _).symm.trans H; with_reducible exact H2_) | with_reducible exact H | (rw [hy151]; exact H) | exact H
      have Ny151 := Aside0.mk hy151; clear hy151; replace H := Option.bind_eq_some_iff.mp H; obtain ⟨⟨t154, t155⟩, A140, H⟩ := H; replace H : (spec_l91Melody.l0 k1 y151 t144 (mx 1 (mn 15 (wrap64 ((wrap64 (x7_1 + t154)) - 2)))) (wrap64 (x8_1 + 1)) s0_0 t155) = some (r1, r2) := H; have A14 := Aside0.mk A140; clear A140; obtain ⟨ji15, hji15⟩ : ∃ j_ : Int, (mn 15 (wrap64 ((wrap64 (x7_1 + t154)) - 2))) = j_ := ⟨_, rfl⟩
      replace H : (spec_l91Melody.l0 k1 y151 t144 (mx 1 (ji15)) (wrap64 (x8_1 + 1)) s0_0 t155) = some (r1, r2) := by first | (rw [hji15] at H; exact H) | (simp only [hji15] at H ⊢; exact H)
      (try rw [hji15] at A10)
      (try rw [hji15] at A12)
      (try rw [hji15] at A14)
      have hji15_ : (if (wrap64 ((wrap64 (x7_1 + t154)) - 2)) < 15 then (wrap64 ((wrap64 (x7_1 + t154)) - 2)) else 15) = ji15 := hji15; obtain ⟨ji16, hji16⟩ : ∃ j_ : Int, (mx 1 (ji15)) = j_ := ⟨_, rfl⟩
      replace H : (spec_l91Melody.l0 k1 y151 t144 ji16 (wrap64 (x8_1 + 1)) s0_0 t155) = some (r1, r2) := by first | (rw [hji16] at H; exact H) | (simp only [hji16] at H ⊢; exact H)
      (try rw [hji16] at A10)
      (try rw [hji16] at A12)
      (try rw [hji16] at A14)
      have hji16_ : (if 1 < (ji15) then (ji15) else 1) = ji16 := hji16; have H' := Aside0.mk H; clear H; go_wp2_with (first | ((with_reducible refine gate_callee (f := 98) rfl ?_); refine goesL_ (some 25) rfl rfl Tryd.func98 (by kernel_rfl) rfl #[.int .i64 x7_1] rfl (by (try simp only [List.map_toArray, List.map_cons, List.map_nil]); first | done | rfl | (simp only [List.length_drop, List.length_take]; rfl)) ?_; (with_reducible refine (spec_l1Letter.calls x7_1 t148 _ A10.out).mono ?_); rintro e w' ⟨rfl, ⟨nd, rfl⟩⟩; refine ⟨_, rfl, ?_⟩) | (go_at_call 59; (with_reducible refine (spec_l6Rd_pick.calls k1 g s0_0 x1001_1 3 t149 t150 w0 _ ?side1 ?side2 A12.out).mono ?_); (case side1 => repeat (first | (with_reducible first | exact HI0.out | apply IsS98.alloc | apply IsS98.drewN | apply IsS98.drew | apply IsS98.set_1) | exact HI0.out)); (case side2 => repeat (first | (with_reducible first | exact HB.out | apply below_alloc | apply pw_below_drewN | apply below_drew1 | refine below_set ?_ (IsS98.ge HI0.out)) | exact HB.out)); rintro e w17 ⟨rfl, hi, hb, hk⟩; have n0_ := Aside0.mk (Kd.R_mono (Kd.R_keep (IsS98.apart (show IsS98 w0 _ g s0_0 x1001_1 from by repeat (first | (with_reducible first | exact HI0.out | apply IsS98.alloc | apply IsS98.drewN | apply IsS98.drew | apply IsS98.set_1) | exact HI0.out)) (by (with_reducible repeat (first | apply Kd.R_alloc | apply Kd.R_drewN | apply Kd.R_drew)); exact HO_5.out) (by decide)) hk (fun _ h => h.2)) (fun _ h => h.1)); have n1_ := Aside0.mk (KeepBut.trans (by repeat (first | (with_reducible first | exact HK.out | apply KeepBut.set_ | apply keep_drewN | apply keep_drew | apply keep_alloc) | exact HK.out)) hk (.inl rfl)); have n2_ := Aside0.mk (hb); have n3_ := Aside0.mk (hi); clear HO_5; clear HK; clear HB; clear HI0; have HO_5 := n0_; have HK := n1_; have HB := n2_; have HI0 := n3_; clear n0_ n1_ n2_ n3_; (try clear hb); (try clear hb2); (try clear hk); (try clear hi)) | ((with_reducible refine gate_builtin (b := .append) (xs := #[.tmp 22, .tmp 33]) rfl ?_); at_builtin; refine Kd.R_append k29 w.heap.size rfl (.tmp 22) (.tmp 33) 23 29 (.agg #[(.int .i64 0), (.bool false)]) 16 rfl Tryd.underlying23 info29 rfl (by decide) (by omega) u5 x5_1 (⟨x7_1, (t149 == 0)⟩ : S29) [.int .i64 x7_1, .bool (t149 == 0)] (fun _ => True) (fun _ => False) rfl rfl ?aP (fun _ hk => hk.elim) ?aF ?aO (Below.refl _ _) ?aS ?aL ?_; (case aP => exact k29_mkM _ _ _ (⟨x7_1, (t149 == 0)⟩ : S29)); (case aF => exact (fun _ _ => trivial)); (case aO => exact (by (with_reducible repeat (first | apply Kd.R_alloc | apply Kd.R_drewN | apply Kd.R_drew)); exact HO_5.out)); (case aS => exact (keep_size (w := w) (g := g) (row := none) (by repeat (first | (with_reducible first | exact HK.out | apply KeepBut.set_ | apply keep_drewN | apply keep_drew | apply keep_alloc) | exact HK.out)))); (case aL => have := LMc13.out; omega); intro v152 w18 ho hb hg hat; rw [← Ny151.out] at ho; have n0_ := Aside0.mk (IsS98.grown (by repeat (first | (with_reducible first | exact HI0.out | apply IsS98.alloc | apply IsS98.drewN | apply IsS98.drew | apply IsS98.set_1) | exact HI0.out)) hg (IsS98.own_ne HI0.out HO_5.out (by decide))); have n1_ := Aside0.mk (below_weaken (by repeat (first | (with_reducible first | exact HB.out | apply below_alloc | apply pw_below_drewN | apply below_drew1 | refine below_set ?_ (IsS98.ge HI0.out)) | exact HB.out)) HL.out hb); have n2_ := Aside0.mk (KeepBut.trans (by repeat (first | (with_reducible first | exact HK.out | apply KeepBut.set_ | apply keep_drewN | apply keep_drew | apply keep_alloc) | exact HK.out)) (KeepBut.of_grown hg g) (Kd.R_base2 HO_5.out)); have n3_ := Aside0.mk (ho); clear HI0; clear HB; clear HK; clear HO_5; have HI0 := n0_; have HB := n1_; have HK := n2_; have HO153 := n3_; clear n0_ n1_ n2_ n3_; clear ho hb hg hat) | ((with_reducible refine gate_callee (f := 59) rfl ?_); refine goesL_ (some 37) rfl rfl Tryd.func59 (by kernel_rfl) rfl #[.pointer (some ⟨g, 0, none⟩), .int .i64 5] rfl (by (try simp only [List.map_toArray, List.map_cons, List.map_nil]); first | done | rfl | (simp only [List.length_drop, List.length_take]; rfl)) ?_; (with_reducible refine (spec_l6Rd_pick.calls k1 g s0_0 t150 5 t154 t155 w0 _ ?side1 ?side2 A14.out).mono ?_); (case side1 => repeat (first | (with_reducible first | exact HI0.out | apply IsS98.alloc | apply IsS98.drewN | apply IsS98.drew | apply IsS98.set_1) | exact HI0.out)); (case side2 => repeat (first | (with_reducible first | exact HB.out | apply below_alloc | apply pw_below_drewN | apply below_drew1 | refine below_set ?_ (IsS98.ge HI0.out)) | exact HB.out)); rintro e w19 ⟨rfl, hi, hb, hk⟩; refine ⟨_, rfl, ?_⟩; have n0_ := Aside0.mk (Kd.R_mono (Kd.R_keep (IsS98.apart (show IsS98 w0 _ g s0_0 t150 from by repeat (first | (with_reducible first | exact HI0.out | apply IsS98.alloc | apply IsS98.drewN | apply IsS98.drew | apply IsS98.set_1) | exact HI0.out)) (by (with_reducible repeat (first | apply Kd.R_alloc | apply Kd.R_drewN | apply Kd.R_drew)); exact HO153.out) (by decide)) hk (fun _ h => h.2)) (fun _ h => h.1)); have n1_ := Aside0.mk (KeepBut.trans (by repeat (first | (with_reducible first | exact HK.out | apply KeepBut.set_ | apply keep_drewN | apply keep_drew | apply keep_alloc) | exact HK.out)) hk (.inl rfl)); have n2_ := Aside0.mk (hb); have n3_ := Aside0.mk (hi); clear HO153; clear HK; clear HB; clear HI0; have HO153 := n0_; have HK := n1_; have HB := n2_; have HI0 := n3_; clear n0_ n1_ n2_ n3_; (try clear hb); (try clear hb2); (try clear hk); (try clear hi)))
      go_roundg k1
      case measure => have := HK1.out; omega
      case rel => exact ⟨(y151), (ji16), (wrap64 (x8_1 + 1)), (t155), (by first | rfl | (simp; done) | (simp only [← hji16] <;> (first | rfl | simp)) | (simp [*]; done)), (by first | rfl | (simp; done) | (simp [*]; done)), H', ⟨by have := HK1.out; omega⟩, ⟨by (with_reducible repeat (first | apply Kd.R_alloc | apply Kd.R_drewN | apply Kd.R_drew)); exact HO153.out⟩, ⟨by repeat (first | (with_reducible first | exact HI0.out | apply IsS98.alloc | apply IsS98.drewN | apply IsS98.drew | apply IsS98.set_1) | exact HI0.out)⟩, ⟨by repeat (first | (with_reducible first | exact HK.out | apply KeepBut.set_ | apply keep_drewN | apply keep_drew | apply keep_alloc) | exact HK.out)⟩, ⟨by repeat (first | (with_reducible first | exact HB.out | apply below_alloc | apply pw_below_drewN | apply below_drew1 | refine below_set ?_ (IsS98.ge HI0.out)) | exact HB.out)⟩⟩
     ·
      rw [if_neg c13] at H; exact absurd H (by simp)
    ·
     rw [if_neg c11] at H; have c11b0 : (t148 == 2) = false := beq_eq_false_iff_ne.mpr c11; have c11b1 : (t148 != 2) = true := bne_iff_ne.mpr c11; by_cases c20 : x5_1.length < 8796093022208
     ·
      rw [if_pos c20] at H; have LMc20 := Aside0.mk c20; clear c20; obtain ⟨y156, hy156⟩ : ∃ y_ : List (S29), y_ = (x5_1 ++ [(⟨x7_1, false⟩ : S29)]) := ⟨_, rfl⟩
      replace H : ((spec_l6Rd_pick.f k1 s0_0 x1001_1 5).bind fun bt159 => (spec_l91Melody.l0 k1 y156 t144 (mx 1 (mn 15 (wrap64 ((wrap64 (x7_1 + bt159.1)) - 2)))) (wrap64 (x8_1 + 1)) s0_0 bt159.2)) = some (r1, r2) := by first | (rw [hy156]; with_reducible exact H) | (have H2_ := (Option.bind_some _ _).symm.trans H; rw [hy156]; with_reducible exact H2_) | (have H2_ := (Option.bind_some _ _).symm.trans H; with_reducible exact H2_) | with_reducible exact H | (rw [hy156]; exact H) | exact H
      have Ny156 := Aside0.mk hy156; clear hy156; replace H := Option.bind_eq_some_iff.mp H; obtain ⟨⟨t159, t160⟩, A210, H⟩ := H; replace H : (spec_l91Melody.l0 k1 y156 t144 (mx 1 (mn 15 (wrap64 ((wrap64 (x7_1 + t159)) - 2)))) (wrap64 (x8_1 + 1)) s0_0 t160) = some (r1, r2) := H; have A21 := Aside0.mk A210; clear A210; obtain ⟨ji22, hji22⟩ : ∃ j_ : Int, (mn 15 (wrap64 ((wrap64 (x7_1 + t159)) - 2))) = j_ := ⟨_, rfl⟩
      replace H : (spec_l91Melody.l0 k1 y156 t144 (mx 1 (ji22)) (wrap64 (x8_1 + 1)) s0_0 t160) = some (r1, r2) := by first | (rw [hji22] at H; exact H) | (simp only [hji22] at H ⊢; exact H)
      (try rw [hji22] at A10)
      (try rw [hji22] at A21)
      have hji22_ : (if (wrap64 ((wrap64 (x7_1 + t159)) - 2)) < 15 then (wrap64 ((wrap64 (x7_1 + t159)) - 2)) else 15) = ji22 := hji22; obtain ⟨ji23, hji23⟩ : ∃ j_ : Int, (mx 1 (ji22)) = j_ := ⟨_, rfl⟩
      replace H : (spec_l91Melody.l0 k1 y156 t144 ji23 (wrap64 (x8_1 + 1)) s0_0 t160) = some (r1, r2) := by first | (rw [hji23] at H; exact H) | (simp only [hji23] at H ⊢; exact H)
      (try rw [hji23] at A10)
      (try rw [hji23] at A21)
      have hji23_ : (if 1 < (ji22) then (ji22) else 1) = ji23 := hji23; have H' := Aside0.mk H; clear H; go_wp2_with (first | ((with_reducible refine gate_callee (f := 98) rfl ?_); refine goesL_ (some 25) rfl rfl Tryd.func98 (by kernel_rfl) rfl #[.int .i64 x7_1] rfl (by (try simp only [List.map_toArray, List.map_cons, List.map_nil]); first | done | rfl | (simp only [List.length_drop, List.length_take]; rfl)) ?_; (with_reducible refine (spec_l1Letter.calls x7_1 t148 _ A10.out).mono ?_); rintro e w' ⟨rfl, ⟨nd, rfl⟩⟩; refine ⟨_, rfl, ?_⟩) | ((with_reducible refine gate_builtin (b := .append) (xs := #[.tmp 22, .tmp 33]) rfl ?_); at_builtin; refine Kd.R_append k29 w.heap.size rfl (.tmp 22) (.tmp 33) 23 29 (.agg #[(.int .i64 0), (.bool false)]) 16 rfl Tryd.underlying23 info29 rfl (by decide) (by omega) u5 x5_1 (⟨x7_1, false⟩ : S29) [.int .i64 x7_1, .bool false] (fun _ => True) (fun _ => False) rfl rfl ?aP (fun _ hk => hk.elim) ?aF ?aO (Below.refl _ _) ?aS ?aL ?_; (case aP => exact k29_mkM _ _ _ (⟨x7_1, false⟩ : S29)); (case aF => exact (fun _ _ => trivial)); (case aO => exact (by (with_reducible repeat (first | apply Kd.R_alloc | apply Kd.R_drewN | apply Kd.R_drew)); exact HO_5.out)); (case aS => exact (keep_size (w := w) (g := g) (row := none) (by repeat (first | (with_reducible first | exact HK.out | apply KeepBut.set_ | apply keep_drewN | apply keep_drew | apply keep_alloc) | exact HK.out)))); (case aL => have := LMc20.out; omega); intro v157 w24 ho hb hg hat; rw [← Ny156.out] at ho; have n0_ := Aside0.mk (IsS98.grown (by repeat (first | (with_reducible first | exact HI0.out | apply IsS98.alloc | apply IsS98.drewN | apply IsS98.drew | apply IsS98.set_1) | exact HI0.out)) hg (IsS98.own_ne HI0.out HO_5.out (by decide))); have n1_ := Aside0.mk (below_weaken (by repeat (first | (with_reducible first | exact HB.out | apply below_alloc | apply pw_below_drewN | apply below_drew1 | refine below_set ?_ (IsS98.ge HI0.out)) | exact HB.out)) HL.out hb); have n2_ := Aside0.mk (KeepBut.trans (by repeat (first | (with_reducible first | exact HK.out | apply KeepBut.set_ | apply keep_drewN | apply keep_drew | apply keep_alloc) | exact HK.out)) (KeepBut.of_grown hg g) (Kd.R_base2 HO_5.out)); have n3_ := Aside0.mk (ho); clear HI0; clear HB; clear HK; clear HO_5; have HI0 := n0_; have HB := n1_; have HK := n2_; have HO158 := n3_; clear n0_ n1_ n2_ n3_; clear ho hb hg hat) | ((with_reducible refine gate_callee (f := 59) rfl ?_); refine goesL_ (some 37) rfl rfl Tryd.func59 (by kernel_rfl) rfl #[.pointer (some ⟨g, 0, none⟩), .int .i64 5] rfl (by (try simp only [List.map_toArray, List.map_cons, List.map_nil]); first | done | rfl | (simp only [List.length_drop, List.length_take]; rfl)) ?_; (with_reducible refine (spec_l6Rd_pick.calls k1 g s0_0 x1001_1 5 t159 t160 w0 _ ?side1 ?side2 A21.out).mono ?_); (case side1 => repeat (first | (with_reducible first | exact HI0.out | apply IsS98.alloc | apply IsS98.drewN | apply IsS98.drew | apply IsS98.set_1) | exact HI0.out)); (case side2 => repeat (first | (with_reducible first | exact HB.out | apply below_alloc | apply pw_below_drewN | apply below_drew1 | refine below_set ?_ (IsS98.ge HI0.out)) | exact HB.out)); rintro e w25 ⟨rfl, hi, hb, hk⟩; refine ⟨_, rfl, ?_⟩; have n0_ := Aside0.mk (Kd.R_mono (Kd.R_keep (IsS98.apart (show IsS98 w0 _ g s0_0 x1001_1 from by repeat (first | (with_reducible first | exact HI0.out | apply IsS98.alloc | apply IsS98.drewN | apply IsS98.drew | apply IsS98.set_1) | exact HI0.out)) (by (with_reducible repeat (first | apply Kd.R_alloc | apply Kd.R_drewN | apply Kd.R_drew)); exact HO158.out) (by decide)) hk (fun _ h => h.2)) (fun _ h => h.1)); have n1_ := Aside0.mk (KeepBut.trans (by repeat (first | (with_reducible first | exact HK.out | apply KeepBut.set_ | apply keep_drewN | apply keep_drew | apply keep_alloc) | exact HK.out)) hk (.inl rfl)); have n2_ := Aside0.mk (hb); have n3_ := Aside0.mk (hi); clear HO158; clear HK; clear HB; clear HI0; have HO158 := n0_; have HK := n1_; have HB := n2_; have HI0 := n3_; clear n0_ n1_ n2_ n3_; (try clear hb); (try clear hb2); (try clear hk); (try clear hi)))
      go_roundg k1
      case measure => have := HK1.out; omega
      case rel => exact ⟨(y156), (ji23), (wrap64 (x8_1 + 1)), (t160), (by first | rfl | (simp; done) | (simp only [← hji23] <;> (first | rfl | simp)) | (simp [*]; done)), (by first | rfl | (simp; done) | (simp [*]; done)), H', ⟨by have := HK1.out; omega⟩, ⟨by (with_reducible repeat (first | apply Kd.R_alloc | apply Kd.R_drewN | apply Kd.R_drew)); exact HO158.out⟩, ⟨by repeat (first | (with_reducible first | exact HI0.out | apply IsS98.alloc | apply IsS98.drewN | apply IsS98.drew | apply IsS98.set_1) | exact HI0.out)⟩, ⟨by repeat (first | (with_reducible first | exact HK.out | apply KeepBut.set_ | apply keep_drewN | apply keep_drew | apply keep_alloc) | exact HK.out)⟩, ⟨by repeat (first | (with_reducible first | exact HB.out | apply below_alloc | apply pw_below_drewN | apply below_drew1 | refine below_set ?_ (IsS98.ge HI0.out)) | exact HB.out)⟩⟩
     ·
      rw [if_neg c20] at H; exact absurd H (by simp)
   ·
    rw [if_neg c9] at H; have c9b0 : decide (x8_1 < t144) = false := decide_eq_false c9; clear c9; by_cases c26 : t144 > 0
    ·
     rw [if_pos c26] at H; have c26b0 : decide (0 < t144) = true := decide_eq_true c26; clear c26; replace H := Option.bind_eq_some_iff.mp H; obtain ⟨⟨t161, t162⟩, A270, H⟩ := H; replace H : (if t161 = 0 then ((some (([(-1), 21, 20] : List Int) : List Int)).bind fun y163 => ((spec_l6Rd_pick.f k1 s0_0 t162 3).bind fun bt166 => (if 0 ≤ bt166.1 then (if bt166.1 < (y163.length : Int) then (if 0 < (x5_1.length : Int) then (some ((x5_1.set (0 : Int).toNat (⟨rd y163 bt166.1, (rd_T29 x5_1 0).f1⟩ : S29)), bt166.2)) else (none)) else (none)) else (none)))) else (if t161 = 1 then (if 0 ≤ (wrap64 (t144 - 1)) then (if (wrap64 (t144 - 1)) < (x5_1.length : Int) then (some ((x5_1.set ((wrap64 (t144 - 1)) : Int).toNat (⟨(rd_T29 x5_1 (wrap64 (t144 - 1))).f0, true⟩ : S29)), t162)) else (none)) else (none)) else (some (x5_1, t162)))) = some (r1, r2) := H; have A27 := Aside0.mk A270; clear A270; by_cases c28 : t161 = 0
     ·
      rw [if_pos c28] at H; have c28b0 : (t161 == 0) = true := beq_iff_eq.mpr c28; have c28b1 : (t161 != 0) = false := bne_eq_false_iff_eq.mpr c28; clear c28; obtain ⟨y163, hy163⟩ : ∃ y_ : List Int, y_ = (([(-1), 21, 20] : List Int)) := ⟨_, rfl⟩
      replace H : ((spec_l6Rd_pick.f k1 s0_0 t162 3).bind fun bt166 => (if 0 ≤ bt166.1 then (if bt166.1 < (y163.length : Int) then (if 0 < (x5_1.length : Int) then (some ((x5_1.set (0 : Int).toNat (⟨rd y163 bt166.1, (rd_T29 x5_1 0).f1⟩ : S29)), bt166.2)) else (none)) else (none)) else (none))) = some (r1, r2) := by first | (rw [hy163]; with_reducible exact H) | (have H2_ := (Option.bind_some _ _).symm.trans H; rw [hy163]; with_reducible exact H2_) | (have H2_ := (Option.bind_some _ _).symm.trans H; with_reducible exact H2_) | with_reducible exact H | (rw [hy163]; exact H) | exact H
      have Ny163 := Aside0.mk hy163; clear hy163; replace H := Option.bind_eq_some_iff.mp H; obtain ⟨⟨t166, t167⟩, A290, H⟩ := H; replace H : (if 0 ≤ t166 then (if t166 < (y163.length : Int) then (if 0 < (x5_1.length : Int) then (some ((x5_1.set (0 : Int).toNat (⟨rd y163 t166, (rd_T29 x5_1 0).f1⟩ : S29)), t167)) else (none)) else (none)) else (none)) = some (r1, r2) := H; have A29 := Aside0.mk A290; clear A290; by_cases c30 : 0 ≤ t166
      ·
       rw [if_pos c30] at H; have c30b0 : decide (0 ≤ t166) = true := decide_eq_true c30; clear c30; by_cases c31 : t166 < (y163.length : Int)
       ·
        rw [if_pos c31] at H; have c31b0 : decide (t166 < (y163.length : Int)) = true := decide_eq_true c31; clear c31; by_cases c32 : 0 < (x5_1.length : Int)
        ·
         rw [if_pos c32] at H; have c32b0 : decide (0 < (x5_1.length : Int)) = true := decide_eq_true c32; have c32b1 : decide (0 < x5_1.length) = true := decide_eq_true (by omega); clear c32; obtain ⟨y169, hy169⟩ : ∃ y_ : List (S29), y_ = (x5_1.set (0 : Int).toNat (⟨rd y163 t166, (rd_T29 x5_1 0).f1⟩ : S29)) := ⟨_, rfl⟩
         replace H : (some (y169, t167)) = some (r1, r2) := by first | (rw [hy169]; with_reducible exact H) | (have H2_ := (Option.bind_some _ _).symm.trans H; rw [hy169]; with_reducible exact H2_) | (have H2_ := (Option.bind_some _ _).symm.trans H; with_reducible exact H2_) | with_reducible exact H | (rw [hy169]; exact H) | exact H
         have Ny169 := Aside0.mk hy169; clear hy169; simp only [Option.some.injEq, Prod.mk.injEq] at H; obtain ⟨rfl, rfl⟩ := H; go_wp2_with (first | ((with_reducible refine gate_callee (f := 59) rfl ?_); refine goesL_ (some 45) rfl rfl Tryd.func59 (by kernel_rfl) rfl #[.pointer (some ⟨g, 0, none⟩), .int .i64 50] rfl (by (try simp only [List.map_toArray, List.map_cons, List.map_nil]); first | done | rfl | (simp only [List.length_drop, List.length_take]; rfl)) ?_; (with_reducible refine (spec_l6Rd_pick.calls k1 g s0_0 x1001_1 50 t161 t162 w0 _ ?side1 ?side2 A27.out).mono ?_); (case side1 => repeat (first | (with_reducible first | exact HI0.out | apply IsS98.alloc | apply IsS98.drewN | apply IsS98.drew | apply IsS98.set_1) | exact HI0.out)); (case side2 => repeat (first | (with_reducible first | exact HB.out | apply below_alloc | apply pw_below_drewN | apply below_drew1 | refine below_set ?_ (IsS98.ge HI0.out)) | exact HB.out)); rintro e w34 ⟨rfl, hi, hb, hk⟩; refine ⟨_, rfl, ?_⟩; have n0_ := Aside0.mk (Kd.R_mono (Kd.R_keep (IsS98.apart (show IsS98 w0 _ g s0_0 x1001_1 from by repeat (first | (with_reducible first | exact HI0.out | apply IsS98.alloc | apply IsS98.drewN | apply IsS98.drew | apply IsS98.set_1) | exact HI0.out)) (by (with_reducible repeat (first | apply Kd.R_alloc | apply Kd.R_drewN | apply Kd.R_drew)); exact HO_5.out) (by decide)) hk (fun _ h => h.2)) (fun _ h => h.1)); have n1_ := Aside0.mk (KeepBut.trans (by repeat (first | (with_reducible first | exact HK.out | apply KeepBut.set_ | apply keep_drewN | apply keep_drew | apply keep_alloc) | exact HK.out)) hk (.inl rfl)); have n2_ := Aside0.mk (hb); have n3_ := Aside0.mk (hi); clear HO_5; clear HK; clear HB; clear HI0; have HO_5 := n0_; have HK := n1_; have HB := n2_; have HI0 := n3_; clear n0_ n1_ n2_ n3_; (try clear hb); (try clear hb2); (try clear hk); (try clear hi)) | ((with_reducible refine gate_dst (N := 49) rfl ?_); refine Kd.R_lit (Kd.int .i64) _ 3 ?hg (N := 49) ?hd (xs := ([(-1), 21, 20] : List Int)) (inner := [.int .i64 (-1), .int .i64 21, .int .i64 20]) (ok := fun _ => True) (okp := fun _ => True) ?hr ?hp (fun _ hk => hk) trivial (Below.refl _ _) (Nat.le_refl _) (by simp) ?_; (case hd => rfl); (case hg => rfl); (case hr => first | (go_simp; done) | (go_simp; rfl)); (case hp => exact (Reps.one (show Kd.M (Kd.int .i64) _ _ _ (-1) [.int .i64 (-1)] from rfl) (Reps.one (show Kd.M (Kd.int .i64) _ _ _ 21 [.int .i64 21] from rfl) (Reps.one (show Kd.M (Kd.int .i64) _ _ _ 20 [.int .i64 20] from rfl) (Reps.none _ _))))); intro v164 w35 ho36 hb hg_ hnew_; clear hg_ hnew_; (first | rw [← Ny163.out] at ho36 | (simp only [Int.reduceToNat] at ho36; rw [← Ny163.out] at ho36)); have n0_ := Aside0.mk (Kd.R_below (by (with_reducible repeat (first | apply Kd.R_alloc | apply Kd.R_drewN | apply Kd.R_drew)); exact HO_5.out) hb); have n1_ := Aside0.mk (Kd.R_lower ho36 (keep_size (w := w) (g := g) (row := none) (by repeat (first | (with_reducible first | exact HK.out | apply KeepBut.set_ | apply keep_drewN | apply keep_drew | apply keep_alloc) | exact HK.out)))); have n2_ := Aside0.mk (IsS98.below (by repeat (first | (with_reducible first | exact HI0.out | apply IsS98.alloc | apply IsS98.drewN | apply IsS98.drew | apply IsS98.set_1) | exact HI0.out)) hb); have n3_ := Aside0.mk (KeepBut.trans (by repeat (first | (with_reducible first | exact HK.out | apply KeepBut.set_ | apply keep_drewN | apply keep_drew | apply keep_alloc) | exact HK.out)) (KeepBut.of_below hb g none) (.inl rfl)); have n4_ := Aside0.mk (below_step (by repeat (first | (with_reducible first | exact HB.out | apply below_alloc | apply pw_below_drewN | apply below_drew1 | refine below_set ?_ (IsS98.ge HI0.out)) | exact HB.out)) hb); clear HO_5; clear HI0; clear HK; clear HB; have HO_5 := n0_; have HO165 := n1_; have HI0 := n2_; have HK := n3_; have HB := n4_; clear n0_ n1_ n2_ n3_ n4_; clear hb ho36) | ((with_reducible refine gate_callee (f := 59) rfl ?_); refine goesL_ (some 51) rfl rfl Tryd.func59 (by kernel_rfl) rfl #[.pointer (some ⟨g, 0, none⟩), .int .i64 3] rfl (by (try simp only [List.map_toArray, List.map_cons, List.map_nil]); first | done | rfl | (simp only [List.length_drop, List.length_take]; rfl)) ?_; (with_reducible refine (spec_l6Rd_pick.calls k1 g s0_0 t162 3 t166 t167 w0 _ ?side1 ?side2 A29.out).mono ?_); (case side1 => repeat (first | (with_reducible first | exact HI0.out | apply IsS98.alloc | apply IsS98.drewN | apply IsS98.drew | apply IsS98.set_1) | exact HI0.out)); (case side2 => repeat (first | (with_reducible first | exact HB.out | apply below_alloc | apply pw_below_drewN | apply below_drew1 | refine below_set ?_ (IsS98.ge HI0.out)) | exact HB.out)); rintro e w37 ⟨rfl, hi, hb, hk⟩; refine ⟨_, rfl, ?_⟩; have n0_ := Aside0.mk (Kd.R_mono (Kd.R_keep (IsS98.apart (show IsS98 w0 _ g s0_0 t162 from by repeat (first | (with_reducible first | exact HI0.out | apply IsS98.alloc | apply IsS98.drewN | apply IsS98.drew | apply IsS98.set_1) | exact HI0.out)) (by (with_reducible repeat (first | apply Kd.R_alloc | apply Kd.R_drewN | apply Kd.R_drew)); exact HO_5.out) (by decide)) hk (fun _ h => h.2)) (fun _ h => h.1)); have n1_ := Aside0.mk (Kd.R_mono (Kd.R_keep (IsS98.apart (show IsS98 w0 _ g s0_0 t162 from by repeat (first | (with_reducible first | exact HI0.out | apply IsS98.alloc | apply IsS98.drewN | apply IsS98.drew | apply IsS98.set_1) | exact HI0.out)) (by (with_reducible repeat (first | apply Kd.R_alloc | apply Kd.R_drewN | apply Kd.R_drew)); exact HO165.out) (by decide)) hk (fun _ h => h.2)) (fun _ h => h.1)); have n2_ := Aside0.mk (KeepBut.trans (by repeat (first | (with_reducible first | exact HK.out | apply KeepBut.set_ | apply keep_drewN | apply keep_drew | apply keep_alloc) | exact HK.out)) hk (.inl rfl)); have n3_ := Aside0.mk (hb); have n4_ := Aside0.mk (hi); clear HO_5; clear HO165; clear HK; clear HB; clear HI0; have HO_5 := n0_; have HO165 := n1_; have HK := n2_; have HB := n3_; have HI0 := n4_; clear n0_ n1_ n2_ n3_ n4_; (try clear hb); (try clear hb2); (try clear hk); (try clear hi); obtain ⟨Ao38, co38, eo38⟩ := Kd.R_slice HO165.out; subst eo38; have p168 : 0 ≤ (t166 : Int) := of_decide_eq_true (by first | (with_reducible assumption) | assumption); have q168 : t166 < (y163.length : Int) := of_decide_eq_true (by first | (with_reducible assumption) | assumption); obtain ⟨ad168, e168, hx168_0⟩ := Kd.at_int (Kd.R_reads' HO165.out).2.2 t166 p168 q168; cases e168; replace p168 := eq_true p168; replace q168 := eq_true q168; have p33 : 0 ≤ (0 : Int) := (by omega); have q33 : (0 : Int) < ((x5_1.length : Int) : Int) := of_decide_eq_true (by first | (with_reducible assumption) | assumption); have qi33 : (0 < x5_1.length) = True := eq_true (by omega); obtain ⟨go33, co33, eo33, gb33, gl33, cl33, HG33⟩ := Kd.R_form HO_5.out (by omega); (first | cases eo33 | (injection eo33 with ea_ en_ ec_; (first | subst ea_ | (injection ea_ with ea_; subst ea_)); subst ec_; clear en_)); have GB33 := Aside0.mk gb33; have GG33 := Aside0.mk HG33; clear gb33 gl33 HG33; obtain ⟨ce33, hcl33, hM33, hcc33, hfr33⟩ := Kd.R_elem HO_5.out z29 (0 : Int) p33 q33; obtain rfl := k29_openM hM33; have hx33_0 : w37.cell? ⟨go33, (0 : Int).toNat * 2, none⟩ = some (.int .i64 ((rd_T29 x5_1 0).f0)) := hcc33 0 _ rfl; have hx33_1 : w37.cell? ⟨go33, (0 : Int).toNat * 2 + 1, none⟩ = some (.bool ((rd_T29 x5_1 0).f1)) := hcc33 1 _ rfl; have hf33_0 : w37.frozen? ⟨go33, (0 : Int).toNat * 2, none⟩ = false := hfr33 0; have hf33_1 : w37.frozen? ⟨go33, (0 : Int).toNat * 2 + 1, none⟩ = false := hfr33 1; clear hcl33 hcc33 hfr33 hM33; (try rw [show ((0 : Int)).toNat = 0 from rfl] at hx33_0); (try simp only [Nat.reduceMul, Nat.zero_mul, Nat.zero_add, Nat.reduceAdd] at hx33_0); (try rw [show ((0 : Int)).toNat = 0 from rfl] at hf33_0); (try simp only [Nat.reduceMul, Nat.zero_mul, Nat.zero_add, Nat.reduceAdd] at hf33_0); (try rw [show ((0 : Int)).toNat = 0 from rfl] at hx33_1); (try simp only [Nat.reduceMul, Nat.zero_mul, Nat.zero_add, Nat.reduceAdd] at hx33_1); (try rw [show ((0 : Int)).toNat = 0 from rfl] at hf33_1); (try simp only [Nat.reduceMul, Nat.zero_mul, Nat.zero_add, Nat.reduceAdd] at hf33_1); replace p33 := eq_true p33; replace q33 := eq_true q33; have HX39 := Aside0.mk (show Kd.R k29 29 w37 w.heap.size (fun _ => True) (.slice (some ⟨go33, 0, none⟩) x5_1.length co33) x5_1 from (by (with_reducible repeat (first | apply Kd.R_alloc | apply Kd.R_drewN | apply Kd.R_drew)); exact HO_5.out)); obtain ⟨ce39, hcl39, hM39, hcc39, hfr39⟩ := Kd.R_elem HX39.out z29 (0 : Int) (by omega) (by have h_ : (0 : Int) < ((x5_1.length : Int) : Int) := of_decide_eq_true (by first | (with_reducible assumption) | assumption); first | exact h_ | (have e_ := (Kd.R_reads' HO_5.out).1; omega) | simpa using h_); obtain rfl := k29_openM hM39; have HP39 := Kd.R_seg HX39.out (0 : Int) (by omega) (by have h_ : (0 : Int) < ((x5_1.length : Int) : Int) := of_decide_eq_true (by first | (with_reducible assumption) | assumption); first | exact h_ | (have e_ := (Kd.R_reads' HO_5.out).1; omega) | simpa using h_) (seg := [.int .i64 (rd y163 t166)]) (j := 0) hcl39 hcc39 (show 1 ≤ 2 from by decide) (x' := (⟨rd y163 t166, (rd_T29 x5_1 0).f1⟩ : S29)) (k29_mkM _ _ _ (⟨rd y163 t166, (rd_T29 x5_1 0).f1⟩ : S29) ) (fun _ hk => hk); have hx39_0 := hcc39 0 _ rfl; (try simp only [show (k29).sz = 2 from rfl, Nat.mul_one, Nat.add_zero] at hx39_0); (try rw [show ((0 : Int)).toNat = 0 from rfl] at hx39_0); (try simp only [Nat.reduceMul, Nat.zero_mul, Nat.zero_add, Nat.reduceAdd] at hx39_0); have hf39_0 := hfr39 0; (try simp only [show (k29).sz = 2 from rfl, Nat.mul_one, Nat.add_zero] at hf39_0); (try rw [show ((0 : Int)).toNat = 0 from rfl] at hf39_0); (try simp only [Nat.reduceMul, Nat.zero_mul, Nat.zero_add, Nat.reduceAdd] at hf39_0); clear hcl39 hcc39 hfr39 hM39) | ((with_reducible refine gate_store (t := 3) (p := 55) rfl ?_); refine store_event (t := 3) (p := 55) (v := ?vo_w40) (w1 := (w37.setCell ⟨go33, 0, none⟩ (.int .i64 (rd y163 t166)))) ?hg ?ho ?hn ?hr ?_; (case ho => rfl); (case hg => rfl); (case hn => rfl); (case hr => first | (go_simp; done) | (go_simp; rfl)); intro w40 hw; have hg : w37.grownBy w40 (some go33) := (by rw [hw]; exact HP39.2); have hp_ : Kd.R k29 29 w40 w.heap.size (fun _ => True) (.slice (some ⟨go33, 0, none⟩) x5_1.length co33) y169 := (by rw [hw, Ny169.out]; exact HP39.1); clear HP39; have n0_ := Aside0.mk (hp_); have n1_ := Aside0.mk (IsS98.grown (by repeat (first | (with_reducible first | exact HI0.out | apply IsS98.alloc | apply IsS98.drewN | apply IsS98.drew | apply IsS98.set_1) | exact HI0.out)) hg (IsS98.own_ne HI0.out HO_5.out (by decide))); have n2_ := Aside0.mk (Kd.R_over' (v := (.slice (some ⟨go33, 0, none⟩) x5_1.length co33)) (by (with_reducible repeat (first | apply Kd.R_alloc | apply Kd.R_drewN | apply Kd.R_drew)); exact HO165.out) (Kd.R_typed HO_5.out) (by decide) hg); have n3_ := Aside0.mk ((by rw [hw]; exact below_set (HB.out) (Nat.le_trans HL.out GB33.out) : Below w0.heap.size w0 w40)); have n4_ := Aside0.mk (KeepBut.trans (by repeat (first | (with_reducible first | exact HK.out | apply KeepBut.set_ | apply keep_drewN | apply keep_drew | apply keep_alloc) | exact HK.out)) (KeepBut.of_grown hg g) (Kd.R_base2 HO_5.out)); clear HO_5; clear HI0; clear HO165; clear HB; clear HK; have HO_5 := n0_; have HI0 := n1_; have HO165 := n2_; have HB := n3_; have HK := n4_; clear n0_ n1_ n2_ n3_ n4_; clear hg hw hp_))
         go_ret
         exact ⟨_, by first | rfl | (simp [errW_none, errW_some] <;> rfl) | (simp [*, errW_none, errW_some] <;> rfl), by (with_reducible repeat (first | apply Kd.R_alloc | apply Kd.R_drewN | apply Kd.R_drew)); exact HO_5.out, by repeat (first | (with_reducible first | exact HI0.out | apply IsS98.alloc | apply IsS98.drewN | apply IsS98.drew | apply IsS98.set_1) | exact HI0.out), by repeat (first | (with_reducible first | exact HB.out | apply below_alloc | apply pw_below_drewN | apply below_drew1 | refine below_set ?_ (IsS98.ge HI0.out)) | exact HB.out), by repeat (first | (with_reducible first | exact HK.out | apply KeepBut.set_ | apply keep_drewN | apply keep_drew | apply keep_alloc) | exact HK.out)⟩
        ·
         rw [if_neg c32] at H; exact absurd H (by simp)
       ·
        rw [if_neg c31] at H; exact absurd H (by simp)
      ·
       rw [if_neg c30] at H; exact absurd H (by simp)
     ·
      rw [if_neg c28] at H; have c28b0 : (t161 == 0) = false := beq_eq_false_iff_ne.mpr c28; have c28b1 : (t161 != 0) = true := bne_iff_ne.mpr c28; by_cases c41 : t161 = 1
      ·
       rw [if_pos c41] at H; have c41b0 : (t161 == 1) = true := beq_iff_eq.mpr c41; have c41b1 : (t161 != 1) = false := bne_eq_false_iff_eq.mpr c41; clear c41; obtain ⟨ji42, hji42⟩ : ∃ j_ : Int, (wrap64 (t144 - 1)) = j_ := ⟨_, rfl⟩
       replace H : (if 0 ≤ (ji42) then (if (ji42) < (x5_1.length : Int) then (some ((x5_1.set ((ji42) : Int).toNat (⟨(rd_T29 x5_1 (ji42)).f0, true⟩ : S29)), t162)) else (none)) else (none)) = some (r1, r2) := by first | (rw [hji42] at H; exact H) | (simp only [hji42] at H ⊢; exact H)
       (try rw [hji42] at A27)
       have hji42w : (IntKind.i64.wrap (t144 - 1)) = ji42 := (i64_w _).trans hji42; by_cases c43 : 0 ≤ (ji42)
       ·
        rw [if_pos c43] at H; have c43b0 : decide (0 ≤ (ji42)) = true := decide_eq_true c43; clear c43; by_cases c44 : (ji42) < (x5_1.length : Int)
        ·
         rw [if_pos c44] at H; have c44b0 : decide ((ji42) < (x5_1.length : Int)) = true := decide_eq_true c44; clear c44; obtain ⟨y170, hy170⟩ : ∃ y_ : List (S29), y_ = (x5_1.set ((ji42) : Int).toNat (⟨(rd_T29 x5_1 (ji42)).f0, true⟩ : S29)) := ⟨_, rfl⟩
         replace H : (some (y170, t162)) = some (r1, r2) := by first | (rw [hy170]; with_reducible exact H) | (have H2_ := (Option.bind_some _ _).symm.trans H; rw [hy170]; with_reducible exact H2_) | (have H2_ := (Option.bind_some _ _).symm.trans H; with_reducible exact H2_) | with_reducible exact H | (rw [hy170]; exact H) | exact H
         have Ny170 := Aside0.mk hy170; clear hy170; simp only [Option.some.injEq, Prod.mk.injEq] at H; obtain ⟨rfl, rfl⟩ := H; go_wp2_with (first | ((with_reducible refine gate_callee (f := 59) rfl ?_); refine goesL_ (some 45) rfl rfl Tryd.func59 (by kernel_rfl) rfl #[.pointer (some ⟨g, 0, none⟩), .int .i64 50] rfl (by (try simp only [List.map_toArray, List.map_cons, List.map_nil]); first | done | rfl | (simp only [List.length_drop, List.length_take]; rfl)) ?_; (with_reducible refine (spec_l6Rd_pick.calls k1 g s0_0 x1001_1 50 t161 t162 w0 _ ?side1 ?side2 A27.out).mono ?_); (case side1 => repeat (first | (with_reducible first | exact HI0.out | apply IsS98.alloc | apply IsS98.drewN | apply IsS98.drew | apply IsS98.set_1) | exact HI0.out)); (case side2 => repeat (first | (with_reducible first | exact HB.out | apply below_alloc | apply pw_below_drewN | apply below_drew1 | refine below_set ?_ (IsS98.ge HI0.out)) | exact HB.out)); rintro e w46 ⟨rfl, hi, hb, hk⟩; refine ⟨_, rfl, ?_⟩; have n0_ := Aside0.mk (Kd.R_mono (Kd.R_keep (IsS98.apart (show IsS98 w0 _ g s0_0 x1001_1 from by repeat (first | (with_reducible first | exact HI0.out | apply IsS98.alloc | apply IsS98.drewN | apply IsS98.drew | apply IsS98.set_1) | exact HI0.out)) (by (with_reducible repeat (first | apply Kd.R_alloc | apply Kd.R_drewN | apply Kd.R_drew)); exact HO_5.out) (by decide)) hk (fun _ h => h.2)) (fun _ h => h.1)); have n1_ := Aside0.mk (KeepBut.trans (by repeat (first | (with_reducible first | exact HK.out | apply KeepBut.set_ | apply keep_drewN | apply keep_drew | apply keep_alloc) | exact HK.out)) hk (.inl rfl)); have n2_ := Aside0.mk (hb); have n3_ := Aside0.mk (hi); clear HO_5; clear HK; clear HB; clear HI0; have HO_5 := n0_; have HK := n1_; have HB := n2_; have HI0 := n3_; clear n0_ n1_ n2_ n3_; (try clear hb); (try clear hb2); (try clear hk); (try clear hi); have p45 : 0 ≤ ((ji42) : Int) := of_decide_eq_true (by first | (with_reducible assumption) | assumption); have q45 : ((ji42) : Int) < ((x5_1.length : Int) : Int) := of_decide_eq_true (by first | (with_reducible assumption) | assumption); obtain ⟨go45, co45, eo45, gb45, gl45, cl45, HG45⟩ := Kd.R_form HO_5.out (by omega); (first | cases eo45 | (injection eo45 with ea_ en_ ec_; (first | subst ea_ | (injection ea_ with ea_; subst ea_)); subst ec_; clear en_)); have GB45 := Aside0.mk gb45; have GG45 := Aside0.mk HG45; clear gb45 gl45 HG45; obtain ⟨ce45, hcl45, hM45, hcc45, hfr45⟩ := Kd.R_elem HO_5.out z29 ((ji42) : Int) p45 q45; obtain rfl := k29_openM hM45; have hx45_0 : w46.cell? ⟨go45, ((ji42) : Int).toNat * 2, none⟩ = some (.int .i64 ((rd_T29 x5_1 (ji42)).f0)) := hcc45 0 _ rfl; have hx45_1 : w46.cell? ⟨go45, ((ji42) : Int).toNat * 2 + 1, none⟩ = some (.bool ((rd_T29 x5_1 (ji42)).f1)) := hcc45 1 _ rfl; have hf45_0 : w46.frozen? ⟨go45, ((ji42) : Int).toNat * 2, none⟩ = false := hfr45 0; have hf45_1 : w46.frozen? ⟨go45, ((ji42) : Int).toNat * 2 + 1, none⟩ = false := hfr45 1; clear hcl45 hcc45 hfr45 hM45; replace p45 := eq_true p45; replace q45 := eq_true q45; have HX47 := Aside0.mk (show Kd.R k29 29 w46 w.heap.size (fun _ => True) (.slice (some ⟨go45, 0, none⟩) x5_1.length co45) x5_1 from (by (with_reducible repeat (first | apply Kd.R_alloc | apply Kd.R_drewN | apply Kd.R_drew)); exact HO_5.out)); obtain ⟨ce47, hcl47, hM47, hcc47, hfr47⟩ := Kd.R_elem HX47.out z29 ((ji42) : Int) (of_decide_eq_true (by first | (with_reducible assumption) | assumption)) (by have h_ : ((ji42) : Int) < ((x5_1.length : Int) : Int) := of_decide_eq_true (by first | (with_reducible assumption) | assumption); first | exact h_ | (have e_ := (Kd.R_reads' HO_5.out).1; omega) | simpa using h_); obtain rfl := k29_openM hM47; have HP47 := Kd.R_seg HX47.out ((ji42) : Int) (of_decide_eq_true (by first | (with_reducible assumption) | assumption)) (by have h_ : ((ji42) : Int) < ((x5_1.length : Int) : Int) := of_decide_eq_true (by first | (with_reducible assumption) | assumption); first | exact h_ | (have e_ := (Kd.R_reads' HO_5.out).1; omega) | simpa using h_) (seg := [.bool true]) (j := 1) hcl47 hcc47 (show 2 ≤ 2 from by decide) (x' := (⟨(rd_T29 x5_1 (ji42)).f0, true⟩ : S29)) (k29_mkM _ _ _ (⟨(rd_T29 x5_1 (ji42)).f0, true⟩ : S29) ) (fun _ hk => hk); have hx47_1 := hcc47 1 _ rfl; (try simp only [show (k29).sz = 2 from rfl, Nat.mul_one, Nat.add_zero] at hx47_1); have hf47_1 := hfr47 1; (try simp only [show (k29).sz = 2 from rfl, Nat.mul_one, Nat.add_zero] at hf47_1); clear hcl47 hcc47 hfr47 hM47) | ((with_reducible refine gate_store (t := 4) (p := 62) rfl ?_); refine store_event (t := 4) (p := 62) (v := ?vo_w48) (w1 := (w46.setCell ⟨go45, ((ji42) : Int).toNat * 2 + 1, none⟩ (.bool true))) ?hg ?ho ?hn ?hr ?_; (case ho => rfl); (case hg => rfl); (case hn => rfl); (case hr => first | (go_simp; done) | (go_simp; rfl)); intro w48 hw; have hg : w46.grownBy w48 (some go45) := (by rw [hw]; exact HP47.2); have hp_ : Kd.R k29 29 w48 w.heap.size (fun _ => True) (.slice (some ⟨go45, 0, none⟩) x5_1.length co45) y170 := (by rw [hw, Ny170.out]; exact HP47.1); clear HP47; have n0_ := Aside0.mk (hp_); have n1_ := Aside0.mk (IsS98.grown (by repeat (first | (with_reducible first | exact HI0.out | apply IsS98.alloc | apply IsS98.drewN | apply IsS98.drew | apply IsS98.set_1) | exact HI0.out)) hg (IsS98.own_ne HI0.out HO_5.out (by decide))); have n2_ := Aside0.mk ((by rw [hw]; exact below_set (HB.out) (Nat.le_trans HL.out GB45.out) : Below w0.heap.size w0 w48)); have n3_ := Aside0.mk (KeepBut.trans (by repeat (first | (with_reducible first | exact HK.out | apply KeepBut.set_ | apply keep_drewN | apply keep_drew | apply keep_alloc) | exact HK.out)) (KeepBut.of_grown hg g) (Kd.R_base2 HO_5.out)); clear HO_5; clear HI0; clear HB; clear HK; have HO_5 := n0_; have HI0 := n1_; have HB := n2_; have HK := n3_; clear n0_ n1_ n2_ n3_; clear hg hw hp_))
         go_ret
         exact ⟨_, by first | rfl | (simp [errW_none, errW_some] <;> rfl) | (simp only [← hji42]; first | rfl | (simp [errW_none, errW_some] <;> rfl)) | (simp [*, errW_none, errW_some] <;> rfl), by (with_reducible repeat (first | apply Kd.R_alloc | apply Kd.R_drewN | apply Kd.R_drew)); exact HO_5.out, by repeat (first | (with_reducible first | exact HI0.out | apply IsS98.alloc | apply IsS98.drewN | apply IsS98.drew | apply IsS98.set_1) | exact HI0.out), by repeat (first | (with_reducible first | exact HB.out | apply below_alloc | apply pw_below_drewN | apply below_drew1 | refine below_set ?_ (IsS98.ge HI0.out)) | exact HB.out), by repeat (first | (with_reducible first | exact HK.out | apply KeepBut.set_ | apply keep_drewN | apply keep_drew | apply keep_alloc) | exact HK.out)⟩
        ·
         rw [if_neg c44] at H; exact absurd H (by simp)
       ·
        rw [if_neg c43] at H; exact absurd H (by simp)
      ·
       rw [if_neg c41] at H; have c41b0 : (t161 == 1) = false := beq_eq_false_iff_ne.mpr c41; have c41b1 : (t161 != 1) = true := bne_iff_ne.mpr c41; simp only [Option.some.injEq, Prod.mk.injEq] at H; obtain ⟨rfl, rfl⟩ := H; go_wp2_with (first | ((with_reducible refine gate_callee (f := 59) rfl ?_); refine goesL_ (some 45) rfl rfl Tryd.func59 (by kernel_rfl) rfl #[.pointer (some ⟨g, 0, none⟩), .int .i64 50] rfl (by (try simp only [List.map_toArray, List.map_cons, List.map_nil]); first | done | rfl | (simp only [List.length_drop, List.length_take]; rfl)) ?_; (with_reducible refine (spec_l6Rd_pick.calls k1 g s0_0 x1001_1 50 t161 t162 w0 _ ?side1 ?side2 A27.out).mono ?_); (case side1 => repeat (first | (with_reducible first | exact HI0.out | apply IsS98.alloc | apply IsS98.drewN | apply IsS98.drew | apply IsS98.set_1) | exact HI0.out)); (case side2 => repeat (first | (with_reducible first | exact HB.out | apply below_alloc | apply pw_below_drewN | apply below_drew1 | refine below_set ?_ (IsS98.ge HI0.out)) | exact HB.out)); rintro e w49 ⟨rfl, hi, hb, hk⟩; refine ⟨_, rfl, ?_⟩; have n0_ := Aside0.mk (Kd.R_mono (Kd.R_keep (IsS98.apart (show IsS98 w0 _ g s0_0 x1001_1 from by repeat (first | (with_reducible first | exact HI0.out | apply IsS98.alloc | apply IsS98.drewN | apply IsS98.drew | apply IsS98.set_1) | exact HI0.out)) (by (with_reducible repeat (first | apply Kd.R_alloc | apply Kd.R_drewN | apply Kd.R_drew)); exact HO_5.out) (by decide)) hk (fun _ h => h.2)) (fun _ h => h.1)); have n1_ := Aside0.mk (KeepBut.trans (by repeat (first | (with_reducible first | exact HK.out | apply KeepBut.set_ | apply keep_drewN | apply keep_drew | apply keep_alloc) | exact HK.out)) hk (.inl rfl)); have n2_ := Aside0.mk (hb); have n3_ := Aside0.mk (hi); clear HO_5; clear HK; clear HB; clear HI0; have HO_5 := n0_; have HK := n1_; have HB := n2_; have HI0 := n3_; clear n0_ n1_ n2_ n3_; (try clear hb); (try clear hb2); (try clear hk); (try clear hi)))
       go_ret
       exact ⟨_, by first | rfl | (simp [errW_none, errW_some] <;> rfl) | (simp [*, errW_none, errW_some] <;> rfl), by (with_reducible repeat (first | apply Kd.R_alloc | apply Kd.R_drewN | apply Kd.R_drew)); exact HO_5.out, by repeat (first | (with_reducible first | exact HI0.out | apply IsS98.alloc | apply IsS98.drewN | apply IsS98.drew | apply IsS98.set_1) | exact HI0.out), by repeat (first | (with_reducible first | exact HB.out | apply below_alloc | apply pw_below_drewN | apply below_drew1 | refine below_set ?_ (IsS98.ge HI0.out)) | exact HB.out), by repeat (first | (with_reducible first | exact HK.out | apply KeepBut.set_ | apply keep_drewN | apply keep_drew | apply keep_alloc) | exact HK.out)⟩
    ·
     rw [if_neg c26] at H; have c26b0 : decide (0 < t144) = false := decide_eq_false c26; clear c26; simp only [Option.some.injEq, Prod.mk.injEq] at H; obtain ⟨rfl, rfl⟩ := H; go_wp2; go_ret
     exact ⟨_, by first | rfl | (simp [errW_none, errW_some] <;> rfl) | (simp [*, errW_none, errW_some] <;> rfl), by (with_reducible repeat (first | apply Kd.R_alloc | apply Kd.R_drewN | apply Kd.R_drew)); exact HO_5.out, by repeat (first | (with_reducible first | exact HI0.out | apply IsS98.alloc | apply IsS98.drewN | apply IsS98.drew | apply IsS98.set_1) | exact HI0.out), by repeat (first | (with_reducible first | exact HB.out | apply below_alloc | apply pw_below_drewN | apply below_drew1 | refine below_set ?_ (IsS98.ge HI0.out)) | exact HB.out), by repeat (first | (with_reducible first | exact HK.out | apply KeepBut.set_ | apply keep_drewN | apply keep_drew | apply keep_alloc) | exact HK.out)⟩

end Go.Proofs.YthhnaplmjpacnaaDoor.PFnModeMoves
