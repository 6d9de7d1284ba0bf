/- Lemmas for the law FnExactSingBest. -/
import Derived.Test.YtiagfjbngpbejaaDoorProg
import Derived.BigRegion
import Derived.Deep.Slices
import Derived.Laws.CopyOwn
import Derived.StillTailTactics
import Derived.Test.YtiagfjbngpbejaaDoorSFnExactSingBests0
namespace Go.Proofs.YtiagfjbngpbejaaDoor.PFnExactSingBest
open Go.RowKit Go.Proofs.YtiagfjbngpbejaaDoorW.PrintWords Go.Proofs.YtiagfjbngpbejaaDoorW.PrintLast Go.Proofs.YtiagfjbngpbejaaDoorW.PrintMore
attribute [local go_sem] max2_int min2_int max_two min_two max_three min_three max_four min_four   -- for this text's walks alone
set_option linter.unusedVariables false
set_option linter.unusedSimpArgs false



def errW : Option Int → Value
 | none => .nilIface
 | some c => .iface 0 (.int .i64 c)
theorem errW_none : errW none = .nilIface := rfl
theorem errW_some (c : Int) : errW (some c) = .iface 0 (.int .i64 c) := rfl

theorem info3 : (Tryd.prog.info? 3).map (fun i => (i.zero, i.size, i.bytes)) = some (some (.int .i64 0), 1, 8) := by kernel_rfl
theorem info26 : (Tryd.prog.info? 26).map (fun i => (i.zero, i.size, i.bytes)) = some (some (.slice none 0 0), 1, 24) := by kernel_rfl
theorem info29 : (Tryd.prog.info? 29).map (fun i => (i.zero, i.size, i.bytes)) = some (some (.agg #[(.int .i64 0), (.bool false)]), 2, 16) := by kernel_rfl
structure S29 where
 f0 : Int
 f1 : Bool
def z29 : S29 := ⟨(0 : Int), false⟩
def k29 : Kd S29 := Kd.iso (Kd.pair (Kd.int .i64) Kd.bool) (fun x : S29 => (x.f0, x.f1))
theorem k29_open {w : World} {x : S29} {cs : List Value} (h : k29.K w x cs) : cs = [.int .i64 x.f0, .bool x.f1] := by
 obtain ⟨_, _, rfl, rfl, rfl⟩ := h; exact rfl
theorem k29_openM {w : World} {base : Nat} {ok : Nat → Prop} {x : S29} {cs : List Value} (h : k29.M w base ok x cs) : cs = [.int .i64 x.f0, .bool x.f1] := by
 obtain ⟨_, _, rfl, rfl, rfl⟩ := h; exact rfl
theorem k29_mkM (w : World) (base : Nat) (ok : Nat → Prop) (x : S29)  : k29.M w base ok x [.int .i64 x.f0, .bool x.f1] := ⟨[.int .i64 x.f0], [.bool x.f1], rfl, rfl, rfl⟩
def rd_T29 (xs : List S29) (i : Int) : S29 := xs.getD i.toNat z29
theorem at_T29 {w : World} {A : Option Addr} {n : Nat} {xs : List S29} (h : Kd.C k29 w A n xs) (i : Int) (h0 : 0 ≤ i) (h1 : i < n) : ∃ ad , A = some ad ∧ w.cell? (ad.add (i.toNat * 2)) = some (.int .i64 (rd_T29 xs i).f0) ∧ w.cell? ⟨(ad.add (i.toNat * 2)).block, (ad.add (i.toNat * 2)).off + 1, none⟩ = some (.bool (rd_T29 xs i).f1) := by
 obtain ⟨ad, c, e, _, hK, hc0⟩ := Kd.C_get h z29 i h0 h1; have hc : ∀ j u, c[j]? = some u → w.cell? (ad.add (i.toNat * 2 + j)) = some u := hc0; obtain rfl := k29_open hK; exact ⟨ad, e, hc 0 _ rfl, by rw [← add_field _ _ 1 (by omega)]; exact hc 1 _ rfl⟩

def rd_L4 (xs : List (List Int)) (i : Int) : (List Int) := xs.getD i.toNat ([] : List Int)
theorem at_L4 {w : World} {A : Option Addr} {n : Nat} {xs : List (List Int)} (h : Kd.C (Kd.slice 3 (Kd.int .i64)) w A n xs) (i : Int) (h0 : 0 ≤ i) (h1 : i < n) : ∃ ad A0 c0, A = some ad ∧ w.cell? (ad.add i.toNat) = some (.slice A0 (rd_L4 xs i).length c0) ∧ (rd_L4 xs i).length ≤ c0 ∧ (Kd.int .i64).C w A0 (rd_L4 xs i).length (rd_L4 xs i) := by
 obtain ⟨ad, c, e, _, hK, hc0⟩ := Kd.C_get h ([] : List Int) i h0 h1; have hc : ∀ j u, c[j]? = some u → w.cell? (ad.add (i.toNat * 1 + j)) = some u := hc0; obtain ⟨A0, c0, rfl, l0, g0⟩ := hK; exact ⟨ad, A0, c0, e, by have hq := hc 0 _ rfl; rwa [Nat.mul_one, Nat.add_zero] at hq, l0, g0⟩

structure S64 where
 f0 : Int
 f1 : Bool
def z64 : S64 := ⟨(0 : Int), false⟩
def k64 : Kd S64 := Kd.iso (Kd.pair (Kd.int .i64) Kd.bool) (fun x : S64 => (x.f0, x.f1))
theorem k64_open {w : World} {x : S64} {cs : List Value} (h : k64.K w x cs) : cs = [.int .i64 x.f0, .bool x.f1] := by
 obtain ⟨_, _, rfl, rfl, rfl⟩ := h; exact rfl
def rd_T64 (xs : List S64) (i : Int) : S64 := xs.getD i.toNat z64
theorem at_T64 {w : World} {A : Option Addr} {n : Nat} {xs : List S64} (h : Kd.C k64 w A n xs) (i : Int) (h0 : 0 ≤ i) (h1 : i < n) : ∃ ad , A = some ad ∧ w.cell? (ad.add (i.toNat * 2)) = some (.int .i64 (rd_T64 xs i).f0) ∧ w.cell? ⟨(ad.add (i.toNat * 2)).block, (ad.add (i.toNat * 2)).off + 1, none⟩ = some (.bool (rd_T64 xs i).f1) := by
 obtain ⟨ad, c, e, _, hK, hc0⟩ := Kd.C_get h z64 i h0 h1; have hc : ∀ j u, c[j]? = some u → w.cell? (ad.add (i.toNat * 2 + j)) = some u := hc0; obtain rfl := k64_open hK; exact ⟨ad, e, hc 0 _ rfl, by rw [← add_field _ _ 1 (by omega)]; exact hc 1 _ rfl⟩

end Go.Proofs.YtiagfjbngpbejaaDoor.PFnExactSingBest
namespace Go.Proofs.YtiagfjbngpbejaaDoor.PFnExactSingBest
open Go.RowKit Go.Proofs.YtiagfjbngpbejaaDoorW.PrintWords Go.Proofs.YtiagfjbngpbejaaDoorW.PrintLast Go.Proofs.YtiagfjbngpbejaaDoorW.PrintMore
attribute [local go_sem] max2_int min2_int max_two min_two max_three min_three max_four min_four   -- for this text's walks alone
set_option linter.unusedVariables false
set_option linter.unusedSimpArgs false

def impl_Tone_valid.f (a0_0 : Int) (a0_1 : Bool) : Option (Bool) := if a0_0 ≥ 0 then (if a0_0 ≤ 20 then (if a0_1 = true then (some ((Int.tmod a0_0 7) == 2)) else (some true)) else (some false)) else (some false)
set_option maxHeartbeats 8000000 in
set_option maxRecDepth 100000 in
theorem impl_Tone_valid.calls (a0_0 : Int) (a0_1 : Bool) (r : Bool) (w : World) (h : impl_Tone_valid.f a0_0 a0_1 = some r) :
 Calls Tryd.prog 32 #[.agg #[.int .i64 a0_0, .bool a0_1]] w fun e w' => e = .returned (.bool r) ∧ Below w.heap.size w w' := by
 have hu29 := Tryd.underlying29; have HB := Aside0.mk (Below.refl w.heap.size w); have H : (if a0_0 ≥ 0 then (if a0_0 ≤ 20 then (if a0_1 = true then (some ((Int.tmod a0_0 7) == 2)) else (some true)) else (some false)) else (some false)) = some r := h; clear h; by_cases c2 : a0_0 ≥ 0
 ·
  rw [if_pos c2] at H; have c2b0 : decide (0 ≤ a0_0) = true := decide_eq_true c2; clear c2; by_cases c3 : a0_0 ≤ 20
  ·
   rw [if_pos c3] at H; have c3b0 : decide (a0_0 ≤ 20) = true := decide_eq_true c3; clear c3; by_cases c4 : a0_1 = true
   ·
    subst c4; have H1 : (some ((Int.tmod a0_0 7) == 2)) = some r := by rw [if_pos rfl] at H; exact H
    clear H; have H := H1; clear H1; obtain rfl := Option.some.inj H; go_enter Tryd.func32, Tryd.ntmps32
    go_wp2_with (first | ((with_reducible refine gate_dst (N := 1) rfl ?_); refine box_event ?hg (N := 1) ?hd (cs := #[.int .i64 a0_0, .bool true]) (t := 29) ?hr ?_; (case hd => rfl); (case hg => rfl); (case hr => first | (go_simp; done) | (go_simp; rfl)); intro gb107 hg w5 hbox hb; have n0_ := Aside0.mk (below_step (by repeat (first | (with_reducible first | exact HB.out | apply below_alloc | apply pw_below_drewN | apply below_drew1) | exact HB.out)) hb); have n1_ := Aside0.mk (hbox); have n2_ := Aside0.mk ((by rw [hg]; exact (below_size (by repeat (first | (with_reducible first | exact HB.out | apply below_alloc | apply pw_below_drewN | apply below_drew1) | exact HB.out))) : w.heap.size ≤ gb107)); have n3_ := Aside0.mk ((by rw [hg]; exact (below_size (by repeat (first | (with_reducible first | exact HB.out | apply below_alloc | apply pw_below_drewN | apply below_drew1) | exact HB.out))) : w.heap.size ≤ gb107)); clear HB; have HB := n0_; have BK107 := n1_; have GW107 := n2_; have GE107 := n3_; clear n0_ n1_ n2_ n3_; clear hb hbox hg; have hcz6_0 : w5.cell? ⟨gb107, 0, none⟩ = some (.int .i64 a0_0) := (blk_cell BK107.out 0).trans rfl; have hcz6_1 : w5.cell? ⟨gb107, 1, none⟩ = some (.bool true) := (blk_cell BK107.out 1).trans rfl; have hfz6_0 := blk_frozen BK107.out 0; have hfz6_1 := blk_frozen BK107.out 1))
    go_ret
    exact ⟨by first | rfl | (simp [errW_none, errW_some] <;> rfl) | (simp [*, errW_none, errW_some] <;> rfl), by repeat (first | (with_reducible first | exact HB.out | apply below_alloc | apply pw_below_drewN | apply below_drew1 | refine below_set ?_ GE107.out) | exact HB.out)⟩
   ·
    replace c4 := Bool.eq_false_iff.mpr c4; subst c4; have H1 : (some true) = some r := by rw [if_neg (show ¬ (false = true) by decide)] at H; exact H
    clear H; have H := H1; clear H1; obtain rfl := Option.some.inj H; go_enter Tryd.func32, Tryd.ntmps32
    go_wp2_with (first | ((with_reducible refine gate_dst (N := 1) rfl ?_); refine box_event ?hg (N := 1) ?hd (cs := #[.int .i64 a0_0, .bool false]) (t := 29) ?hr ?_; (case hd => rfl); (case hg => rfl); (case hr => first | (go_simp; done) | (go_simp; rfl)); intro gb107 hg w7 hbox hb; have n0_ := Aside0.mk (below_step (by repeat (first | (with_reducible first | exact HB.out | apply below_alloc | apply pw_below_drewN | apply below_drew1) | exact HB.out)) hb); have n1_ := Aside0.mk (hbox); have n2_ := Aside0.mk ((by rw [hg]; exact (below_size (by repeat (first | (with_reducible first | exact HB.out | apply below_alloc | apply pw_below_drewN | apply below_drew1) | exact HB.out))) : w.heap.size ≤ gb107)); have n3_ := Aside0.mk ((by rw [hg]; exact (below_size (by repeat (first | (with_reducible first | exact HB.out | apply below_alloc | apply pw_below_drewN | apply below_drew1) | exact HB.out))) : w.heap.size ≤ gb107)); clear HB; have HB := n0_; have BK107 := n1_; have GW107 := n2_; have GE107 := n3_; clear n0_ n1_ n2_ n3_; clear hb hbox hg; have hcz8_0 : w7.cell? ⟨gb107, 0, none⟩ = some (.int .i64 a0_0) := (blk_cell BK107.out 0).trans rfl; have hcz8_1 : w7.cell? ⟨gb107, 1, none⟩ = some (.bool false) := (blk_cell BK107.out 1).trans rfl; have hfz8_0 := blk_frozen BK107.out 0; have hfz8_1 := blk_frozen BK107.out 1))
    go_ret
    exact ⟨by first | rfl | (simp [errW_none, errW_some] <;> rfl) | (simp [*, errW_none, errW_some] <;> rfl), by repeat (first | (with_reducible first | exact HB.out | apply below_alloc | apply pw_below_drewN | apply below_drew1 | refine below_set ?_ GE107.out) | exact HB.out)⟩
  ·
   rw [if_neg c3] at H; have c3b0 : decide (a0_0 ≤ 20) = false := decide_eq_false c3; clear c3; obtain rfl := Option.some.inj H; go_enter Tryd.func32, Tryd.ntmps32
   go_wp2_with (first | ((with_reducible refine gate_dst (N := 1) rfl ?_); refine box_event ?hg (N := 1) ?hd (cs := #[.int .i64 a0_0, .bool a0_1]) (t := 29) ?hr ?_; (case hd => rfl); (case hg => rfl); (case hr => first | (go_simp; done) | (go_simp; rfl)); intro gb107 hg w9 hbox hb; have n0_ := Aside0.mk (below_step (by repeat (first | (with_reducible first | exact HB.out | apply below_alloc | apply pw_below_drewN | apply below_drew1) | exact HB.out)) hb); have n1_ := Aside0.mk (hbox); have n2_ := Aside0.mk ((by rw [hg]; exact (below_size (by repeat (first | (with_reducible first | exact HB.out | apply below_alloc | apply pw_below_drewN | apply below_drew1) | exact HB.out))) : w.heap.size ≤ gb107)); have n3_ := Aside0.mk ((by rw [hg]; exact (below_size (by repeat (first | (with_reducible first | exact HB.out | apply below_alloc | apply pw_below_drewN | apply below_drew1) | exact HB.out))) : w.heap.size ≤ gb107)); clear HB; have HB := n0_; have BK107 := n1_; have GW107 := n2_; have GE107 := n3_; clear n0_ n1_ n2_ n3_; clear hb hbox hg; have hcz10_0 : w9.cell? ⟨gb107, 0, none⟩ = some (.int .i64 a0_0) := (blk_cell BK107.out 0).trans rfl; have hcz10_1 : w9.cell? ⟨gb107, 1, none⟩ = some (.bool a0_1) := (blk_cell BK107.out 1).trans rfl; have hfz10_0 := blk_frozen BK107.out 0; have hfz10_1 := blk_frozen BK107.out 1))
   go_ret
   exact ⟨by first | rfl | (simp [errW_none, errW_some] <;> rfl) | (simp [*, errW_none, errW_some] <;> rfl), by repeat (first | (with_reducible first | exact HB.out | apply below_alloc | apply pw_below_drewN | apply below_drew1 | refine below_set ?_ GE107.out) | exact HB.out)⟩
 ·
  rw [if_neg c2] at H; have c2b0 : decide (0 ≤ a0_0) = false := decide_eq_false c2; clear c2; obtain rfl := Option.some.inj H; go_enter Tryd.func32, Tryd.ntmps32
  go_wp2_with (first | ((with_reducible refine gate_dst (N := 1) rfl ?_); refine box_event ?hg (N := 1) ?hd (cs := #[.int .i64 a0_0, .bool a0_1]) (t := 29) ?hr ?_; (case hd => rfl); (case hg => rfl); (case hr => first | (go_simp; done) | (go_simp; rfl)); intro gb107 hg w11 hbox hb; have n0_ := Aside0.mk (below_step (by repeat (first | (with_reducible first | exact HB.out | apply below_alloc | apply pw_below_drewN | apply below_drew1) | exact HB.out)) hb); have n1_ := Aside0.mk (hbox); have n2_ := Aside0.mk ((by rw [hg]; exact (below_size (by repeat (first | (with_reducible first | exact HB.out | apply below_alloc | apply pw_below_drewN | apply below_drew1) | exact HB.out))) : w.heap.size ≤ gb107)); have n3_ := Aside0.mk ((by rw [hg]; exact (below_size (by repeat (first | (with_reducible first | exact HB.out | apply below_alloc | apply pw_below_drewN | apply below_drew1) | exact HB.out))) : w.heap.size ≤ gb107)); clear HB; have HB := n0_; have BK107 := n1_; have GW107 := n2_; have GE107 := n3_; clear n0_ n1_ n2_ n3_; clear hb hbox hg; have hcz12_0 : w11.cell? ⟨gb107, 0, none⟩ = some (.int .i64 a0_0) := (blk_cell BK107.out 0).trans rfl; have hcz12_1 : w11.cell? ⟨gb107, 1, none⟩ = some (.bool a0_1) := (blk_cell BK107.out 1).trans rfl; have hfz12_0 := blk_frozen BK107.out 0; have hfz12_1 := blk_frozen BK107.out 1))
  go_ret
  exact ⟨by first | rfl | (simp [errW_none, errW_some] <;> rfl) | (simp [*, errW_none, errW_some] <;> rfl), by repeat (first | (with_reducible first | exact HB.out | apply below_alloc | apply pw_below_drewN | apply below_drew1 | refine below_set ?_ GE107.out) | exact HB.out)⟩

end Go.Proofs.YtiagfjbngpbejaaDoor.PFnExactSingBest
namespace Go.Proofs.YtiagfjbngpbejaaDoor.PFnExactSingBest
open Go.RowKit Go.Proofs.YtiagfjbngpbejaaDoorW.PrintWords Go.Proofs.YtiagfjbngpbejaaDoorW.PrintLast Go.Proofs.YtiagfjbngpbejaaDoorW.PrintMore
attribute [local go_sem] max2_int min2_int max_two min_two max_three min_three max_four min_four   -- for this text's walks alone
set_option linter.unusedVariables false
set_option linter.unusedSimpArgs false

def impl_MelodyValid.l0 : Nat → List (S29) → Int → Int → Option (Bool)
 | 0, _, _, _ => none
 | k + 1, x8, x9, x10 => if x10 < x9 then (if 0 ≤ x10 then (if x10 < (x8.length : Int) then ((impl_Tone_valid.f ((rd_T29 x8 x10).f0) ((rd_T29 x8 x10).f1)).bind fun t110 => (if t110 = true then (impl_MelodyValid.l0 k x8 x9 (wrap64 (x10 + 1))) else (some false))) else (none)) else (none)) else (some true)
def impl_MelodyValid.f (k : Nat) (l0 : List (S29)) : Option (Bool) := if (l0.length : Int) > 24 then (some false) else (impl_MelodyValid.l0 k l0 (l0.length : Int) 0)
set_option maxHeartbeats 8000000 in
set_option maxRecDepth 100000 in
theorem impl_MelodyValid.calls (k : Nat) (A0 : Option Addr) (c0 : Nat) (l0 : List (S29)) (r : Bool) (w : World) (hr0 : Kd.C k29 w A0 l0.length l0) (hc0 : l0.length ≤ c0) (h : impl_MelodyValid.f k l0 = some r) :
 Calls Tryd.prog 20 #[.slice A0 l0.length c0] w fun e w' => e = .returned (.bool r) ∧ Below w.heap.size w w' := by
 have hu29 := Tryd.underlying29; have HR0 := Aside0.mk hr0; have HC0 := Aside0.mk hc0; clear hr0 hc0; have HB := Aside0.mk (Below.refl w.heap.size w); have H : (if (l0.length : Int) > 24 then (some false) else (impl_MelodyValid.l0 k l0 (l0.length : Int) 0)) = some r := h; clear h; by_cases c2 : (l0.length : Int) > 24
 ·
  rw [if_pos c2] at H; have c2b0 : decide (24 < (l0.length : Int)) = true := decide_eq_true c2; have c2b1 : decide (24 < l0.length) = true := decide_eq_true (by omega); clear c2; obtain rfl := Option.some.inj H; go_enter Tryd.func20, Tryd.ntmps20
  go_wp2; go_ret
  exact ⟨by first | rfl | (simp [errW_none, errW_some] <;> rfl) | (simp [*, errW_none, errW_some] <;> rfl), by repeat (first | (with_reducible first | exact HB.out | apply below_alloc | apply pw_below_drewN | apply below_drew1) | exact HB.out)⟩
 ·
  rw [if_neg c2] at H; have c2b0 : decide (24 < (l0.length : Int)) = false := decide_eq_false c2; have c2b1 : decide (24 < l0.length) = false := decide_eq_false (by omega); clear c2; have H' := Aside0.mk H; clear H; go_enter Tryd.func20, Tryd.ntmps20
  go_wp2; go_loopg [10] k (fun kq v10 w' => ∃ (x10_1 : Int), v10 = .int .i64 x10_1 ∧ Aside0 (impl_MelodyValid.l0 kq l0 (l0.length : Int) x10_1 = some r) ∧ Aside0 (kq ≤ k) ∧ Aside0 (Below w.heap.size w w'))
  case atStart => exact ⟨(0), (by first | rfl | (simp; done) | (simp [*]; done)), H', ⟨Nat.le_refl _⟩, ⟨by repeat (first | (with_reducible first | exact HB.out | apply below_alloc | apply pw_below_drewN | apply below_drew1) | exact HB.out)⟩⟩
  case round =>
   clear H'; try clear c2
   try clear c2b0
   try clear c2b1
   try clear p2
   obtain ⟨x10_1, rfl, HA, HK1, HB⟩ := hrel; cases gk with
   | zero => exact absurd HA.out (by simp [impl_MelodyValid.l0])
   | succ k1 =>
    have H := HA.out; clear HA; simp only [impl_MelodyValid.l0] at H; by_cases c3 : x10_1 < (l0.length : Int)
    ·
     rw [if_pos c3] at H; have c3b0 : decide (x10_1 < (l0.length : Int)) = true := decide_eq_true c3; clear c3; by_cases c4 : 0 ≤ x10_1
     ·
      rw [if_pos c4] at H; have c4b0 : decide (0 ≤ x10_1) = true := decide_eq_true c4; clear c4; by_cases c5 : x10_1 < (l0.length : Int)
      ·
       rw [if_pos c5] at H; have c5b0 : decide (x10_1 < (l0.length : Int)) = true := decide_eq_true c5; clear c5; replace H := Option.bind_eq_some_iff.mp H; obtain ⟨t110, A60, H⟩ := H; replace H : (if t110 = true then (impl_MelodyValid.l0 k1 l0 (l0.length : Int) (wrap64 (x10_1 + 1))) else (some false)) = some r := H; have A6 := Aside0.mk A60; clear A60; by_cases c7 : t110 = true
       ·
        subst c7; have H1 : (impl_MelodyValid.l0 k1 l0 (l0.length : Int) (wrap64 (x10_1 + 1))) = some r := by rw [if_pos rfl] at H; exact H
        clear H; have H := H1; clear H1; have H' := Aside0.mk H; clear H; have p108 : 0 ≤ (x10_1 : Int) := of_decide_eq_true (by first | (with_reducible assumption) | assumption); have q108 : x10_1 < (l0.length : Int) := of_decide_eq_true (by first | (with_reducible assumption) | assumption); obtain ⟨ad108, e108, hx108_0, hx108_1⟩ := at_T29 HR0.out x10_1 p108 q108; cases e108; replace hx108_0 := (HB.out.cell (World.block_lt_of_cell? w _ hx108_0)).trans hx108_0; replace hx108_1 := (HB.out.cell (World.block_lt_of_cell? w _ hx108_1)).trans hx108_1; replace p108 := eq_true p108; replace q108 := eq_true q108; go_wp2_with (first | ((with_reducible refine gate_dst (N := 4) rfl ?_); refine box_event ?hg (N := 4) ?hd (cs := #[.int .i64 0, .bool false]) (t := 29) ?hr ?_; (case hd => rfl); (case hg => rfl); (case hr => first | (go_simp; done) | (go_simp; rfl)); intro gb109 hg w8 hbox hb; have n0_ := Aside0.mk (below_step (by repeat (first | (with_reducible first | exact HB.out | apply below_alloc | apply pw_below_drewN | apply below_drew1) | exact HB.out)) hb); have n1_ := Aside0.mk (hbox); have n2_ := Aside0.mk ((by rw [hg]; exact (below_size (by repeat (first | (with_reducible first | exact HB.out | apply below_alloc | apply pw_below_drewN | apply below_drew1) | exact HB.out))) : w.heap.size ≤ gb109)); have n3_ := Aside0.mk ((by rw [hg]; exact (below_size (by repeat (first | (with_reducible first | exact HB.out | apply below_alloc | apply pw_below_drewN | apply below_drew1) | exact HB.out))) : w.heap.size ≤ gb109)); clear HB; have HB := n0_; have BK109 := n1_; have GW109 := n2_; have GE109 := n3_; clear n0_ n1_ n2_ n3_; clear hb hbox hg; have hcz9_0 : w8.cell? ⟨gb109, 0, none⟩ = some (.int .i64 0) := (blk_cell BK109.out 0).trans rfl; have hcz9_1 : w8.cell? ⟨gb109, 1, none⟩ = some (.bool false) := (blk_cell BK109.out 1).trans rfl; have hfz9_0 := blk_frozen BK109.out 0; have hfz9_1 := blk_frozen BK109.out 1) | ((with_reducible refine gate_callee (f := 32) rfl ?_); refine goesL_ (some 15) rfl rfl Tryd.func32 (by kernel_rfl) rfl #[.agg #[.int .i64 ((rd_T29 l0 x10_1).f0), .bool ((rd_T29 l0 x10_1).f1)]] rfl (by (try simp only [List.map_toArray, List.map_cons, List.map_nil]); first | done | rfl | (simp only [List.length_drop, List.length_take]; rfl)) ?_; (with_reducible refine (impl_Tone_valid.calls ((rd_T29 l0 x10_1).f0) ((rd_T29 l0 x10_1).f1) true _ A6.out).mono ?_); rintro e w10 ⟨rfl, hb⟩; refine ⟨_, rfl, ?_⟩; have n0_ := Aside0.mk (blk_below (g := gb109) (o := .cells #[.int .i64 ((rd_T29 l0 x10_1).f0), .bool ((rd_T29 l0 x10_1).f1)] 29 (0, 0)) (by (with_reducible repeat (first | refine blk_drewN ?_ _ | refine blk_drew ?_ | refine blk_alloc ?_ _)); refine blk_put (cs := #[.int .i64 ((rd_T29 l0 x10_1).f0), .bool false]) ?_ 1 _ rfl; (with_reducible repeat (first | refine blk_drewN ?_ _ | refine blk_drew ?_ | refine blk_alloc ?_ _)); refine blk_put (cs := #[.int .i64 0, .bool false]) ?_ 0 _ rfl; (with_reducible repeat (first | refine blk_drewN ?_ _ | refine blk_drew ?_ | refine blk_alloc ?_ _)); exact BK109.out) hb); have n1_ := Aside0.mk (below_step (by repeat (first | (with_reducible first | exact HB.out | apply below_alloc | apply pw_below_drewN | apply below_drew1 | refine below_set ?_ GE109.out) | exact HB.out)) hb); clear BK109; clear HB; have BK109 := n0_; have HB := n1_; clear n0_ n1_; (try clear hb); (try clear hb2); (try clear hk); (try clear hi)))
        go_roundg k1
        case measure => have := HK1.out; omega
        case rel => exact ⟨(wrap64 (x10_1 + 1)), (by first | rfl | (simp; done) | (simp [*]; done)), H', ⟨by have := HK1.out; omega⟩, ⟨by repeat (first | (with_reducible first | exact HB.out | apply below_alloc | apply pw_below_drewN | apply below_drew1 | refine below_set ?_ GE109.out) | exact HB.out)⟩⟩
       ·
        replace c7 := Bool.eq_false_iff.mpr c7; subst c7; have H1 : (some false) = some r := by rw [if_neg (show ¬ (false = true) by decide)] at H; exact H
        clear H; have H := H1; clear H1; obtain rfl := Option.some.inj H; have p108 : 0 ≤ (x10_1 : Int) := of_decide_eq_true (by first | (with_reducible assumption) | assumption); have q108 : x10_1 < (l0.length : Int) := of_decide_eq_true (by first | (with_reducible assumption) | assumption); obtain ⟨ad108, e108, hx108_0, hx108_1⟩ := at_T29 HR0.out x10_1 p108 q108; cases e108; replace hx108_0 := (HB.out.cell (World.block_lt_of_cell? w _ hx108_0)).trans hx108_0; replace hx108_1 := (HB.out.cell (World.block_lt_of_cell? w _ hx108_1)).trans hx108_1; replace p108 := eq_true p108; replace q108 := eq_true q108; go_wp2_with (first | ((with_reducible refine gate_dst (N := 4) rfl ?_); refine box_event ?hg (N := 4) ?hd (cs := #[.int .i64 0, .bool false]) (t := 29) ?hr ?_; (case hd => rfl); (case hg => rfl); (case hr => first | (go_simp; done) | (go_simp; rfl)); intro gb109 hg w11 hbox hb; have n0_ := Aside0.mk (below_step (by repeat (first | (with_reducible first | exact HB.out | apply below_alloc | apply pw_below_drewN | apply below_drew1) | exact HB.out)) hb); have n1_ := Aside0.mk (hbox); have n2_ := Aside0.mk ((by rw [hg]; exact (below_size (by repeat (first | (with_reducible first | exact HB.out | apply below_alloc | apply pw_below_drewN | apply below_drew1) | exact HB.out))) : w.heap.size ≤ gb109)); have n3_ := Aside0.mk ((by rw [hg]; exact (below_size (by repeat (first | (with_reducible first | exact HB.out | apply below_alloc | apply pw_below_drewN | apply below_drew1) | exact HB.out))) : w.heap.size ≤ gb109)); clear HB; have HB := n0_; have BK109 := n1_; have GW109 := n2_; have GE109 := n3_; clear n0_ n1_ n2_ n3_; clear hb hbox hg; have hcz12_0 : w11.cell? ⟨gb109, 0, none⟩ = some (.int .i64 0) := (blk_cell BK109.out 0).trans rfl; have hcz12_1 : w11.cell? ⟨gb109, 1, none⟩ = some (.bool false) := (blk_cell BK109.out 1).trans rfl; have hfz12_0 := blk_frozen BK109.out 0; have hfz12_1 := blk_frozen BK109.out 1) | ((with_reducible refine gate_callee (f := 32) rfl ?_); refine goesL_ (some 15) rfl rfl Tryd.func32 (by kernel_rfl) rfl #[.agg #[.int .i64 ((rd_T29 l0 x10_1).f0), .bool ((rd_T29 l0 x10_1).f1)]] rfl (by (try simp only [List.map_toArray, List.map_cons, List.map_nil]); first | done | rfl | (simp only [List.length_drop, List.length_take]; rfl)) ?_; (with_reducible refine (impl_Tone_valid.calls ((rd_T29 l0 x10_1).f0) ((rd_T29 l0 x10_1).f1) false _ A6.out).mono ?_); rintro e w13 ⟨rfl, hb⟩; refine ⟨_, rfl, ?_⟩; have n0_ := Aside0.mk (blk_below (g := gb109) (o := .cells #[.int .i64 ((rd_T29 l0 x10_1).f0), .bool ((rd_T29 l0 x10_1).f1)] 29 (0, 0)) (by (with_reducible repeat (first | refine blk_drewN ?_ _ | refine blk_drew ?_ | refine blk_alloc ?_ _)); refine blk_put (cs := #[.int .i64 ((rd_T29 l0 x10_1).f0), .bool false]) ?_ 1 _ rfl; (with_reducible repeat (first | refine blk_drewN ?_ _ | refine blk_drew ?_ | refine blk_alloc ?_ _)); refine blk_put (cs := #[.int .i64 0, .bool false]) ?_ 0 _ rfl; (with_reducible repeat (first | refine blk_drewN ?_ _ | refine blk_drew ?_ | refine blk_alloc ?_ _)); exact BK109.out) hb); have n1_ := Aside0.mk (below_step (by repeat (first | (with_reducible first | exact HB.out | apply below_alloc | apply pw_below_drewN | apply below_drew1 | refine below_set ?_ GE109.out) | exact HB.out)) hb); clear BK109; clear HB; have BK109 := n0_; have HB := n1_; clear n0_ n1_; (try clear hb); (try clear hb2); (try clear hk); (try clear hi)))
        go_ret
        exact ⟨by first | rfl | (simp [errW_none, errW_some] <;> rfl) | (simp [*, errW_none, errW_some] <;> rfl), by repeat (first | (with_reducible first | exact HB.out | apply below_alloc | apply pw_below_drewN | apply below_drew1 | refine below_set ?_ GE109.out) | exact HB.out)⟩
      ·
       rw [if_neg c5] at H; exact absurd H (by simp)
     ·
      rw [if_neg c4] at H; exact absurd H (by simp)
    ·
     rw [if_neg c3] at H; have c3b0 : decide (x10_1 < (l0.length : Int)) = false := decide_eq_false c3; clear c3; obtain rfl := Option.some.inj H; go_wp2; go_ret
     exact ⟨by first | rfl | (simp [errW_none, errW_some] <;> rfl) | (simp [*, errW_none, errW_some] <;> rfl), by repeat (first | (with_reducible first | exact HB.out | apply below_alloc | apply pw_below_drewN | apply below_drew1) | exact HB.out)⟩

end Go.Proofs.YtiagfjbngpbejaaDoor.PFnExactSingBest
namespace Go.Proofs.YtiagfjbngpbejaaDoor.Pure
set_option linter.unusedVariables false
set_option linter.unusedSimpArgs false
open Go Go.RowKit Go.Proofs.YtiagfjbngpbejaaDoor.PFnExactSingBest Go.Proofs.YtiagfjbngpbejaaDoorW.PrintWords Go.Proofs.YtiagfjbngpbejaaDoorW.PrintLast Go.Proofs.YtiagfjbngpbejaaDoorW.PrintMore

theorem Ev.succ {α : Type} {g : Nat → Option α} {r : α} (h : Ev (fun k => g (k + 1)) r) : Ev g r := Ev.step (fun _ => rfl) h
theorem Ev.pos {α : Type} {c : Prop} [Decidable c] {f g : Nat → Option α} {r : α} (hc : c) (h : Ev f r) : Ev (fun k => if c then f k else g k) r := by
 simp only [if_pos hc]; exact h
theorem Ev.neg {α : Type} {c : Prop} [Decidable c] {f g : Nat → Option α} {r : α} (hc : ¬ c) (h : Ev g r) : Ev (fun k => if c then f k else g k) r := by
 simp only [if_neg hc]; exact h
theorem Ev.someb {α β : Type} {a : α} {f : Nat → α → Option β} {r : β} (h : Ev (fun n => f n a) r) : Ev (fun n => (some a).bind (f n)) r := h
theorem Ev.conb {α β : Type} {x : Option α} {a : α} {f : Nat → α → Option β} {r : β} (hx : x = some a) (h : Ev (fun n => f n a) r) : Ev (fun n => x.bind (f n)) r := by subst hx; exact h
theorem Ev.eqr {α : Type} {g : Nat → Option α} {r r' : α} (h : Ev g r) (e : r = r') : Ev g r' := e ▸ h
/-- A loop over the places of a list, from the front. -/
theorem Ev.over {α ρ σ : Type} (d : α) (xs : List α) (L : Nat → σ → Int → Option ρ) (F : σ → List α → ρ) (I : Nat → σ → Prop)
 (hend : ∀ s, I xs.length s → Ev (fun k => L k s (xs.length : Int)) (F s []))
 (hstep : ∀ s (i : Nat) rest, I i s → i < xs.length → xs.drop i = xs.getD i d :: rest → (∀ s', I (i + 1) s' → Ev (fun k => L k s' ((i : Int) + 1)) (F s' rest)) → Ev (fun k => L k s (i : Int)) (F s (xs.getD i d :: rest))) :
 ∀ (i : Nat) (s : σ), i ≤ xs.length → I i s → Ev (fun k => L k s (i : Int)) (F s (xs.drop i)) := by
 intro i s hi hI
 obtain ⟨n, hn⟩ : ∃ n, n = xs.length - i := ⟨_, rfl⟩
 induction n generalizing i s with
 | zero =>
  have e : i = xs.length := by omega
  subst e
  rw [List.drop_length]
  exact hend s hI
 | succ n ih =>
  have hlt : i < xs.length := by omega
  have e : xs.drop i = xs.getD i d :: xs.drop (i + 1) := by
   rw [List.drop_eq_getElem_cons hlt, List.getD_eq_getElem?_getD, List.getElem?_eq_getElem hlt]; rfl
  rw [e]
  refine hstep s i _ hI hlt e (fun s' hs' => ?_)
  have := ih (i + 1) s' (by omega) hs' (by omega)
  simpa using this
theorem w64 {x : Int} (h : -9223372036854775808 ≤ x) (h' : x ≤ 9223372036854775807) : wrap64 x = x := by unfold wrap64; omega
def toneOk (t : S29) : Bool := decide (0 ≤ t.f0 ∧ t.f0 ≤ 20) && (!t.f1 || Int.tmod t.f0 7 == 2)
def melOk (m : List S29) : Bool := decide (m.length ≤ 24) && m.all toneOk
theorem melOk_len {m : List S29} (h : melOk m = true) : m.length ≤ 24 := by
 unfold melOk at h; simp at h; exact h.1
theorem impl_Tone_valid_eq (a : Int) (b : Bool) : impl_Tone_valid.f a b = some (toneOk ⟨a, b⟩) := by
 unfold impl_Tone_valid.f toneOk
 by_cases h : a ≥ 0
 ·
  by_cases h' : a ≤ 20
  ·
   cases b
   ·
    simp [h, h']
   ·
    simp [h, h']
  ·
   simp [h, h']
 ·
  have : ¬ (0 ≤ a) := h
  simp [this]

theorem impl_MelodyValid_ev (m : List S29) : Ev (fun k => impl_MelodyValid.f k m) (melOk m) := by
 unfold impl_MelodyValid.f
 by_cases h : (m.length : Int) > 24
 ·
  refine Ev.eqr (Ev.pos h (Ev.now _)) ?_
  unfold melOk
  rw [decide_eq_false (by omega)]; rfl
 ·
  refine Ev.eqr (Ev.neg h (r := m.all toneOk) ?_) (by unfold melOk; rw [decide_eq_true (by omega)]; rfl)
  have := Ev.over z29 m (fun k (_ : Unit) i => impl_MelodyValid.l0 k m m.length i) (fun _ l => l.all toneOk) (fun _ _ => True) (by
   intro s _
   refine Ev.succ ?_
   simp only [impl_MelodyValid.l0]
   exact Ev.neg (by omega) (Ev.now _)) (by
   intro s i rest _ hi _ ih
   refine Ev.succ ?_
   simp only [impl_MelodyValid.l0]
   refine Ev.pos (by omega) (Ev.pos (by omega) (Ev.pos (by omega) (Ev.conb (impl_Tone_valid_eq _ _) ?_)))
   show Ev _ (toneOk (rd_T29 m i) && _)
   cases ht : toneOk (rd_T29 m i)
   ·
    exact Ev.neg (by simp [ht]) (Ev.now _)
   ·
    refine Ev.pos (by simp [ht]) ?_
    rw [w64 (by omega) (by omega)]
    simpa using ih () trivial) 0 () (Nat.zero_le _) trivial
  simpa using this

end Go.Proofs.YtiagfjbngpbejaaDoor.Pure
namespace Go.Proofs.YtiagfjbngpbejaaDoor.Pure
set_option linter.unusedVariables false
set_option linter.unusedSimpArgs false
open Go Go.RowKit Go.Proofs.YtiagfjbngpbejaaDoor.PFnExactSingBest Go.Proofs.YtiagfjbngpbejaaDoorW.PrintWords Go.Proofs.YtiagfjbngpbejaaDoorW.PrintLast Go.Proofs.YtiagfjbngpbejaaDoorW.PrintMore

def nCells : Array Value := #[.string ⟨#[71]⟩, .string ⟨#[65]⟩, .string ⟨#[66]⟩, .string ⟨#[67]⟩, .string ⟨#[68]⟩, .string ⟨#[69]⟩, .string ⟨#[70]⟩]
def NTab (w : World) : Prop := ∃ t fz, w.heap[0]? = some (.cells nCells t fz)
theorem NTab.below {w w' : World} (h : NTab w) (hb : Below w.heap.size w w') : NTab w' := by
 obtain ⟨t, fz, h⟩ := h
 exact ⟨t, fz, (hb.block _ (blk_lt h)).trans h⟩
theorem NTab.at {w : World} (h : NTab w) (k : Nat) : w.cell? ⟨0, k, none⟩ = nCells[k]? := by
 obtain ⟨t, fz, h⟩ := h
 exact cell_of_row w _ _ nCells t fz h
/-- The kind of a hexachord that begins at a step: hard, natural, soft, or none. -/
def kindB (s : Int) : ByteArray := if s % 7 = 0 then ⟨#[104, 97, 114, 100]⟩ else if s % 7 = 3 then ⟨#[110, 97, 116, 117, 114, 97, 108]⟩ else if s % 7 = 6 then ⟨#[115, 111, 102, 116]⟩ else ⟨#[]⟩
set_option maxHeartbeats 2000000 in
set_option maxRecDepth 100000 in
theorem impl_hexKindAt_calls (s : Int) (w : World) (ht : NTab w) (h0 : 0 ≤ s) (h1 : s ≤ 20) :
 Calls Tryd.prog 35 #[.int .i64 s] w fun e w' => e = .returned (.string (kindB s)) ∧ w' = w := by
 have HT := Aside0.mk ht
 clear ht
 have hm : Int.tmod s 7 = s % 7 := Int.tmod_eq_emod_of_nonneg h0
 obtain ⟨k, hk⟩ : ∃ k : Nat, s % 7 = (k : Int) := ⟨(s % 7).toNat, by omega⟩
 have hk7 : k < 7 := by omega
 have hkb : kindB s = if k = 0 then ⟨#[104, 97, 114, 100]⟩ else if k = 3 then ⟨#[110, 97, 116, 117, 114, 97, 108]⟩ else if k = 6 then ⟨#[115, 111, 102, 116]⟩ else ⟨#[]⟩ := by
  unfold kindB
  rw [hk]
  have a0 : ((k : Int) = 0) = (k = 0) := propext (by omega)
  have a3 : ((k : Int) = 3) = (k = 3) := propext (by omega)
  have a6 : ((k : Int) = 6) = (k = 6) := propext (by omega)
  simp only [a0, a3, a6]
 rw [hkb]
 rw [hk] at hm
 have hcell := HT.out.at k
 clear hk hkb h0 h1 HT
 have hv := hk7
 match k, hk7 with
 | 0, _ =>
  have hc : w.cell? ⟨0, 0, none⟩ = some (.string ⟨#[71]⟩) := hcell
  have hm' : Int.tmod s 7 = 0 := hm
  clear hcell hm hv
  go_enter Tryd.func35, Tryd.ntmps35
  go_wp2
  go_ret
  exact ⟨rfl, rfl⟩
 | 1, _ =>
  have hc : w.cell? ⟨0, 1, none⟩ = some (.string ⟨#[65]⟩) := hcell
  have hm' : Int.tmod s 7 = 1 := hm
  clear hcell hm hv
  go_enter Tryd.func35, Tryd.ntmps35
  go_wp2
  go_ret
  exact ⟨rfl, rfl⟩
 | 2, _ =>
  have hc : w.cell? ⟨0, 2, none⟩ = some (.string ⟨#[66]⟩) := hcell
  have hm' : Int.tmod s 7 = 2 := hm
  clear hcell hm hv
  go_enter Tryd.func35, Tryd.ntmps35
  go_wp2
  go_ret
  exact ⟨rfl, rfl⟩
 | 3, _ =>
  have hc : w.cell? ⟨0, 3, none⟩ = some (.string ⟨#[67]⟩) := hcell
  have hm' : Int.tmod s 7 = 3 := hm
  clear hcell hm hv
  go_enter Tryd.func35, Tryd.ntmps35
  go_wp2
  go_ret
  exact ⟨rfl, rfl⟩
 | 4, _ =>
  have hc : w.cell? ⟨0, 4, none⟩ = some (.string ⟨#[68]⟩) := hcell
  have hm' : Int.tmod s 7 = 4 := hm
  clear hcell hm hv
  go_enter Tryd.func35, Tryd.ntmps35
  go_wp2
  go_ret
  exact ⟨rfl, rfl⟩
 | 5, _ =>
  have hc : w.cell? ⟨0, 5, none⟩ = some (.string ⟨#[69]⟩) := hcell
  have hm' : Int.tmod s 7 = 5 := hm
  clear hcell hm hv
  go_enter Tryd.func35, Tryd.ntmps35
  go_wp2
  go_ret
  exact ⟨rfl, rfl⟩
 | 6, _ =>
  have hc : w.cell? ⟨0, 6, none⟩ = some (.string ⟨#[70]⟩) := hcell
  have hm' : Int.tmod s 7 = 6 := hm
  clear hcell hm hv
  go_enter Tryd.func35, Tryd.ntmps35
  go_wp2
  go_ret
  exact ⟨rfl, rfl⟩

theorem setCells_grown (W : World) (g o : Nat) (seg : List Value) : W.grownBy (W.setCells g o seg) (some g) := by
 obtain ⟨s1, s2, s3, s4⟩ := setCells_same g seg o W
 exact ⟨s1, s2, s3, by rw [s4]; exact Nat.le_refl _, fun k _ hk => setCells_far _ _ k (fun he => hk (by rw [he]))⟩
theorem below_grown {base g : Nat} {w0 W w1 : World} (h : Below base w0 W) (hg : W.grownBy w1 (some g)) (hb : base ≤ g) (hW : base ≤ W.heap.size) : Below base w0 w1 :=
 h.trans ⟨hg.os, hg.tape, hg.output, hg.size, fun k hk => hg.block k (by omega) (fun he => by injection he with he; omega)⟩
theorem box_store {P : Program} {ops : Array Oper} {rest : List Oper} {o : Oper} {a : Act} {Q : Exit → Act → World → Prop} {W : World} (hgd : o.guard = none) (hN : o.dst = none) (t : TypeId) (p x : Operand) (ho : o.op = .store t p x) {g off : Nat} {e : TypeId} {cur new : Array Value} (u : Value) (seg : List Value)
 (hh : W.heap[g]? = some (.cells cur e (0, 0))) (haddr : a.eval p = .pointer (some ⟨g, off, none⟩)) (hx : a.eval x = u) (hu : u.cells.toList = seg) (ht : (P.info? t).map (·.size) = some seg.length) (h1 : ∀ q ∈ seg, q.oneCell' = true)
 (hfit : off + seg.length ≤ cur.size) (hnew : (cur.toList.take off ++ seg ++ cur.toList.drop (off + seg.length)) = new.toList)
 (h : ∀ w1, w1.heap[g]? = some (.cells new e (0, 0)) → W.grownBy w1 (some g) → w1.heap.size = W.heap.size → wpList P ops Q rest a w1) : wpList P ops Q (o :: rest) a W := by
 refine wpList_plain hgd fun K hK => ?_
 have hrun : (Instr.storeAt t (.pointer (some ⟨g, off, none⟩)) u).run P W = .ok () (W.setCells g off seg) := run_store_run t u seg hh hu ht hfit h1
 unfold Oper.wp execOp
 simp only [ho, haddr, hx, Sem.run_bind, Sem.run_pure, Result.andThen_ok, hrun]
 show K (a.put o.dst undef) _
 rw [hN]
 obtain ⟨cur', h2, _, h3⟩ := setCells_row seg off W cur hh hfit
 have e2 : cur' = new := Array.ext' (by rw [h3, hnew])
 rw [e2] at h2
 exact hK a _ (h _ h2 (setCells_grown W g off seg) (setCells_same g seg off W).2.2.2)
/-- The same as a step of a region that draws. -/
theorem box_store_step {P : Program} {ops : Array Oper} {o : Oper} {a : Act} {Q : Exit → Act → World → Prop} {Kc : Act → World → Prop} {W : World} (hw : Region.wanted o (yielded ops a.tmps) = true) (hN : o.dst = none) (t : TypeId) (p x : Operand) (ho : o.op = .store t p x) {g off : Nat} {e : TypeId} {cur new : Array Value} (u : Value) (seg : List Value)
 (hh : W.heap[g]? = some (.cells cur e (0, 0))) (haddr : a.eval p = .pointer (some ⟨g, off, none⟩)) (hx : a.eval x = u) (hu : u.cells.toList = seg) (ht : (P.info? t).map (·.size) = some seg.length) (h1 : ∀ q ∈ seg, q.oneCell' = true)
 (hfit : off + seg.length ≤ cur.size) (hnew : (cur.toList.take off ++ seg ++ cur.toList.drop (off + seg.length)) = new.toList)
 (h : ∀ w1, w1.heap[g]? = some (.cells new e (0, 0)) → W.grownBy w1 (some g) → w1.heap.size = W.heap.size → Kc a w1) : if Region.wanted o (yielded ops a.tmps) = true then Oper.wp P o a W Kc Q else Kc (a.put o.dst undef) W := by
 rw [if_pos hw]
 have hrun : (Instr.storeAt t (.pointer (some ⟨g, off, none⟩)) u).run P W = .ok () (W.setCells g off seg) := run_store_run t u seg hh hu ht hfit h1
 unfold Oper.wp execOp
 simp only [ho, haddr, hx, Sem.run_bind, Sem.run_pure, Result.andThen_ok, hrun]
 show Kc (a.put o.dst undef) _
 rw [hN]
 obtain ⟨cur', h2, _, h3⟩ := setCells_row seg off W cur hh hfit
 have e2 : cur' = new := Array.ext' (by rw [h3, hnew])
 rw [e2] at h2
 exact h _ h2 (setCells_grown W g off seg) (setCells_same g seg off W).2.2.2

end Go.Proofs.YtiagfjbngpbejaaDoor.Pure
namespace Go.Proofs.YtiagfjbngpbejaaDoor.Pure
set_option linter.unusedVariables false
set_option linter.unusedSimpArgs false
open Go Go.RowKit Go.Proofs.YtiagfjbngpbejaaDoor.PFnExactSingBest Go.Proofs.YtiagfjbngpbejaaDoorW.PrintWords Go.Proofs.YtiagfjbngpbejaaDoorW.PrintLast Go.Proofs.YtiagfjbngpbejaaDoorW.PrintMore

theorem hex_one {W : World} {b : Nat} {cp : List Value} (h : W.heap[b]? = some (.cells cp.toArray 52 (0, 0))) (hl : cp.length = 13) (h1 : ∀ u ∈ cp, u.oneCell' = true) : ReadsRow ((Kd.raw 13).K W) 13 W (some ⟨b, 0, none⟩) 1 [cp] := by
 refine ⟨rfl, by omega, fun _ => ⟨_, rfl, fun j p hj => ?_⟩⟩
 obtain rfl : j = 0 := by have := (List.getElem?_eq_some_iff.1 hj).1; simp at this; omega
 obtain rfl : cp = p := by simpa using hj
 refine ⟨cp, hl, ⟨rfl, hl, h1⟩, fun i u hu => ?_⟩
 rw [Nat.zero_mul, Nat.zero_add, Addr.add_lit, Nat.zero_add, cell_of_row W b i cp.toArray 52 (0, 0) h]
 simpa using hu
theorem infoHex : (Tryd.prog.info? 52).map (fun i => (i.zero, i.size, i.bytes)) = some (some (.agg #[.int .i64 0, .int .i64 0, .bool false, .int .i64 0, .bool false, .int .i64 0, .bool false, .int .i64 0, .bool false, .int .i64 0, .bool false, .int .i64 0, .bool false]), 13, 104) := by kernel_rfl
def hexSt : List Int := [0, 3, 6, 7, 10, 13, 14]
/-- The cells of a hexachord that begins at s (soft or not), its first i tones set. -/
def hexC (s : Int) (f : Bool) (i : Nat) : Array Value := #[.int .i64 s, (if 0 < i then .int .i64 s else .int .i64 0), .bool (false), (if 1 < i then .int .i64 (s + 1) else .int .i64 0), .bool (false), (if 2 < i then .int .i64 (s + 2) else .int .i64 0), .bool (false), (if 3 < i then .int .i64 (s + 3) else .int .i64 0), .bool (decide (3 < i) && f), (if 4 < i then .int .i64 (s + 4) else .int .i64 0), .bool (false), (if 5 < i then .int .i64 (s + 5) else .int .i64 0), .bool (false)]
def hexL (s : Int) : List Value := (hexC s (decide (s % 7 = 6)) 6).toList
def hexTo (i : Nat) : List (List Value) := (hexSt.filter (fun s => decide (s < (i : Int)))).map hexL
theorem hexTo_in {i : Nat} (h : i ≤ 15) (hk : (i : Int) % 7 = 0 ∨ (i : Int) % 7 = 3 ∨ (i : Int) % 7 = 6) : hexTo (i + 1) = hexTo i ++ [hexL (i : Int)] := by
 have : i = 0 ∨ i = 3 ∨ i = 6 ∨ i = 7 ∨ i = 10 ∨ i = 13 ∨ i = 14 := by omega
 rcases this with rfl | rfl | rfl | rfl | rfl | rfl | rfl <;> rfl
theorem hexTo_out {i : Nat} (h : i ≤ 15) (hk : ¬ ((i : Int) % 7 = 0 ∨ (i : Int) % 7 = 3 ∨ (i : Int) % 7 = 6)) : hexTo (i + 1) = hexTo i := by
 have : i = 1 ∨ i = 2 ∨ i = 4 ∨ i = 5 ∨ i = 8 ∨ i = 9 ∨ i = 11 ∨ i = 12 ∨ i = 15 := by omega
 rcases this with rfl | rfl | rfl | rfl | rfl | rfl | rfl | rfl | rfl <;> rfl
theorem hexTo_len (i : Nat) : (hexTo i).length ≤ 7 := by
 unfold hexTo
 rw [List.length_map]
 exact List.length_filter_le _ _
theorem hexC_one (s : Int) (f : Bool) (i : Nat) : ∀ u ∈ (hexC s f i).toList, u.oneCell' = true := by
 intro u hu
 unfold hexC at hu
 simp only [List.mem_cons, List.not_mem_nil, or_false] at hu
 rcases hu with rfl | rfl | rfl | rfl | rfl | rfl | rfl | rfl | rfl | rfl | rfl | rfl | rfl <;> first | rfl | (split <;> rfl)
def HexRes (w : World) (e : Ending) (w' : World) : Prop :=
 ∃ g v, e = .returned (.pointer (some ⟨g, 0, none⟩)) ∧ w.heap.size ≤ g ∧ w'.heap[g]? = some (.cells #[v] 49 (0, 0)) ∧ (Kd.raw 13).R 52 w' w.heap.size (fun _ => True) v (hexSt.map hexL) ∧ Below w.heap.size w w'
set_option maxHeartbeats 40000000 in
set_option maxRecDepth 100000 in
theorem impl_hexachords_calls (w : World) (ht : NTab w) : Calls Tryd.prog 23 #[] w (HexRes w) := by
 have HT := Aside0.mk ht
 clear ht
 go_enter Tryd.func23, Tryd.ntmps23
 go_wp2_with (first
  | ((with_reducible refine gate_dst (N := 8) rfl ?_); refine box_event ?hg (N := 8) ?hd (cs := #[.slice none 0 0]) (t := 49) ?hr ?_; (case hd => rfl); (case hg => rfl); (case hr => first | (go_simp; done) | (go_simp; rfl)); intro g hg w1 hbox hb; have HG := Aside0.mk hbox; have HB := Aside0.mk hb; have GE : Aside0 (w.heap.size ≤ g) := ⟨Nat.le_of_eq hg.symm⟩; clear hb hbox hg))
 go_loopg [2] 16 (fun kq v2 w' => ∃ (i : Nat) (v : Value), v2 = .int .i64 (i : Int) ∧ Aside0 (kq = 16 - i ∧ i ≤ 16) ∧ Aside0 (w'.heap[g]? = some (.cells #[v] 49 (0, 0))) ∧ Aside0 ((Kd.raw 13).R 52 w' w.heap.size (fun _ => True) v (hexTo i)) ∧ Aside0 (Below w.heap.size w w'))
 case atStart => exact ⟨0, _, rfl, ⟨rfl, by omega⟩, HG, ⟨Kd.R_nil _ _ _ _ _⟩, HB⟩
 case round =>
  clear HG HB
  obtain ⟨i, v, rfl, HX, HG, HR, HB⟩ := hrel
  obtain ⟨hkq, hi16⟩ := HX.out
  clear HX
  have p1 : IntKind.i64.wrap ((i : Int) + 6) = (i : Int) + 6 := by rw [Go.IntKind.wrap_i64]; omega
  have p2 : IntKind.i64.wrap ((i : Int) + 6 - 1) = (i : Int) + 6 - 1 := by rw [Go.IntKind.wrap_i64]; omega
  have p3 : IntKind.i64.wrap ((i : Int) + 1) = (i : Int) + 1 := by rw [Go.IntKind.wrap_i64]; omega
  by_cases hi : i < 16
  rotate_left
  ·
   obtain rfl : i = 16 := by omega
   have d1 : decide (((16 : Nat) : Int) + 6 - 1 ≤ 20) = false := rfl
   go_wp2
   go_ret
   exact ⟨g, v, rfl, GE.out, HG.out, HR.out, HB.out⟩
  have d1 : decide ((i : Int) + 6 - 1 ≤ 20) = true := decide_eq_true (by omega)
  have NX : Aside0 (16 - (i + 1) < gk ∧ i + 1 ≤ 16) := ⟨by omega, by omega⟩
  have hcon : ∀ W, NTab W → Calls Tryd.prog 35 #[.int .i64 (i : Int)] W fun e w' => e = .returned (.string (kindB (i : Int))) ∧ w' = W := fun W hW => impl_hexKindAt_calls (i : Int) W hW (by omega) (by omega)
  by_cases hk : (i : Int) % 7 = 0 ∨ (i : Int) % 7 = 3 ∨ (i : Int) % 7 = 6
  rotate_left
  ·
   have hkb : kindB (i : Int) = ⟨#[]⟩ := by unfold kindB; rw [if_neg (fun h => hk (.inl h)), if_neg (fun h => hk (.inr (.inl h))), if_neg (fun h => hk (.inr (.inr h)))]
   rw [hkb] at hcon
   have HTO := Aside0.mk (hexTo_out (by omega) hk)
   clear hkb hk hkq hi16 hi
   go_wp2_with (first
    | (go_at_call 35; refine (hcon _ (HT.out.below HB.out)).mono ?_; rintro e wk ⟨rfl, rfl⟩))
   go_roundg (16 - (i + 1))
   case measure => exact NX.out.1
   case rel => exact ⟨i + 1, v, by simp, ⟨rfl, NX.out.2⟩, HG, ⟨by rw [HTO.out]; exact HR.out⟩, HB⟩
  have HTO := Aside0.mk (hexTo_in (by omega) hk)
  have HM := Aside0.mk (And.intro hkq (And.intro hi16 hi))
  clear hkq hi16
  rcases hk with hk | hk | hk
  ·
   have hkb : kindB (i : Int) = ⟨#[104, 97, 114, 100]⟩ := by unfold kindB; rw [if_pos hk]
   rw [hkb] at hcon
   clear hkb
   have hf : decide ((i : Int) % 7 = 6) = false := by rw [hk]; rfl
   have HF : Aside0 (hexL (i : Int) = (hexC (i : Int) false 6).toList) := ⟨by unfold hexL; rw [hf]⟩
   clear hf
   have w6 : IntKind.i64.wrap ((i : Int) + 1) = (i : Int) + 1 := by rw [Go.IntKind.wrap_i64]; omega
   have w7 : IntKind.i64.wrap ((i : Int) + 2) = (i : Int) + 2 := by rw [Go.IntKind.wrap_i64]; omega
   have w8 : IntKind.i64.wrap ((i : Int) + 3) = (i : Int) + 3 := by rw [Go.IntKind.wrap_i64]; omega
   have w9 : IntKind.i64.wrap ((i : Int) + 4) = (i : Int) + 4 := by rw [Go.IntKind.wrap_i64]; omega
   have w10 : IntKind.i64.wrap ((i : Int) + 5) = (i : Int) + 5 := by rw [Go.IntKind.wrap_i64]; omega
   have w5 : IntKind.i64.wrap (i : Int) = (i : Int) := by rw [Go.IntKind.wrap_i64]; omega
   clear hk hi
   go_wp2_with (first
    | (go_at_call 35; refine (hcon _ (HT.out.below HB.out)).mono ?_; rintro e wk ⟨rfl, rfl⟩)
    | ((with_reducible refine gate_dst (N := 4) rfl ?_); refine box_event ?hg (N := 4) ?hd (cs := #[.int .i64 0, .int .i64 0, .bool false, .int .i64 0, .bool false, .int .i64 0, .bool false, .int .i64 0, .bool false, .int .i64 0, .bool false, .int .i64 0, .bool false]) (t := 52) ?hr ?_; (case hd => rfl); (case hg => rfl); (case hr => first | (go_simp; done) | (go_simp; rfl)); intro gh hg w2 hbox hb; have HH := Aside0.mk hbox; have HB2 := Aside0.mk (below_step HB.out hb); have HG2 := Aside0.mk (blk_below HG.out hb); have GH : Aside0 (w.heap.size ≤ gh) := ⟨by rw [hg]; exact HB.out.size⟩; have HR2 : Aside0 ((Kd.raw 13).R 52 w2 w.heap.size (fun k => k < gh) v (hexTo i)) := ⟨Kd.R_mono (Kd.R_below (Kd.R_bound HR.out) hb) (fun k hk => by have := hk.2.2.1; omega)⟩; have hlt := blk_lt HG.out; have HNE : Aside0 (g ≠ gh) := ⟨by omega⟩; clear hb hbox hg hlt)
    | ((with_reducible refine gate_ (.store 52 (.tmp 4) (.tmp 20)) rfl ?_); (refine box_store rfl rfl 52 (.tmp 4) (.tmp 20) rfl (g := gh) (off := 0) (new := hexC (i : Int) false 0) _ (hexC (i : Int) false 0).toList HH.out rfl rfl rfl (by kernel_rfl) (hexC_one _ _ _) (Nat.le_refl 13) rfl ?_); intro w3 hh3 hg3 hz3; have HH3 := Aside0.mk hh3; have HB3 := Aside0.mk (below_grown HB2.out hg3 GH.out HB2.out.size); have HG3 := Aside0.mk (blk_grown HG2.out hg3 (fun h => HNE.out (Option.some.inj h))); have HR3 := Aside0.mk (Kd.R_grown HR2.out hg3 (fun k hk h => by injection h with h; omega)); clear hh3 hg3 hz3))
   go_loopg [5, 6, 21] 6 (fun kq v5 v6 v21 w' => ∃ j : Int, v21 = .int .i64 j ∧ Aside0 (kq = 6 - j.toNat ∧ 0 ≤ j ∧ j ≤ 6) ∧ Aside0 (w'.heap[gh]? = some (.cells (hexC (i : Int) false j.toNat) 52 (0, 0))) ∧ Aside0 (w'.heap[g]? = some (.cells #[v] 49 (0, 0))) ∧ Aside0 ((Kd.raw 13).R 52 w' w.heap.size (fun k => k < gh) v (hexTo i)) ∧ Aside0 (Below w.heap.size w w'))
   case atStart => exact ⟨0, rfl, ⟨by decide⟩, HH3, HG3, HR3, HB3⟩
   case round =>
    clear HH HG HR HB HH3 HG2 HR2 HB2 HG3 HR3 HB3 hcon p1 p2 d1
    obtain ⟨j, rfl, HX, HH, HG, HR, HB⟩ := hrel
    obtain ⟨hkq, hj0, hj6⟩ := HX.out
    clear HX
    by_cases hj : j = 6
    rotate_left
    ·
     have hjj : j = 0 ∨ j = 1 ∨ j = 2 ∨ j = 3 ∨ j = 4 ∨ j = 5 := by omega
     clear hj0 hj6 hj
     rcases hjj with rfl | rfl | rfl | rfl | rfl | rfl
     ·
      have NJ : Aside0 (5 - 0 < gk) := ⟨by simp at hkq; omega⟩
      clear hkq
      go_wp2_with (first
       | ((with_reducible refine gate_ (.store 29 (.tmp 38) (.tmp 36)) rfl ?_); (refine box_store rfl rfl 29 (.tmp 38) (.tmp 36) rfl (g := gh) (off := 1) (new := hexC (i : Int) false 1) _ [.int .i64 (i : Int), .bool false] HH.out rfl rfl rfl (by kernel_rfl) (by simp [Value.oneCell']) (Nat.le_of_ble_eq_true rfl) rfl ?_); intro w4 hh4 hg4 hz4; have HH4 := Aside0.mk hh4; have HB4 := Aside0.mk (below_grown HB.out hg4 GH.out HB.out.size); have HG4 := Aside0.mk (blk_grown HG.out hg4 (fun h => HNE.out (Option.some.inj h))); have HR4 := Aside0.mk (Kd.R_grown HR.out hg4 (fun k hk h => by injection h with h; omega)); clear hh4 hg4 hz4))
      go_roundg (5 - 0)
      case measure => exact NJ.out
      case rel => exact ⟨1, by simp, ⟨by decide⟩, HH4, HG4, HR4, HB4⟩
     ·
      have NJ : Aside0 (5 - 1 < gk) := ⟨by simp at hkq; omega⟩
      clear hkq
      go_wp2_with (first
       | ((with_reducible refine gate_ (.store 29 (.tmp 38) (.tmp 36)) rfl ?_); (refine box_store rfl rfl 29 (.tmp 38) (.tmp 36) rfl (g := gh) (off := 3) (new := hexC (i : Int) false 2) _ [.int .i64 ((i : Int) + 1), .bool false] HH.out rfl rfl rfl (by kernel_rfl) (by simp [Value.oneCell']) (Nat.le_of_ble_eq_true rfl) rfl ?_); intro w4 hh4 hg4 hz4; have HH4 := Aside0.mk hh4; have HB4 := Aside0.mk (below_grown HB.out hg4 GH.out HB.out.size); have HG4 := Aside0.mk (blk_grown HG.out hg4 (fun h => HNE.out (Option.some.inj h))); have HR4 := Aside0.mk (Kd.R_grown HR.out hg4 (fun k hk h => by injection h with h; omega)); clear hh4 hg4 hz4))
      go_roundg (5 - 1)
      case measure => exact NJ.out
      case rel => exact ⟨2, by simp, ⟨by decide⟩, HH4, HG4, HR4, HB4⟩
     ·
      have NJ : Aside0 (5 - 2 < gk) := ⟨by simp at hkq; omega⟩
      clear hkq
      go_wp2_with (first
       | ((with_reducible refine gate_ (.store 29 (.tmp 38) (.tmp 36)) rfl ?_); (refine box_store rfl rfl 29 (.tmp 38) (.tmp 36) rfl (g := gh) (off := 5) (new := hexC (i : Int) false 3) _ [.int .i64 ((i : Int) + 2), .bool false] HH.out rfl rfl rfl (by kernel_rfl) (by simp [Value.oneCell']) (Nat.le_of_ble_eq_true rfl) rfl ?_); intro w4 hh4 hg4 hz4; have HH4 := Aside0.mk hh4; have HB4 := Aside0.mk (below_grown HB.out hg4 GH.out HB.out.size); have HG4 := Aside0.mk (blk_grown HG.out hg4 (fun h => HNE.out (Option.some.inj h))); have HR4 := Aside0.mk (Kd.R_grown HR.out hg4 (fun k hk h => by injection h with h; omega)); clear hh4 hg4 hz4))
      go_roundg (5 - 2)
      case measure => exact NJ.out
      case rel => exact ⟨3, by simp, ⟨by decide⟩, HH4, HG4, HR4, HB4⟩
     ·
      have NJ : Aside0 (5 - 3 < gk) := ⟨by simp at hkq; omega⟩
      clear hkq
      go_wp2_with (first
       | ((with_reducible refine gate_ (.store 29 (.tmp 38) (.tmp 36)) rfl ?_); (refine box_store rfl rfl 29 (.tmp 38) (.tmp 36) rfl (g := gh) (off := 7) (new := hexC (i : Int) false 4) _ [.int .i64 ((i : Int) + 3), .bool false] HH.out rfl rfl rfl (by kernel_rfl) (by simp [Value.oneCell']) (Nat.le_of_ble_eq_true rfl) rfl ?_); intro w4 hh4 hg4 hz4; have HH4 := Aside0.mk hh4; have HB4 := Aside0.mk (below_grown HB.out hg4 GH.out HB.out.size); have HG4 := Aside0.mk (blk_grown HG.out hg4 (fun h => HNE.out (Option.some.inj h))); have HR4 := Aside0.mk (Kd.R_grown HR.out hg4 (fun k hk h => by injection h with h; omega)); clear hh4 hg4 hz4))
      go_roundg (5 - 3)
      case measure => exact NJ.out
      case rel => exact ⟨4, by simp, ⟨by decide⟩, HH4, HG4, HR4, HB4⟩
     ·
      have NJ : Aside0 (5 - 4 < gk) := ⟨by simp at hkq; omega⟩
      clear hkq
      go_wp2_with (first
       | ((with_reducible refine gate_ (.store 29 (.tmp 38) (.tmp 36)) rfl ?_); (refine box_store rfl rfl 29 (.tmp 38) (.tmp 36) rfl (g := gh) (off := 9) (new := hexC (i : Int) false 5) _ [.int .i64 ((i : Int) + 4), .bool false] HH.out rfl rfl rfl (by kernel_rfl) (by simp [Value.oneCell']) (Nat.le_of_ble_eq_true rfl) rfl ?_); intro w4 hh4 hg4 hz4; have HH4 := Aside0.mk hh4; have HB4 := Aside0.mk (below_grown HB.out hg4 GH.out HB.out.size); have HG4 := Aside0.mk (blk_grown HG.out hg4 (fun h => HNE.out (Option.some.inj h))); have HR4 := Aside0.mk (Kd.R_grown HR.out hg4 (fun k hk h => by injection h with h; omega)); clear hh4 hg4 hz4))
      go_roundg (5 - 4)
      case measure => exact NJ.out
      case rel => exact ⟨5, by simp, ⟨by decide⟩, HH4, HG4, HR4, HB4⟩
     ·
      have NJ : Aside0 (5 - 5 < gk) := ⟨by simp at hkq; omega⟩
      clear hkq
      go_wp2_with (first
       | ((with_reducible refine gate_ (.store 29 (.tmp 38) (.tmp 36)) rfl ?_); (refine box_store rfl rfl 29 (.tmp 38) (.tmp 36) rfl (g := gh) (off := 11) (new := hexC (i : Int) false 6) _ [.int .i64 ((i : Int) + 5), .bool false] HH.out rfl rfl rfl (by kernel_rfl) (by simp [Value.oneCell']) (Nat.le_of_ble_eq_true rfl) rfl ?_); intro w4 hh4 hg4 hz4; have HH4 := Aside0.mk hh4; have HB4 := Aside0.mk (below_grown HB.out hg4 GH.out HB.out.size); have HG4 := Aside0.mk (blk_grown HG.out hg4 (fun h => HNE.out (Option.some.inj h))); have HR4 := Aside0.mk (Kd.R_grown HR.out hg4 (fun k hk h => by injection h with h; omega)); clear hh4 hg4 hz4))
      go_roundg (5 - 5)
      case measure => exact NJ.out
      case rel => exact ⟨6, by simp, ⟨by decide⟩, HH4, HG4, HR4, HB4⟩
    subst hj
    have hhx : wr.heap[gh]? = some (.cells (#[.int .i64 (i : Int), .int .i64 (i : Int), .bool false, .int .i64 ((i : Int) + 1), .bool false, .int .i64 ((i : Int) + 2), .bool false, .int .i64 ((i : Int) + 3), .bool false, .int .i64 ((i : Int) + 4), .bool false, .int .i64 ((i : Int) + 5), .bool false]) 52 (0, 0)) := HH.out
    clear HH
    have HH := Aside0.mk hhx
    clear hhx
    go_upto_region 14 with fail
    have HX0 : Aside0 (wr.cell? ⟨g, 0, none⟩ = some v ∧ wr.cell? ⟨gh, 0, none⟩ = some (.int .i64 (i : Int)) ∧ wr.cell? ⟨gh, 1, none⟩ = some (.int .i64 (i : Int)) ∧ wr.cell? ⟨gh, 2, none⟩ = some (.bool false) ∧ wr.cell? ⟨gh, 3, none⟩ = some (.int .i64 ((i : Int) + 1)) ∧ wr.cell? ⟨gh, 4, none⟩ = some (.bool false) ∧ wr.cell? ⟨gh, 5, none⟩ = some (.int .i64 ((i : Int) + 2)) ∧ wr.cell? ⟨gh, 6, none⟩ = some (.bool false) ∧ wr.cell? ⟨gh, 7, none⟩ = some (.int .i64 ((i : Int) + 3)) ∧ wr.cell? ⟨gh, 8, none⟩ = some (.bool false) ∧ wr.cell? ⟨gh, 9, none⟩ = some (.int .i64 ((i : Int) + 4)) ∧ wr.cell? ⟨gh, 10, none⟩ = some (.bool false) ∧ wr.cell? ⟨gh, 11, none⟩ = some (.int .i64 ((i : Int) + 5)) ∧ wr.cell? ⟨gh, 12, none⟩ = some (.bool false)) := ⟨⟨blk_cell HG.out 0, (blk_cell HH.out 0).trans rfl, (blk_cell HH.out 1).trans rfl, (blk_cell HH.out 2).trans rfl, (blk_cell HH.out 3).trans rfl, (blk_cell HH.out 4).trans rfl, (blk_cell HH.out 5).trans rfl, (blk_cell HH.out 6).trans rfl, (blk_cell HH.out 7).trans rfl, (blk_cell HH.out 8).trans rfl, (blk_cell HH.out 9).trans rfl, (blk_cell HH.out 10).trans rfl, (blk_cell HH.out 11).trans rfl, (blk_cell HH.out 12).trans rfl⟩⟩
    obtain ⟨wd, hwd⟩ : ∃ wd, wd = wr.drew := ⟨_, rfl⟩
    refine start_ (n := 11) (S := (fun w' => w'.cell? ⟨g, 0, none⟩ = some v ∧ w'.cell? ⟨gh, 0, none⟩ = some (.int .i64 (i : Int)) ∧ w'.cell? ⟨gh, 1, none⟩ = some (.int .i64 (i : Int)) ∧ w'.cell? ⟨gh, 2, none⟩ = some (.bool false) ∧ w'.cell? ⟨gh, 3, none⟩ = some (.int .i64 ((i : Int) + 1)) ∧ w'.cell? ⟨gh, 4, none⟩ = some (.bool false) ∧ w'.cell? ⟨gh, 5, none⟩ = some (.int .i64 ((i : Int) + 2)) ∧ w'.cell? ⟨gh, 6, none⟩ = some (.bool false) ∧ w'.cell? ⟨gh, 7, none⟩ = some (.int .i64 ((i : Int) + 3)) ∧ w'.cell? ⟨gh, 8, none⟩ = some (.bool false) ∧ w'.cell? ⟨gh, 9, none⟩ = some (.int .i64 ((i : Int) + 4)) ∧ w'.cell? ⟨gh, 10, none⟩ = some (.bool false) ∧ w'.cell? ⟨gh, 11, none⟩ = some (.int .i64 ((i : Int) + 5)) ∧ w'.cell? ⟨gh, 12, none⟩ = some (.bool false))) (ds := [7, 10]) (rowB 11 0) (by kernel_rfl) rfl rfl ⟨blk_cell (blk_drew HG.out) 0, (blk_cell (blk_drew HH.out) 0).trans rfl, (blk_cell (blk_drew HH.out) 1).trans rfl, (blk_cell (blk_drew HH.out) 2).trans rfl, (blk_cell (blk_drew HH.out) 3).trans rfl, (blk_cell (blk_drew HH.out) 4).trans rfl, (blk_cell (blk_drew HH.out) 5).trans rfl, (blk_cell (blk_drew HH.out) 6).trans rfl, (blk_cell (blk_drew HH.out) 7).trans rfl, (blk_cell (blk_drew HH.out) 8).trans rfl, (blk_cell (blk_drew HH.out) 9).trans rfl, (blk_cell (blk_drew HH.out) 10).trans rfl, (blk_cell (blk_drew HH.out) 11).trans rfl, (blk_cell (blk_drew HH.out) 12).trans rfl⟩ (fun hHeld => ?_)
    refine pure_ (i := 0) (N := some 40) (v := ?_) (a' := ?_) (rowB 11 1) rfl rfl (by kernel_rfl) (fun _ _ _ h => h) (Or.inl ⟨by rfl, ?_⟩) ?_ ?_
    rotate_left
    ·
     intro w'
     go_simp
     with_reducible rfl
    rotate_left
    ·
     simp only [Act.put, List.setIfInBounds_toArray, List.set_cons_zero, List.set_cons_succ, i64_w, i32_w]
     rfl
    refine pure_ (i := 1) (N := some 41) (v := ?_) (a' := ?_) (rowB 11 3) rfl rfl (by kernel_rfl) (fun _ _ _ h => h) (Or.inl ⟨by rfl, ?_⟩) ?_ ?_
    rotate_left
    ·
     intro w'
     go_simp
     with_reducible rfl
    rotate_left
    ·
     simp only [Act.put, List.setIfInBounds_toArray, List.set_cons_zero, List.set_cons_succ, i64_w, i32_w]
     rfl
    refine pure_ (i := 2) (N := some 42) (v := ?_) (a' := ?_) (rowB 11 7) rfl rfl (by kernel_rfl) (fun _ _ _ h => h) (Or.inl ⟨by rfl, ?_⟩) ?_ ?_
    rotate_left
    ·
     intro w'
     go_simp
     with_reducible rfl
    rotate_left
    ·
     simp only [Act.put, List.setIfInBounds_toArray, List.set_cons_zero, List.set_cons_succ, i64_w, i32_w]
     rfl
    refine pure_ (i := 3) (N := some 43) (v := ?_) (a' := ?_) (rowB 11 15) rfl rfl (by kernel_rfl) (fun _ _ _ h => h) (Or.inl ⟨by rfl, ?_⟩) ?_ ?_
    rotate_left
    ·
     intro w'
     go_simp
     with_reducible rfl
    rotate_left
    ·
     simp only [Act.put, List.setIfInBounds_toArray, List.set_cons_zero, List.set_cons_succ, i64_w, i32_w]
     rfl
    refine take_ (i := 4) (N := some 44) (v := ?_) (a' := ?_) (rowB 11 31) rfl rfl (by kernel_rfl) (fun _ _ _ h => h) (Or.inl ⟨by rfl, ?_⟩) hHeld ?_ ?_
    rotate_left
    ·
     rintro w' ⟨s0, s1, s2, s3, s4, s5, s6, s7, s8, s9, s10, s11, s12, s13⟩
     go_simp
     with_reducible rfl
    rotate_left
    ·
     simp only [Act.put, List.setIfInBounds_toArray, List.set_cons_zero, List.set_cons_succ, i64_w, i32_w]
     rfl
    refine take_ (i := 5) (N := some 45) (v := ?_) (a' := ?_) (rowB 11 63) rfl rfl (by kernel_rfl) (fun _ _ _ h => h) (Or.inl ⟨by rfl, ?_⟩) hHeld ?_ ?_
    rotate_left
    ·
     rintro w' ⟨s0, s1, s2, s3, s4, s5, s6, s7, s8, s9, s10, s11, s12, s13⟩
     go_simp
     with_reducible rfl
    rotate_left
    ·
     simp only [Act.put, List.setIfInBounds_toArray, List.set_cons_zero, List.set_cons_succ, i64_w, i32_w]
     rfl
    refine one_ (i := 6) (N := some 46) (rowB 11 127) rfl rfl (by kernel_rfl) (by decide) (fun K hK => ?_)
    refine event_step (w1 := ?_) (v := ?_) (by rfl) ?_ ?_
    rotate_left 2
    ·
     go_simp
     constructor
     ·
      rfl
     ·
      rfl
    refine hK.out _ _ (by have hb := below_alloc (Below.refl wr.drew.heap.size wr.drew) (.cells (#[.int .i64 (i : Int), .int .i64 (i : Int), .bool false, .int .i64 ((i : Int) + 1), .bool false, .int .i64 ((i : Int) + 2), .bool false, .int .i64 ((i : Int) + 3), .bool false, .int .i64 ((i : Int) + 4), .bool false, .int .i64 ((i : Int) + 5), .bool false]) 52 (0, 0)); exact ⟨blk_cell (blk_below (blk_drew HG.out) hb) 0, (blk_cell (blk_below (blk_drew HH.out) hb) 0).trans rfl, (blk_cell (blk_below (blk_drew HH.out) hb) 1).trans rfl, (blk_cell (blk_below (blk_drew HH.out) hb) 2).trans rfl, (blk_cell (blk_below (blk_drew HH.out) hb) 3).trans rfl, (blk_cell (blk_below (blk_drew HH.out) hb) 4).trans rfl, (blk_cell (blk_below (blk_drew HH.out) hb) 5).trans rfl, (blk_cell (blk_below (blk_drew HH.out) hb) 6).trans rfl, (blk_cell (blk_below (blk_drew HH.out) hb) 7).trans rfl, (blk_cell (blk_below (blk_drew HH.out) hb) 8).trans rfl, (blk_cell (blk_below (blk_drew HH.out) hb) 9).trans rfl, (blk_cell (blk_below (blk_drew HH.out) hb) 10).trans rfl, (blk_cell (blk_below (blk_drew HH.out) hb) 11).trans rfl, (blk_cell (blk_below (blk_drew HH.out) hb) 12).trans rfl⟩) (fun hHeld => ?_)
    clear hK K
    refine norm_ (a' := ?_) ?_ ?_
    rotate_left
    ·
     show Act.put _ (some 46) _ = _
     simp only [Act.put, List.setIfInBounds_toArray, List.set_cons_zero, List.set_cons_succ, i64_w, i32_w]
     rfl
    refine last_ (i := 7) (N := some 47) (rowB 11 255) rfl rfl (by kernel_rfl) (by decide) (fun K hK => ?_)
    refine Kd.R_append_rows_step (Kd.raw 13) (w0 := w) w.heap.size (by rfl) (.tmp 44) (.tmp 46) 47 52 _ 104 rfl Tryd.underlying47 infoHex rfl (by decide) (by omega) v (hexTo i) [(#[.int .i64 (i : Int), .int .i64 (i : Int), .bool false, .int .i64 ((i : Int) + 1), .bool false, .int .i64 ((i : Int) + 2), .bool false, .int .i64 ((i : Int) + 3), .bool false, .int .i64 ((i : Int) + 4), .bool false, .int .i64 ((i : Int) + 5), .bool false] : Array Value).toList] (some ⟨wr.drew.heap.size, 0, none⟩) 1 1 (fun _ => True) (fun _ => False) rfl rfl ?aO ?aR (fun _ _ h => h) (fun _ h => h.elim) (fun _ _ => trivial) ?aB ?aS ?aL ?_
    (case aO => exact Kd.R_alloc (Kd.R_drew (Kd.R_mono HR.out (fun _ _ => trivial))) _)
    (case aR => exact hex_one (blk_new _ _) rfl (hexC_one (i : Int) false 6))
    (case aB => exact below_alloc (below_drew HB.out) _)
    (case aS => exact (below_alloc (below_drew HB.out) _).size)
    (case aL => have := hexTo_len i; show ((hexTo i).length + 1) * 104 ≤ 140737488355328; omega)
    intro v47 w8 ho hb hg hat
    have HO8 := Aside0.mk ho
    have HB8 := Aside0.mk hb
    have HG8 := Aside0.mk (blk_grown (blk_alloc (blk_drew HG.out) _) hg (Kd.R_ne HR.out HG.out (by decide)))
    clear ho hb hg hat
    refine hK.out _ _ ?_
    clear hK K
    refine norm_ (a' := ?_) ?_ ?_
    rotate_left
    ·
     show Act.put _ (some 47) _ = _
     simp only [Act.put, List.setIfInBounds_toArray, List.set_cons_zero, List.set_cons_succ, i64_w, i32_w]
     rfl
    refine pure_ (i := 8) (N := some 48) (v := ?_) (a' := ?_) (rowB 11 511) rfl rfl (by kernel_rfl) (fun _ _ _ h => h) (Or.inl ⟨by rfl, ?_⟩) ?_ ?_
    rotate_left
    ·
     intro w'
     go_simp
     with_reducible rfl
    rotate_left
    ·
     simp only [Act.put, List.setIfInBounds_toArray, List.set_cons_zero, List.set_cons_succ, i64_w, i32_w]
     rfl
    refine pure_ (i := 9) (N := some 49) (v := ?_) (a' := ?_) (rowB 11 1023) rfl rfl (by kernel_rfl) (fun _ _ _ h => h) (Or.inl ⟨by rfl, ?_⟩) ?_ ?_
    rotate_left
    ·
     intro w'
     go_simp
     with_reducible rfl
    rotate_left
    ·
     simp only [Act.put, List.setIfInBounds_toArray, List.set_cons_zero, List.set_cons_succ, i64_w, i32_w]
     rfl
    refine last_ (i := 10) (N := none) (rowB 11 2047) rfl rfl (by kernel_rfl) (by decide) (fun K hK => ?_)
    refine box_store_step (by rfl) rfl 47 (.tmp 49) (.tmp 47) rfl (g := g) (off := 0) (new := #[v47]) v47 [v47] HG8.out rfl rfl (by obtain ⟨_, _, rfl⟩ := Kd.R_slice HO8.out; rfl) (by kernel_rfl) (by obtain ⟨_, _, rfl⟩ := Kd.R_slice HO8.out; simp [Value.oneCell']) (Nat.le_of_ble_eq_true rfl) rfl ?_
    intro w9 hh9 hg9 hz9
    have HG9 := Aside0.mk hh9
    have HB9 := Aside0.mk (below_grown HB8.out hg9 GE.out HB8.out.size)
    have HO9 := Aside0.mk (Kd.R_mono (Kd.R_grown (Kd.R_types HO8.out HG8.out (by intro q hq; have hq2 : q = 52 := List.mem_singleton.1 hq; rw [hq2]; decide)) hg9 (fun k hk h => hk.2 (Option.some.inj h))) (fun _ hk => hk.1))
    clear hh9 hg9 hz9
    refine hK.out _ _ ?_
    clear hK K
    refine done_ (by kernel_rfl) ?_
    go_wp2
    go_roundg (16 - (i + 1))
    case measure => exact NX.out.1
    case rel => exact ⟨i + 1, v47, by simp, ⟨rfl, NX.out.2⟩, HG9, ⟨by rw [HTO.out, HF.out]; exact HO9.out⟩, HB9⟩
  ·
   have hkb : kindB (i : Int) = ⟨#[110, 97, 116, 117, 114, 97, 108]⟩ := by unfold kindB; rw [if_neg (by omega), if_pos hk]
   rw [hkb] at hcon
   clear hkb
   have hf : decide ((i : Int) % 7 = 6) = false := by rw [hk]; rfl
   have HF : Aside0 (hexL (i : Int) = (hexC (i : Int) false 6).toList) := ⟨by unfold hexL; rw [hf]⟩
   clear hf
   have w6 : IntKind.i64.wrap ((i : Int) + 1) = (i : Int) + 1 := by rw [Go.IntKind.wrap_i64]; omega
   have w7 : IntKind.i64.wrap ((i : Int) + 2) = (i : Int) + 2 := by rw [Go.IntKind.wrap_i64]; omega
   have w8 : IntKind.i64.wrap ((i : Int) + 3) = (i : Int) + 3 := by rw [Go.IntKind.wrap_i64]; omega
   have w9 : IntKind.i64.wrap ((i : Int) + 4) = (i : Int) + 4 := by rw [Go.IntKind.wrap_i64]; omega
   have w10 : IntKind.i64.wrap ((i : Int) + 5) = (i : Int) + 5 := by rw [Go.IntKind.wrap_i64]; omega
   have w5 : IntKind.i64.wrap (i : Int) = (i : Int) := by rw [Go.IntKind.wrap_i64]; omega
   clear hk hi
   go_wp2_with (first
    | (go_at_call 35; refine (hcon _ (HT.out.below HB.out)).mono ?_; rintro e wk ⟨rfl, rfl⟩)
    | ((with_reducible refine gate_dst (N := 4) rfl ?_); refine box_event ?hg (N := 4) ?hd (cs := #[.int .i64 0, .int .i64 0, .bool false, .int .i64 0, .bool false, .int .i64 0, .bool false, .int .i64 0, .bool false, .int .i64 0, .bool false, .int .i64 0, .bool false]) (t := 52) ?hr ?_; (case hd => rfl); (case hg => rfl); (case hr => first | (go_simp; done) | (go_simp; rfl)); intro gh hg w2 hbox hb; have HH := Aside0.mk hbox; have HB2 := Aside0.mk (below_step HB.out hb); have HG2 := Aside0.mk (blk_below HG.out hb); have GH : Aside0 (w.heap.size ≤ gh) := ⟨by rw [hg]; exact HB.out.size⟩; have HR2 : Aside0 ((Kd.raw 13).R 52 w2 w.heap.size (fun k => k < gh) v (hexTo i)) := ⟨Kd.R_mono (Kd.R_below (Kd.R_bound HR.out) hb) (fun k hk => by have := hk.2.2.1; omega)⟩; have hlt := blk_lt HG.out; have HNE : Aside0 (g ≠ gh) := ⟨by omega⟩; clear hb hbox hg hlt)
    | ((with_reducible refine gate_ (.store 52 (.tmp 4) (.tmp 20)) rfl ?_); (refine box_store rfl rfl 52 (.tmp 4) (.tmp 20) rfl (g := gh) (off := 0) (new := hexC (i : Int) false 0) _ (hexC (i : Int) false 0).toList HH.out rfl rfl rfl (by kernel_rfl) (hexC_one _ _ _) (Nat.le_refl 13) rfl ?_); intro w3 hh3 hg3 hz3; have HH3 := Aside0.mk hh3; have HB3 := Aside0.mk (below_grown HB2.out hg3 GH.out HB2.out.size); have HG3 := Aside0.mk (blk_grown HG2.out hg3 (fun h => HNE.out (Option.some.inj h))); have HR3 := Aside0.mk (Kd.R_grown HR2.out hg3 (fun k hk h => by injection h with h; omega)); clear hh3 hg3 hz3))
   go_loopg [5, 6, 21] 6 (fun kq v5 v6 v21 w' => ∃ j : Int, v21 = .int .i64 j ∧ Aside0 (kq = 6 - j.toNat ∧ 0 ≤ j ∧ j ≤ 6) ∧ Aside0 (w'.heap[gh]? = some (.cells (hexC (i : Int) false j.toNat) 52 (0, 0))) ∧ Aside0 (w'.heap[g]? = some (.cells #[v] 49 (0, 0))) ∧ Aside0 ((Kd.raw 13).R 52 w' w.heap.size (fun k => k < gh) v (hexTo i)) ∧ Aside0 (Below w.heap.size w w'))
   case atStart => exact ⟨0, rfl, ⟨by decide⟩, HH3, HG3, HR3, HB3⟩
   case round =>
    clear HH HG HR HB HH3 HG2 HR2 HB2 HG3 HR3 HB3 hcon p1 p2 d1
    obtain ⟨j, rfl, HX, HH, HG, HR, HB⟩ := hrel
    obtain ⟨hkq, hj0, hj6⟩ := HX.out
    clear HX
    by_cases hj : j = 6
    rotate_left
    ·
     have hjj : j = 0 ∨ j = 1 ∨ j = 2 ∨ j = 3 ∨ j = 4 ∨ j = 5 := by omega
     clear hj0 hj6 hj
     rcases hjj with rfl | rfl | rfl | rfl | rfl | rfl
     ·
      have NJ : Aside0 (5 - 0 < gk) := ⟨by simp at hkq; omega⟩
      clear hkq
      go_wp2_with (first
       | ((with_reducible refine gate_ (.store 29 (.tmp 38) (.tmp 36)) rfl ?_); (refine box_store rfl rfl 29 (.tmp 38) (.tmp 36) rfl (g := gh) (off := 1) (new := hexC (i : Int) false 1) _ [.int .i64 (i : Int), .bool false] HH.out rfl rfl rfl (by kernel_rfl) (by simp [Value.oneCell']) (Nat.le_of_ble_eq_true rfl) rfl ?_); intro w4 hh4 hg4 hz4; have HH4 := Aside0.mk hh4; have HB4 := Aside0.mk (below_grown HB.out hg4 GH.out HB.out.size); have HG4 := Aside0.mk (blk_grown HG.out hg4 (fun h => HNE.out (Option.some.inj h))); have HR4 := Aside0.mk (Kd.R_grown HR.out hg4 (fun k hk h => by injection h with h; omega)); clear hh4 hg4 hz4))
      go_roundg (5 - 0)
      case measure => exact NJ.out
      case rel => exact ⟨1, by simp, ⟨by decide⟩, HH4, HG4, HR4, HB4⟩
     ·
      have NJ : Aside0 (5 - 1 < gk) := ⟨by simp at hkq; omega⟩
      clear hkq
      go_wp2_with (first
       | ((with_reducible refine gate_ (.store 29 (.tmp 38) (.tmp 36)) rfl ?_); (refine box_store rfl rfl 29 (.tmp 38) (.tmp 36) rfl (g := gh) (off := 3) (new := hexC (i : Int) false 2) _ [.int .i64 ((i : Int) + 1), .bool false] HH.out rfl rfl rfl (by kernel_rfl) (by simp [Value.oneCell']) (Nat.le_of_ble_eq_true rfl) rfl ?_); intro w4 hh4 hg4 hz4; have HH4 := Aside0.mk hh4; have HB4 := Aside0.mk (below_grown HB.out hg4 GH.out HB.out.size); have HG4 := Aside0.mk (blk_grown HG.out hg4 (fun h => HNE.out (Option.some.inj h))); have HR4 := Aside0.mk (Kd.R_grown HR.out hg4 (fun k hk h => by injection h with h; omega)); clear hh4 hg4 hz4))
      go_roundg (5 - 1)
      case measure => exact NJ.out
      case rel => exact ⟨2, by simp, ⟨by decide⟩, HH4, HG4, HR4, HB4⟩
     ·
      have NJ : Aside0 (5 - 2 < gk) := ⟨by simp at hkq; omega⟩
      clear hkq
      go_wp2_with (first
       | ((with_reducible refine gate_ (.store 29 (.tmp 38) (.tmp 36)) rfl ?_); (refine box_store rfl rfl 29 (.tmp 38) (.tmp 36) rfl (g := gh) (off := 5) (new := hexC (i : Int) false 3) _ [.int .i64 ((i : Int) + 2), .bool false] HH.out rfl rfl rfl (by kernel_rfl) (by simp [Value.oneCell']) (Nat.le_of_ble_eq_true rfl) rfl ?_); intro w4 hh4 hg4 hz4; have HH4 := Aside0.mk hh4; have HB4 := Aside0.mk (below_grown HB.out hg4 GH.out HB.out.size); have HG4 := Aside0.mk (blk_grown HG.out hg4 (fun h => HNE.out (Option.some.inj h))); have HR4 := Aside0.mk (Kd.R_grown HR.out hg4 (fun k hk h => by injection h with h; omega)); clear hh4 hg4 hz4))
      go_roundg (5 - 2)
      case measure => exact NJ.out
      case rel => exact ⟨3, by simp, ⟨by decide⟩, HH4, HG4, HR4, HB4⟩
     ·
      have NJ : Aside0 (5 - 3 < gk) := ⟨by simp at hkq; omega⟩
      clear hkq
      go_wp2_with (first
       | ((with_reducible refine gate_ (.store 29 (.tmp 38) (.tmp 36)) rfl ?_); (refine box_store rfl rfl 29 (.tmp 38) (.tmp 36) rfl (g := gh) (off := 7) (new := hexC (i : Int) false 4) _ [.int .i64 ((i : Int) + 3), .bool false] HH.out rfl rfl rfl (by kernel_rfl) (by simp [Value.oneCell']) (Nat.le_of_ble_eq_true rfl) rfl ?_); intro w4 hh4 hg4 hz4; have HH4 := Aside0.mk hh4; have HB4 := Aside0.mk (below_grown HB.out hg4 GH.out HB.out.size); have HG4 := Aside0.mk (blk_grown HG.out hg4 (fun h => HNE.out (Option.some.inj h))); have HR4 := Aside0.mk (Kd.R_grown HR.out hg4 (fun k hk h => by injection h with h; omega)); clear hh4 hg4 hz4))
      go_roundg (5 - 3)
      case measure => exact NJ.out
      case rel => exact ⟨4, by simp, ⟨by decide⟩, HH4, HG4, HR4, HB4⟩
     ·
      have NJ : Aside0 (5 - 4 < gk) := ⟨by simp at hkq; omega⟩
      clear hkq
      go_wp2_with (first
       | ((with_reducible refine gate_ (.store 29 (.tmp 38) (.tmp 36)) rfl ?_); (refine box_store rfl rfl 29 (.tmp 38) (.tmp 36) rfl (g := gh) (off := 9) (new := hexC (i : Int) false 5) _ [.int .i64 ((i : Int) + 4), .bool false] HH.out rfl rfl rfl (by kernel_rfl) (by simp [Value.oneCell']) (Nat.le_of_ble_eq_true rfl) rfl ?_); intro w4 hh4 hg4 hz4; have HH4 := Aside0.mk hh4; have HB4 := Aside0.mk (below_grown HB.out hg4 GH.out HB.out.size); have HG4 := Aside0.mk (blk_grown HG.out hg4 (fun h => HNE.out (Option.some.inj h))); have HR4 := Aside0.mk (Kd.R_grown HR.out hg4 (fun k hk h => by injection h with h; omega)); clear hh4 hg4 hz4))
      go_roundg (5 - 4)
      case measure => exact NJ.out
      case rel => exact ⟨5, by simp, ⟨by decide⟩, HH4, HG4, HR4, HB4⟩
     ·
      have NJ : Aside0 (5 - 5 < gk) := ⟨by simp at hkq; omega⟩
      clear hkq
      go_wp2_with (first
       | ((with_reducible refine gate_ (.store 29 (.tmp 38) (.tmp 36)) rfl ?_); (refine box_store rfl rfl 29 (.tmp 38) (.tmp 36) rfl (g := gh) (off := 11) (new := hexC (i : Int) false 6) _ [.int .i64 ((i : Int) + 5), .bool false] HH.out rfl rfl rfl (by kernel_rfl) (by simp [Value.oneCell']) (Nat.le_of_ble_eq_true rfl) rfl ?_); intro w4 hh4 hg4 hz4; have HH4 := Aside0.mk hh4; have HB4 := Aside0.mk (below_grown HB.out hg4 GH.out HB.out.size); have HG4 := Aside0.mk (blk_grown HG.out hg4 (fun h => HNE.out (Option.some.inj h))); have HR4 := Aside0.mk (Kd.R_grown HR.out hg4 (fun k hk h => by injection h with h; omega)); clear hh4 hg4 hz4))
      go_roundg (5 - 5)
      case measure => exact NJ.out
      case rel => exact ⟨6, by simp, ⟨by decide⟩, HH4, HG4, HR4, HB4⟩
    subst hj
    have hhx : wr.heap[gh]? = some (.cells (#[.int .i64 (i : Int), .int .i64 (i : Int), .bool false, .int .i64 ((i : Int) + 1), .bool false, .int .i64 ((i : Int) + 2), .bool false, .int .i64 ((i : Int) + 3), .bool false, .int .i64 ((i : Int) + 4), .bool false, .int .i64 ((i : Int) + 5), .bool false]) 52 (0, 0)) := HH.out
    clear HH
    have HH := Aside0.mk hhx
    clear hhx
    go_upto_region 14 with fail
    have HX0 : Aside0 (wr.cell? ⟨g, 0, none⟩ = some v ∧ wr.cell? ⟨gh, 0, none⟩ = some (.int .i64 (i : Int)) ∧ wr.cell? ⟨gh, 1, none⟩ = some (.int .i64 (i : Int)) ∧ wr.cell? ⟨gh, 2, none⟩ = some (.bool false) ∧ wr.cell? ⟨gh, 3, none⟩ = some (.int .i64 ((i : Int) + 1)) ∧ wr.cell? ⟨gh, 4, none⟩ = some (.bool false) ∧ wr.cell? ⟨gh, 5, none⟩ = some (.int .i64 ((i : Int) + 2)) ∧ wr.cell? ⟨gh, 6, none⟩ = some (.bool false) ∧ wr.cell? ⟨gh, 7, none⟩ = some (.int .i64 ((i : Int) + 3)) ∧ wr.cell? ⟨gh, 8, none⟩ = some (.bool false) ∧ wr.cell? ⟨gh, 9, none⟩ = some (.int .i64 ((i : Int) + 4)) ∧ wr.cell? ⟨gh, 10, none⟩ = some (.bool false) ∧ wr.cell? ⟨gh, 11, none⟩ = some (.int .i64 ((i : Int) + 5)) ∧ wr.cell? ⟨gh, 12, none⟩ = some (.bool false)) := ⟨⟨blk_cell HG.out 0, (blk_cell HH.out 0).trans rfl, (blk_cell HH.out 1).trans rfl, (blk_cell HH.out 2).trans rfl, (blk_cell HH.out 3).trans rfl, (blk_cell HH.out 4).trans rfl, (blk_cell HH.out 5).trans rfl, (blk_cell HH.out 6).trans rfl, (blk_cell HH.out 7).trans rfl, (blk_cell HH.out 8).trans rfl, (blk_cell HH.out 9).trans rfl, (blk_cell HH.out 10).trans rfl, (blk_cell HH.out 11).trans rfl, (blk_cell HH.out 12).trans rfl⟩⟩
    obtain ⟨wd, hwd⟩ : ∃ wd, wd = wr.drew := ⟨_, rfl⟩
    refine start_ (n := 11) (S := (fun w' => w'.cell? ⟨g, 0, none⟩ = some v ∧ w'.cell? ⟨gh, 0, none⟩ = some (.int .i64 (i : Int)) ∧ w'.cell? ⟨gh, 1, none⟩ = some (.int .i64 (i : Int)) ∧ w'.cell? ⟨gh, 2, none⟩ = some (.bool false) ∧ w'.cell? ⟨gh, 3, none⟩ = some (.int .i64 ((i : Int) + 1)) ∧ w'.cell? ⟨gh, 4, none⟩ = some (.bool false) ∧ w'.cell? ⟨gh, 5, none⟩ = some (.int .i64 ((i : Int) + 2)) ∧ w'.cell? ⟨gh, 6, none⟩ = some (.bool false) ∧ w'.cell? ⟨gh, 7, none⟩ = some (.int .i64 ((i : Int) + 3)) ∧ w'.cell? ⟨gh, 8, none⟩ = some (.bool false) ∧ w'.cell? ⟨gh, 9, none⟩ = some (.int .i64 ((i : Int) + 4)) ∧ w'.cell? ⟨gh, 10, none⟩ = some (.bool false) ∧ w'.cell? ⟨gh, 11, none⟩ = some (.int .i64 ((i : Int) + 5)) ∧ w'.cell? ⟨gh, 12, none⟩ = some (.bool false))) (ds := [7, 10]) (rowB 11 0) (by kernel_rfl) rfl rfl ⟨blk_cell (blk_drew HG.out) 0, (blk_cell (blk_drew HH.out) 0).trans rfl, (blk_cell (blk_drew HH.out) 1).trans rfl, (blk_cell (blk_drew HH.out) 2).trans rfl, (blk_cell (blk_drew HH.out) 3).trans rfl, (blk_cell (blk_drew HH.out) 4).trans rfl, (blk_cell (blk_drew HH.out) 5).trans rfl, (blk_cell (blk_drew HH.out) 6).trans rfl, (blk_cell (blk_drew HH.out) 7).trans rfl, (blk_cell (blk_drew HH.out) 8).trans rfl, (blk_cell (blk_drew HH.out) 9).trans rfl, (blk_cell (blk_drew HH.out) 10).trans rfl, (blk_cell (blk_drew HH.out) 11).trans rfl, (blk_cell (blk_drew HH.out) 12).trans rfl⟩ (fun hHeld => ?_)
    refine pure_ (i := 0) (N := some 40) (v := ?_) (a' := ?_) (rowB 11 1) rfl rfl (by kernel_rfl) (fun _ _ _ h => h) (Or.inl ⟨by rfl, ?_⟩) ?_ ?_
    rotate_left
    ·
     intro w'
     go_simp
     with_reducible rfl
    rotate_left
    ·
     simp only [Act.put, List.setIfInBounds_toArray, List.set_cons_zero, List.set_cons_succ, i64_w, i32_w]
     rfl
    refine pure_ (i := 1) (N := some 41) (v := ?_) (a' := ?_) (rowB 11 3) rfl rfl (by kernel_rfl) (fun _ _ _ h => h) (Or.inl ⟨by rfl, ?_⟩) ?_ ?_
    rotate_left
    ·
     intro w'
     go_simp
     with_reducible rfl
    rotate_left
    ·
     simp only [Act.put, List.setIfInBounds_toArray, List.set_cons_zero, List.set_cons_succ, i64_w, i32_w]
     rfl
    refine pure_ (i := 2) (N := some 42) (v := ?_) (a' := ?_) (rowB 11 7) rfl rfl (by kernel_rfl) (fun _ _ _ h => h) (Or.inl ⟨by rfl, ?_⟩) ?_ ?_
    rotate_left
    ·
     intro w'
     go_simp
     with_reducible rfl
    rotate_left
    ·
     simp only [Act.put, List.setIfInBounds_toArray, List.set_cons_zero, List.set_cons_succ, i64_w, i32_w]
     rfl
    refine pure_ (i := 3) (N := some 43) (v := ?_) (a' := ?_) (rowB 11 15) rfl rfl (by kernel_rfl) (fun _ _ _ h => h) (Or.inl ⟨by rfl, ?_⟩) ?_ ?_
    rotate_left
    ·
     intro w'
     go_simp
     with_reducible rfl
    rotate_left
    ·
     simp only [Act.put, List.setIfInBounds_toArray, List.set_cons_zero, List.set_cons_succ, i64_w, i32_w]
     rfl
    refine take_ (i := 4) (N := some 44) (v := ?_) (a' := ?_) (rowB 11 31) rfl rfl (by kernel_rfl) (fun _ _ _ h => h) (Or.inl ⟨by rfl, ?_⟩) hHeld ?_ ?_
    rotate_left
    ·
     rintro w' ⟨s0, s1, s2, s3, s4, s5, s6, s7, s8, s9, s10, s11, s12, s13⟩
     go_simp
     with_reducible rfl
    rotate_left
    ·
     simp only [Act.put, List.setIfInBounds_toArray, List.set_cons_zero, List.set_cons_succ, i64_w, i32_w]
     rfl
    refine take_ (i := 5) (N := some 45) (v := ?_) (a' := ?_) (rowB 11 63) rfl rfl (by kernel_rfl) (fun _ _ _ h => h) (Or.inl ⟨by rfl, ?_⟩) hHeld ?_ ?_
    rotate_left
    ·
     rintro w' ⟨s0, s1, s2, s3, s4, s5, s6, s7, s8, s9, s10, s11, s12, s13⟩
     go_simp
     with_reducible rfl
    rotate_left
    ·
     simp only [Act.put, List.setIfInBounds_toArray, List.set_cons_zero, List.set_cons_succ, i64_w, i32_w]
     rfl
    refine one_ (i := 6) (N := some 46) (rowB 11 127) rfl rfl (by kernel_rfl) (by decide) (fun K hK => ?_)
    refine event_step (w1 := ?_) (v := ?_) (by rfl) ?_ ?_
    rotate_left 2
    ·
     go_simp
     constructor
     ·
      rfl
     ·
      rfl
    refine hK.out _ _ (by have hb := below_alloc (Below.refl wr.drew.heap.size wr.drew) (.cells (#[.int .i64 (i : Int), .int .i64 (i : Int), .bool false, .int .i64 ((i : Int) + 1), .bool false, .int .i64 ((i : Int) + 2), .bool false, .int .i64 ((i : Int) + 3), .bool false, .int .i64 ((i : Int) + 4), .bool false, .int .i64 ((i : Int) + 5), .bool false]) 52 (0, 0)); exact ⟨blk_cell (blk_below (blk_drew HG.out) hb) 0, (blk_cell (blk_below (blk_drew HH.out) hb) 0).trans rfl, (blk_cell (blk_below (blk_drew HH.out) hb) 1).trans rfl, (blk_cell (blk_below (blk_drew HH.out) hb) 2).trans rfl, (blk_cell (blk_below (blk_drew HH.out) hb) 3).trans rfl, (blk_cell (blk_below (blk_drew HH.out) hb) 4).trans rfl, (blk_cell (blk_below (blk_drew HH.out) hb) 5).trans rfl, (blk_cell (blk_below (blk_drew HH.out) hb) 6).trans rfl, (blk_cell (blk_below (blk_drew HH.out) hb) 7).trans rfl, (blk_cell (blk_below (blk_drew HH.out) hb) 8).trans rfl, (blk_cell (blk_below (blk_drew HH.out) hb) 9).trans rfl, (blk_cell (blk_below (blk_drew HH.out) hb) 10).trans rfl, (blk_cell (blk_below (blk_drew HH.out) hb) 11).trans rfl, (blk_cell (blk_below (blk_drew HH.out) hb) 12).trans rfl⟩) (fun hHeld => ?_)
    clear hK K
    refine norm_ (a' := ?_) ?_ ?_
    rotate_left
    ·
     show Act.put _ (some 46) _ = _
     simp only [Act.put, List.setIfInBounds_toArray, List.set_cons_zero, List.set_cons_succ, i64_w, i32_w]
     rfl
    refine last_ (i := 7) (N := some 47) (rowB 11 255) rfl rfl (by kernel_rfl) (by decide) (fun K hK => ?_)
    refine Kd.R_append_rows_step (Kd.raw 13) (w0 := w) w.heap.size (by rfl) (.tmp 44) (.tmp 46) 47 52 _ 104 rfl Tryd.underlying47 infoHex rfl (by decide) (by omega) v (hexTo i) [(#[.int .i64 (i : Int), .int .i64 (i : Int), .bool false, .int .i64 ((i : Int) + 1), .bool false, .int .i64 ((i : Int) + 2), .bool false, .int .i64 ((i : Int) + 3), .bool false, .int .i64 ((i : Int) + 4), .bool false, .int .i64 ((i : Int) + 5), .bool false] : Array Value).toList] (some ⟨wr.drew.heap.size, 0, none⟩) 1 1 (fun _ => True) (fun _ => False) rfl rfl ?aO ?aR (fun _ _ h => h) (fun _ h => h.elim) (fun _ _ => trivial) ?aB ?aS ?aL ?_
    (case aO => exact Kd.R_alloc (Kd.R_drew (Kd.R_mono HR.out (fun _ _ => trivial))) _)
    (case aR => exact hex_one (blk_new _ _) rfl (hexC_one (i : Int) false 6))
    (case aB => exact below_alloc (below_drew HB.out) _)
    (case aS => exact (below_alloc (below_drew HB.out) _).size)
    (case aL => have := hexTo_len i; show ((hexTo i).length + 1) * 104 ≤ 140737488355328; omega)
    intro v47 w8 ho hb hg hat
    have HO8 := Aside0.mk ho
    have HB8 := Aside0.mk hb
    have HG8 := Aside0.mk (blk_grown (blk_alloc (blk_drew HG.out) _) hg (Kd.R_ne HR.out HG.out (by decide)))
    clear ho hb hg hat
    refine hK.out _ _ ?_
    clear hK K
    refine norm_ (a' := ?_) ?_ ?_
    rotate_left
    ·
     show Act.put _ (some 47) _ = _
     simp only [Act.put, List.setIfInBounds_toArray, List.set_cons_zero, List.set_cons_succ, i64_w, i32_w]
     rfl
    refine pure_ (i := 8) (N := some 48) (v := ?_) (a' := ?_) (rowB 11 511) rfl rfl (by kernel_rfl) (fun _ _ _ h => h) (Or.inl ⟨by rfl, ?_⟩) ?_ ?_
    rotate_left
    ·
     intro w'
     go_simp
     with_reducible rfl
    rotate_left
    ·
     simp only [Act.put, List.setIfInBounds_toArray, List.set_cons_zero, List.set_cons_succ, i64_w, i32_w]
     rfl
    refine pure_ (i := 9) (N := some 49) (v := ?_) (a' := ?_) (rowB 11 1023) rfl rfl (by kernel_rfl) (fun _ _ _ h => h) (Or.inl ⟨by rfl, ?_⟩) ?_ ?_
    rotate_left
    ·
     intro w'
     go_simp
     with_reducible rfl
    rotate_left
    ·
     simp only [Act.put, List.setIfInBounds_toArray, List.set_cons_zero, List.set_cons_succ, i64_w, i32_w]
     rfl
    refine last_ (i := 10) (N := none) (rowB 11 2047) rfl rfl (by kernel_rfl) (by decide) (fun K hK => ?_)
    refine box_store_step (by rfl) rfl 47 (.tmp 49) (.tmp 47) rfl (g := g) (off := 0) (new := #[v47]) v47 [v47] HG8.out rfl rfl (by obtain ⟨_, _, rfl⟩ := Kd.R_slice HO8.out; rfl) (by kernel_rfl) (by obtain ⟨_, _, rfl⟩ := Kd.R_slice HO8.out; simp [Value.oneCell']) (Nat.le_of_ble_eq_true rfl) rfl ?_
    intro w9 hh9 hg9 hz9
    have HG9 := Aside0.mk hh9
    have HB9 := Aside0.mk (below_grown HB8.out hg9 GE.out HB8.out.size)
    have HO9 := Aside0.mk (Kd.R_mono (Kd.R_grown (Kd.R_types HO8.out HG8.out (by intro q hq; have hq2 : q = 52 := List.mem_singleton.1 hq; rw [hq2]; decide)) hg9 (fun k hk h => hk.2 (Option.some.inj h))) (fun _ hk => hk.1))
    clear hh9 hg9 hz9
    refine hK.out _ _ ?_
    clear hK K
    refine done_ (by kernel_rfl) ?_
    go_wp2
    go_roundg (16 - (i + 1))
    case measure => exact NX.out.1
    case rel => exact ⟨i + 1, v47, by simp, ⟨rfl, NX.out.2⟩, HG9, ⟨by rw [HTO.out, HF.out]; exact HO9.out⟩, HB9⟩
  ·
   have hkb : kindB (i : Int) = ⟨#[115, 111, 102, 116]⟩ := by unfold kindB; rw [if_neg (by omega), if_neg (by omega), if_pos hk]
   rw [hkb] at hcon
   clear hkb
   have hf : decide ((i : Int) % 7 = 6) = true := by rw [hk]; rfl
   have HF : Aside0 (hexL (i : Int) = (hexC (i : Int) true 6).toList) := ⟨by unfold hexL; rw [hf]⟩
   clear hf
   have m0 : Int.tmod ((i : Int) + 0) 7 = 6 := by rw [Int.tmod_eq_emod_of_nonneg (by omega)]; omega
   have m1 : Int.tmod ((i : Int) + 1) 7 = 0 := by rw [Int.tmod_eq_emod_of_nonneg (by omega)]; omega
   have m2 : Int.tmod ((i : Int) + 2) 7 = 1 := by rw [Int.tmod_eq_emod_of_nonneg (by omega)]; omega
   have m3 : Int.tmod ((i : Int) + 3) 7 = 2 := by rw [Int.tmod_eq_emod_of_nonneg (by omega)]; omega
   have m4 : Int.tmod ((i : Int) + 4) 7 = 3 := by rw [Int.tmod_eq_emod_of_nonneg (by omega)]; omega
   have m5 : Int.tmod ((i : Int) + 5) 7 = 4 := by rw [Int.tmod_eq_emod_of_nonneg (by omega)]; omega
   rw [Int.add_zero] at m0
   have w6 : IntKind.i64.wrap ((i : Int) + 1) = (i : Int) + 1 := by rw [Go.IntKind.wrap_i64]; omega
   have w7 : IntKind.i64.wrap ((i : Int) + 2) = (i : Int) + 2 := by rw [Go.IntKind.wrap_i64]; omega
   have w8 : IntKind.i64.wrap ((i : Int) + 3) = (i : Int) + 3 := by rw [Go.IntKind.wrap_i64]; omega
   have w9 : IntKind.i64.wrap ((i : Int) + 4) = (i : Int) + 4 := by rw [Go.IntKind.wrap_i64]; omega
   have w10 : IntKind.i64.wrap ((i : Int) + 5) = (i : Int) + 5 := by rw [Go.IntKind.wrap_i64]; omega
   have w5 : IntKind.i64.wrap (i : Int) = (i : Int) := by rw [Go.IntKind.wrap_i64]; omega
   clear hk hi
   go_wp2_with (first
    | (go_at_call 35; refine (hcon _ (HT.out.below HB.out)).mono ?_; rintro e wk ⟨rfl, rfl⟩)
    | ((with_reducible refine gate_dst (N := 4) rfl ?_); refine box_event ?hg (N := 4) ?hd (cs := #[.int .i64 0, .int .i64 0, .bool false, .int .i64 0, .bool false, .int .i64 0, .bool false, .int .i64 0, .bool false, .int .i64 0, .bool false, .int .i64 0, .bool false]) (t := 52) ?hr ?_; (case hd => rfl); (case hg => rfl); (case hr => first | (go_simp; done) | (go_simp; rfl)); intro gh hg w2 hbox hb; have HH := Aside0.mk hbox; have HB2 := Aside0.mk (below_step HB.out hb); have HG2 := Aside0.mk (blk_below HG.out hb); have GH : Aside0 (w.heap.size ≤ gh) := ⟨by rw [hg]; exact HB.out.size⟩; have HR2 : Aside0 ((Kd.raw 13).R 52 w2 w.heap.size (fun k => k < gh) v (hexTo i)) := ⟨Kd.R_mono (Kd.R_below (Kd.R_bound HR.out) hb) (fun k hk => by have := hk.2.2.1; omega)⟩; have hlt := blk_lt HG.out; have HNE : Aside0 (g ≠ gh) := ⟨by omega⟩; clear hb hbox hg hlt)
    | ((with_reducible refine gate_ (.store 52 (.tmp 4) (.tmp 20)) rfl ?_); (refine box_store rfl rfl 52 (.tmp 4) (.tmp 20) rfl (g := gh) (off := 0) (new := hexC (i : Int) true 0) _ (hexC (i : Int) true 0).toList HH.out rfl rfl rfl (by kernel_rfl) (hexC_one _ _ _) (Nat.le_refl 13) rfl ?_); intro w3 hh3 hg3 hz3; have HH3 := Aside0.mk hh3; have HB3 := Aside0.mk (below_grown HB2.out hg3 GH.out HB2.out.size); have HG3 := Aside0.mk (blk_grown HG2.out hg3 (fun h => HNE.out (Option.some.inj h))); have HR3 := Aside0.mk (Kd.R_grown HR2.out hg3 (fun k hk h => by injection h with h; omega)); clear hh3 hg3 hz3))
   go_loopg [5, 6, 21] 6 (fun kq v5 v6 v21 w' => ∃ j : Int, v21 = .int .i64 j ∧ Aside0 (kq = 6 - j.toNat ∧ 0 ≤ j ∧ j ≤ 6) ∧ Aside0 (w'.heap[gh]? = some (.cells (hexC (i : Int) true j.toNat) 52 (0, 0))) ∧ Aside0 (w'.heap[g]? = some (.cells #[v] 49 (0, 0))) ∧ Aside0 ((Kd.raw 13).R 52 w' w.heap.size (fun k => k < gh) v (hexTo i)) ∧ Aside0 (Below w.heap.size w w'))
   case atStart => exact ⟨0, rfl, ⟨by decide⟩, HH3, HG3, HR3, HB3⟩
   case round =>
    clear HH HG HR HB HH3 HG2 HR2 HB2 HG3 HR3 HB3 hcon p1 p2 d1
    obtain ⟨j, rfl, HX, HH, HG, HR, HB⟩ := hrel
    obtain ⟨hkq, hj0, hj6⟩ := HX.out
    clear HX
    by_cases hj : j = 6
    rotate_left
    ·
     have hjj : j = 0 ∨ j = 1 ∨ j = 2 ∨ j = 3 ∨ j = 4 ∨ j = 5 := by omega
     clear hj0 hj6 hj
     rcases hjj with rfl | rfl | rfl | rfl | rfl | rfl
     ·
      have NJ : Aside0 (5 - 0 < gk) := ⟨by simp at hkq; omega⟩
      clear hkq
      go_wp2_with (first
       | ((with_reducible refine gate_ (.store 29 (.tmp 38) (.tmp 36)) rfl ?_); (refine box_store rfl rfl 29 (.tmp 38) (.tmp 36) rfl (g := gh) (off := 1) (new := hexC (i : Int) true 1) _ [.int .i64 (i : Int), .bool false] HH.out rfl rfl rfl (by kernel_rfl) (by simp [Value.oneCell']) (Nat.le_of_ble_eq_true rfl) rfl ?_); intro w4 hh4 hg4 hz4; have HH4 := Aside0.mk hh4; have HB4 := Aside0.mk (below_grown HB.out hg4 GH.out HB.out.size); have HG4 := Aside0.mk (blk_grown HG.out hg4 (fun h => HNE.out (Option.some.inj h))); have HR4 := Aside0.mk (Kd.R_grown HR.out hg4 (fun k hk h => by injection h with h; omega)); clear hh4 hg4 hz4))
      go_roundg (5 - 0)
      case measure => exact NJ.out
      case rel => exact ⟨1, by simp, ⟨by decide⟩, HH4, HG4, HR4, HB4⟩
     ·
      have NJ : Aside0 (5 - 1 < gk) := ⟨by simp at hkq; omega⟩
      clear hkq
      go_wp2_with (first
       | ((with_reducible refine gate_ (.store 29 (.tmp 38) (.tmp 36)) rfl ?_); (refine box_store rfl rfl 29 (.tmp 38) (.tmp 36) rfl (g := gh) (off := 3) (new := hexC (i : Int) true 2) _ [.int .i64 ((i : Int) + 1), .bool false] HH.out rfl rfl rfl (by kernel_rfl) (by simp [Value.oneCell']) (Nat.le_of_ble_eq_true rfl) rfl ?_); intro w4 hh4 hg4 hz4; have HH4 := Aside0.mk hh4; have HB4 := Aside0.mk (below_grown HB.out hg4 GH.out HB.out.size); have HG4 := Aside0.mk (blk_grown HG.out hg4 (fun h => HNE.out (Option.some.inj h))); have HR4 := Aside0.mk (Kd.R_grown HR.out hg4 (fun k hk h => by injection h with h; omega)); clear hh4 hg4 hz4))
      go_roundg (5 - 1)
      case measure => exact NJ.out
      case rel => exact ⟨2, by simp, ⟨by decide⟩, HH4, HG4, HR4, HB4⟩
     ·
      have NJ : Aside0 (5 - 2 < gk) := ⟨by simp at hkq; omega⟩
      clear hkq
      go_wp2_with (first
       | ((with_reducible refine gate_ (.store 29 (.tmp 38) (.tmp 36)) rfl ?_); (refine box_store rfl rfl 29 (.tmp 38) (.tmp 36) rfl (g := gh) (off := 5) (new := hexC (i : Int) true 3) _ [.int .i64 ((i : Int) + 2), .bool false] HH.out rfl rfl rfl (by kernel_rfl) (by simp [Value.oneCell']) (Nat.le_of_ble_eq_true rfl) rfl ?_); intro w4 hh4 hg4 hz4; have HH4 := Aside0.mk hh4; have HB4 := Aside0.mk (below_grown HB.out hg4 GH.out HB.out.size); have HG4 := Aside0.mk (blk_grown HG.out hg4 (fun h => HNE.out (Option.some.inj h))); have HR4 := Aside0.mk (Kd.R_grown HR.out hg4 (fun k hk h => by injection h with h; omega)); clear hh4 hg4 hz4))
      go_roundg (5 - 2)
      case measure => exact NJ.out
      case rel => exact ⟨3, by simp, ⟨by decide⟩, HH4, HG4, HR4, HB4⟩
     ·
      have NJ : Aside0 (5 - 3 < gk) := ⟨by simp at hkq; omega⟩
      clear hkq
      go_wp2_with (first
       | ((with_reducible refine gate_ (.store 29 (.tmp 38) (.tmp 36)) rfl ?_); (refine box_store rfl rfl 29 (.tmp 38) (.tmp 36) rfl (g := gh) (off := 7) (new := hexC (i : Int) true 4) _ [.int .i64 ((i : Int) + 3), .bool true] HH.out rfl rfl rfl (by kernel_rfl) (by simp [Value.oneCell']) (Nat.le_of_ble_eq_true rfl) rfl ?_); intro w4 hh4 hg4 hz4; have HH4 := Aside0.mk hh4; have HB4 := Aside0.mk (below_grown HB.out hg4 GH.out HB.out.size); have HG4 := Aside0.mk (blk_grown HG.out hg4 (fun h => HNE.out (Option.some.inj h))); have HR4 := Aside0.mk (Kd.R_grown HR.out hg4 (fun k hk h => by injection h with h; omega)); clear hh4 hg4 hz4))
      go_roundg (5 - 3)
      case measure => exact NJ.out
      case rel => exact ⟨4, by simp, ⟨by decide⟩, HH4, HG4, HR4, HB4⟩
     ·
      have NJ : Aside0 (5 - 4 < gk) := ⟨by simp at hkq; omega⟩
      clear hkq
      go_wp2_with (first
       | ((with_reducible refine gate_ (.store 29 (.tmp 38) (.tmp 36)) rfl ?_); (refine box_store rfl rfl 29 (.tmp 38) (.tmp 36) rfl (g := gh) (off := 9) (new := hexC (i : Int) true 5) _ [.int .i64 ((i : Int) + 4), .bool false] HH.out rfl rfl rfl (by kernel_rfl) (by simp [Value.oneCell']) (Nat.le_of_ble_eq_true rfl) rfl ?_); intro w4 hh4 hg4 hz4; have HH4 := Aside0.mk hh4; have HB4 := Aside0.mk (below_grown HB.out hg4 GH.out HB.out.size); have HG4 := Aside0.mk (blk_grown HG.out hg4 (fun h => HNE.out (Option.some.inj h))); have HR4 := Aside0.mk (Kd.R_grown HR.out hg4 (fun k hk h => by injection h with h; omega)); clear hh4 hg4 hz4))
      go_roundg (5 - 4)
      case measure => exact NJ.out
      case rel => exact ⟨5, by simp, ⟨by decide⟩, HH4, HG4, HR4, HB4⟩
     ·
      have NJ : Aside0 (5 - 5 < gk) := ⟨by simp at hkq; omega⟩
      clear hkq
      go_wp2_with (first
       | ((with_reducible refine gate_ (.store 29 (.tmp 38) (.tmp 36)) rfl ?_); (refine box_store rfl rfl 29 (.tmp 38) (.tmp 36) rfl (g := gh) (off := 11) (new := hexC (i : Int) true 6) _ [.int .i64 ((i : Int) + 5), .bool false] HH.out rfl rfl rfl (by kernel_rfl) (by simp [Value.oneCell']) (Nat.le_of_ble_eq_true rfl) rfl ?_); intro w4 hh4 hg4 hz4; have HH4 := Aside0.mk hh4; have HB4 := Aside0.mk (below_grown HB.out hg4 GH.out HB.out.size); have HG4 := Aside0.mk (blk_grown HG.out hg4 (fun h => HNE.out (Option.some.inj h))); have HR4 := Aside0.mk (Kd.R_grown HR.out hg4 (fun k hk h => by injection h with h; omega)); clear hh4 hg4 hz4))
      go_roundg (5 - 5)
      case measure => exact NJ.out
      case rel => exact ⟨6, by simp, ⟨by decide⟩, HH4, HG4, HR4, HB4⟩
    subst hj
    have hhx : wr.heap[gh]? = some (.cells (#[.int .i64 (i : Int), .int .i64 (i : Int), .bool false, .int .i64 ((i : Int) + 1), .bool false, .int .i64 ((i : Int) + 2), .bool false, .int .i64 ((i : Int) + 3), .bool true, .int .i64 ((i : Int) + 4), .bool false, .int .i64 ((i : Int) + 5), .bool false]) 52 (0, 0)) := HH.out
    clear HH
    have HH := Aside0.mk hhx
    clear hhx
    go_upto_region 14 with fail
    have HX0 : Aside0 (wr.cell? ⟨g, 0, none⟩ = some v ∧ wr.cell? ⟨gh, 0, none⟩ = some (.int .i64 (i : Int)) ∧ wr.cell? ⟨gh, 1, none⟩ = some (.int .i64 (i : Int)) ∧ wr.cell? ⟨gh, 2, none⟩ = some (.bool false) ∧ wr.cell? ⟨gh, 3, none⟩ = some (.int .i64 ((i : Int) + 1)) ∧ wr.cell? ⟨gh, 4, none⟩ = some (.bool false) ∧ wr.cell? ⟨gh, 5, none⟩ = some (.int .i64 ((i : Int) + 2)) ∧ wr.cell? ⟨gh, 6, none⟩ = some (.bool false) ∧ wr.cell? ⟨gh, 7, none⟩ = some (.int .i64 ((i : Int) + 3)) ∧ wr.cell? ⟨gh, 8, none⟩ = some (.bool true) ∧ wr.cell? ⟨gh, 9, none⟩ = some (.int .i64 ((i : Int) + 4)) ∧ wr.cell? ⟨gh, 10, none⟩ = some (.bool false) ∧ wr.cell? ⟨gh, 11, none⟩ = some (.int .i64 ((i : Int) + 5)) ∧ wr.cell? ⟨gh, 12, none⟩ = some (.bool false)) := ⟨⟨blk_cell HG.out 0, (blk_cell HH.out 0).trans rfl, (blk_cell HH.out 1).trans rfl, (blk_cell HH.out 2).trans rfl, (blk_cell HH.out 3).trans rfl, (blk_cell HH.out 4).trans rfl, (blk_cell HH.out 5).trans rfl, (blk_cell HH.out 6).trans rfl, (blk_cell HH.out 7).trans rfl, (blk_cell HH.out 8).trans rfl, (blk_cell HH.out 9).trans rfl, (blk_cell HH.out 10).trans rfl, (blk_cell HH.out 11).trans rfl, (blk_cell HH.out 12).trans rfl⟩⟩
    obtain ⟨wd, hwd⟩ : ∃ wd, wd = wr.drew := ⟨_, rfl⟩
    refine start_ (n := 11) (S := (fun w' => w'.cell? ⟨g, 0, none⟩ = some v ∧ w'.cell? ⟨gh, 0, none⟩ = some (.int .i64 (i : Int)) ∧ w'.cell? ⟨gh, 1, none⟩ = some (.int .i64 (i : Int)) ∧ w'.cell? ⟨gh, 2, none⟩ = some (.bool false) ∧ w'.cell? ⟨gh, 3, none⟩ = some (.int .i64 ((i : Int) + 1)) ∧ w'.cell? ⟨gh, 4, none⟩ = some (.bool false) ∧ w'.cell? ⟨gh, 5, none⟩ = some (.int .i64 ((i : Int) + 2)) ∧ w'.cell? ⟨gh, 6, none⟩ = some (.bool false) ∧ w'.cell? ⟨gh, 7, none⟩ = some (.int .i64 ((i : Int) + 3)) ∧ w'.cell? ⟨gh, 8, none⟩ = some (.bool true) ∧ w'.cell? ⟨gh, 9, none⟩ = some (.int .i64 ((i : Int) + 4)) ∧ w'.cell? ⟨gh, 10, none⟩ = some (.bool false) ∧ w'.cell? ⟨gh, 11, none⟩ = some (.int .i64 ((i : Int) + 5)) ∧ w'.cell? ⟨gh, 12, none⟩ = some (.bool false))) (ds := [7, 10]) (rowB 11 0) (by kernel_rfl) rfl rfl ⟨blk_cell (blk_drew HG.out) 0, (blk_cell (blk_drew HH.out) 0).trans rfl, (blk_cell (blk_drew HH.out) 1).trans rfl, (blk_cell (blk_drew HH.out) 2).trans rfl, (blk_cell (blk_drew HH.out) 3).trans rfl, (blk_cell (blk_drew HH.out) 4).trans rfl, (blk_cell (blk_drew HH.out) 5).trans rfl, (blk_cell (blk_drew HH.out) 6).trans rfl, (blk_cell (blk_drew HH.out) 7).trans rfl, (blk_cell (blk_drew HH.out) 8).trans rfl, (blk_cell (blk_drew HH.out) 9).trans rfl, (blk_cell (blk_drew HH.out) 10).trans rfl, (blk_cell (blk_drew HH.out) 11).trans rfl, (blk_cell (blk_drew HH.out) 12).trans rfl⟩ (fun hHeld => ?_)
    refine pure_ (i := 0) (N := some 40) (v := ?_) (a' := ?_) (rowB 11 1) rfl rfl (by kernel_rfl) (fun _ _ _ h => h) (Or.inl ⟨by rfl, ?_⟩) ?_ ?_
    rotate_left
    ·
     intro w'
     go_simp
     with_reducible rfl
    rotate_left
    ·
     simp only [Act.put, List.setIfInBounds_toArray, List.set_cons_zero, List.set_cons_succ, i64_w, i32_w]
     rfl
    refine pure_ (i := 1) (N := some 41) (v := ?_) (a' := ?_) (rowB 11 3) rfl rfl (by kernel_rfl) (fun _ _ _ h => h) (Or.inl ⟨by rfl, ?_⟩) ?_ ?_
    rotate_left
    ·
     intro w'
     go_simp
     with_reducible rfl
    rotate_left
    ·
     simp only [Act.put, List.setIfInBounds_toArray, List.set_cons_zero, List.set_cons_succ, i64_w, i32_w]
     rfl
    refine pure_ (i := 2) (N := some 42) (v := ?_) (a' := ?_) (rowB 11 7) rfl rfl (by kernel_rfl) (fun _ _ _ h => h) (Or.inl ⟨by rfl, ?_⟩) ?_ ?_
    rotate_left
    ·
     intro w'
     go_simp
     with_reducible rfl
    rotate_left
    ·
     simp only [Act.put, List.setIfInBounds_toArray, List.set_cons_zero, List.set_cons_succ, i64_w, i32_w]
     rfl
    refine pure_ (i := 3) (N := some 43) (v := ?_) (a' := ?_) (rowB 11 15) rfl rfl (by kernel_rfl) (fun _ _ _ h => h) (Or.inl ⟨by rfl, ?_⟩) ?_ ?_
    rotate_left
    ·
     intro w'
     go_simp
     with_reducible rfl
    rotate_left
    ·
     simp only [Act.put, List.setIfInBounds_toArray, List.set_cons_zero, List.set_cons_succ, i64_w, i32_w]
     rfl
    refine take_ (i := 4) (N := some 44) (v := ?_) (a' := ?_) (rowB 11 31) rfl rfl (by kernel_rfl) (fun _ _ _ h => h) (Or.inl ⟨by rfl, ?_⟩) hHeld ?_ ?_
    rotate_left
    ·
     rintro w' ⟨s0, s1, s2, s3, s4, s5, s6, s7, s8, s9, s10, s11, s12, s13⟩
     go_simp
     with_reducible rfl
    rotate_left
    ·
     simp only [Act.put, List.setIfInBounds_toArray, List.set_cons_zero, List.set_cons_succ, i64_w, i32_w]
     rfl
    refine take_ (i := 5) (N := some 45) (v := ?_) (a' := ?_) (rowB 11 63) rfl rfl (by kernel_rfl) (fun _ _ _ h => h) (Or.inl ⟨by rfl, ?_⟩) hHeld ?_ ?_
    rotate_left
    ·
     rintro w' ⟨s0, s1, s2, s3, s4, s5, s6, s7, s8, s9, s10, s11, s12, s13⟩
     go_simp
     with_reducible rfl
    rotate_left
    ·
     simp only [Act.put, List.setIfInBounds_toArray, List.set_cons_zero, List.set_cons_succ, i64_w, i32_w]
     rfl
    refine one_ (i := 6) (N := some 46) (rowB 11 127) rfl rfl (by kernel_rfl) (by decide) (fun K hK => ?_)
    refine event_step (w1 := ?_) (v := ?_) (by rfl) ?_ ?_
    rotate_left 2
    ·
     go_simp
     constructor
     ·
      rfl
     ·
      rfl
    refine hK.out _ _ (by have hb := below_alloc (Below.refl wr.drew.heap.size wr.drew) (.cells (#[.int .i64 (i : Int), .int .i64 (i : Int), .bool false, .int .i64 ((i : Int) + 1), .bool false, .int .i64 ((i : Int) + 2), .bool false, .int .i64 ((i : Int) + 3), .bool true, .int .i64 ((i : Int) + 4), .bool false, .int .i64 ((i : Int) + 5), .bool false]) 52 (0, 0)); exact ⟨blk_cell (blk_below (blk_drew HG.out) hb) 0, (blk_cell (blk_below (blk_drew HH.out) hb) 0).trans rfl, (blk_cell (blk_below (blk_drew HH.out) hb) 1).trans rfl, (blk_cell (blk_below (blk_drew HH.out) hb) 2).trans rfl, (blk_cell (blk_below (blk_drew HH.out) hb) 3).trans rfl, (blk_cell (blk_below (blk_drew HH.out) hb) 4).trans rfl, (blk_cell (blk_below (blk_drew HH.out) hb) 5).trans rfl, (blk_cell (blk_below (blk_drew HH.out) hb) 6).trans rfl, (blk_cell (blk_below (blk_drew HH.out) hb) 7).trans rfl, (blk_cell (blk_below (blk_drew HH.out) hb) 8).trans rfl, (blk_cell (blk_below (blk_drew HH.out) hb) 9).trans rfl, (blk_cell (blk_below (blk_drew HH.out) hb) 10).trans rfl, (blk_cell (blk_below (blk_drew HH.out) hb) 11).trans rfl, (blk_cell (blk_below (blk_drew HH.out) hb) 12).trans rfl⟩) (fun hHeld => ?_)
    clear hK K
    refine norm_ (a' := ?_) ?_ ?_
    rotate_left
    ·
     show Act.put _ (some 46) _ = _
     simp only [Act.put, List.setIfInBounds_toArray, List.set_cons_zero, List.set_cons_succ, i64_w, i32_w]
     rfl
    refine last_ (i := 7) (N := some 47) (rowB 11 255) rfl rfl (by kernel_rfl) (by decide) (fun K hK => ?_)
    refine Kd.R_append_rows_step (Kd.raw 13) (w0 := w) w.heap.size (by rfl) (.tmp 44) (.tmp 46) 47 52 _ 104 rfl Tryd.underlying47 infoHex rfl (by decide) (by omega) v (hexTo i) [(#[.int .i64 (i : Int), .int .i64 (i : Int), .bool false, .int .i64 ((i : Int) + 1), .bool false, .int .i64 ((i : Int) + 2), .bool false, .int .i64 ((i : Int) + 3), .bool true, .int .i64 ((i : Int) + 4), .bool false, .int .i64 ((i : Int) + 5), .bool false] : Array Value).toList] (some ⟨wr.drew.heap.size, 0, none⟩) 1 1 (fun _ => True) (fun _ => False) rfl rfl ?aO ?aR (fun _ _ h => h) (fun _ h => h.elim) (fun _ _ => trivial) ?aB ?aS ?aL ?_
    (case aO => exact Kd.R_alloc (Kd.R_drew (Kd.R_mono HR.out (fun _ _ => trivial))) _)
    (case aR => exact hex_one (blk_new _ _) rfl (hexC_one (i : Int) true 6))
    (case aB => exact below_alloc (below_drew HB.out) _)
    (case aS => exact (below_alloc (below_drew HB.out) _).size)
    (case aL => have := hexTo_len i; show ((hexTo i).length + 1) * 104 ≤ 140737488355328; omega)
    intro v47 w8 ho hb hg hat
    have HO8 := Aside0.mk ho
    have HB8 := Aside0.mk hb
    have HG8 := Aside0.mk (blk_grown (blk_alloc (blk_drew HG.out) _) hg (Kd.R_ne HR.out HG.out (by decide)))
    clear ho hb hg hat
    refine hK.out _ _ ?_
    clear hK K
    refine norm_ (a' := ?_) ?_ ?_
    rotate_left
    ·
     show Act.put _ (some 47) _ = _
     simp only [Act.put, List.setIfInBounds_toArray, List.set_cons_zero, List.set_cons_succ, i64_w, i32_w]
     rfl
    refine pure_ (i := 8) (N := some 48) (v := ?_) (a' := ?_) (rowB 11 511) rfl rfl (by kernel_rfl) (fun _ _ _ h => h) (Or.inl ⟨by rfl, ?_⟩) ?_ ?_
    rotate_left
    ·
     intro w'
     go_simp
     with_reducible rfl
    rotate_left
    ·
     simp only [Act.put, List.setIfInBounds_toArray, List.set_cons_zero, List.set_cons_succ, i64_w, i32_w]
     rfl
    refine pure_ (i := 9) (N := some 49) (v := ?_) (a' := ?_) (rowB 11 1023) rfl rfl (by kernel_rfl) (fun _ _ _ h => h) (Or.inl ⟨by rfl, ?_⟩) ?_ ?_
    rotate_left
    ·
     intro w'
     go_simp
     with_reducible rfl
    rotate_left
    ·
     simp only [Act.put, List.setIfInBounds_toArray, List.set_cons_zero, List.set_cons_succ, i64_w, i32_w]
     rfl
    refine last_ (i := 10) (N := none) (rowB 11 2047) rfl rfl (by kernel_rfl) (by decide) (fun K hK => ?_)
    refine box_store_step (by rfl) rfl 47 (.tmp 49) (.tmp 47) rfl (g := g) (off := 0) (new := #[v47]) v47 [v47] HG8.out rfl rfl (by obtain ⟨_, _, rfl⟩ := Kd.R_slice HO8.out; rfl) (by kernel_rfl) (by obtain ⟨_, _, rfl⟩ := Kd.R_slice HO8.out; simp [Value.oneCell']) (Nat.le_of_ble_eq_true rfl) rfl ?_
    intro w9 hh9 hg9 hz9
    have HG9 := Aside0.mk hh9
    have HB9 := Aside0.mk (below_grown HB8.out hg9 GE.out HB8.out.size)
    have HO9 := Aside0.mk (Kd.R_mono (Kd.R_grown (Kd.R_types HO8.out HG8.out (by intro q hq; have hq2 : q = 52 := List.mem_singleton.1 hq; rw [hq2]; decide)) hg9 (fun k hk h => hk.2 (Option.some.inj h))) (fun _ hk => hk.1))
    clear hh9 hg9 hz9
    refine hK.out _ _ ?_
    clear hK K
    refine done_ (by kernel_rfl) ?_
    go_wp2
    go_roundg (16 - (i + 1))
    case measure => exact NX.out.1
    case rel => exact ⟨i + 1, v47, by simp, ⟨rfl, NX.out.2⟩, HG9, ⟨by rw [HTO.out, HF.out]; exact HO9.out⟩, HB9⟩

end Go.Proofs.YtiagfjbngpbejaaDoor.Pure
namespace Go.Proofs.YtiagfjbngpbejaaDoor.PFnExactSingBest
open Go.RowKit Go.Proofs.YtiagfjbngpbejaaDoorW.PrintWords Go.Proofs.YtiagfjbngpbejaaDoorW.PrintLast Go.Proofs.YtiagfjbngpbejaaDoorW.PrintMore
attribute [local go_sem] max2_int min2_int max_two min_two max_three min_three max_four min_four   -- for this text's walks alone
set_option linter.unusedVariables false
set_option linter.unusedSimpArgs false

theorem eqA29 (d : Nat) (w : World) (x0 y0 : Int) (x1 y1 : Bool) :
 (Op.equalIn (d + 2) 29 (.agg #[.int .i64 x0, .bool x1]) (.agg #[.int .i64 y0, .bool y1])).run Tryd.prog w = .ok (x0 == y0 && (x1 == y1)) w := by
 refine eqA_of Tryd.underlying29 (by kernel_rfl) ?_; refine eqf_cons (by rfl) (by go_simp; rfl) (by go_simp; rfl) (by go_simp) ?_; exact eqf_last (by rfl) (by go_simp; rfl) (by go_simp; rfl) (by go_simp)
end Go.Proofs.YtiagfjbngpbejaaDoor.PFnExactSingBest
namespace Go.Proofs.YtiagfjbngpbejaaDoor.Pure
set_option linter.unusedVariables false
set_option linter.unusedSimpArgs false
open Go Go.RowKit Go.Proofs.YtiagfjbngpbejaaDoor.PFnExactSingBest Go.Proofs.YtiagfjbngpbejaaDoorW.PrintWords Go.Proofs.YtiagfjbngpbejaaDoorW.PrintLast Go.Proofs.YtiagfjbngpbejaaDoorW.PrintMore

def sylJ (s : Int) (t : S29) (j : Int) : Bool := ((s + j) == t.f0) && ((decide (j = 3) && decide (s % 7 = 6)) == t.f1)
def hexSyl (s : Int) (t : S29) : Int := if sylJ s t 0 = true then 0 else if sylJ s t 1 = true then 1 else if sylJ s t 2 = true then 2 else if sylJ s t 3 = true then 3 else if sylJ s t 4 = true then 4 else if sylJ s t 5 = true then 5 else -1
set_option maxHeartbeats 40000000 in
set_option maxRecDepth 100000 in
theorem impl_syllable_calls (s : Int) (t : S29) (b off : Nat) (w : World) (hs : 0 ≤ s ∧ s ≤ 20) (hc : ∀ k u, (hexL s)[k]? = some u → w.cell? ⟨b, off + k, none⟩ = some u) :
 Calls Tryd.prog 24 #[.pointer (some ⟨b, off, none⟩), .agg #[.int .i64 t.f0, .bool t.f1]] w fun e w' => e = .returned (.int .i64 (hexSyl s t)) ∧ Below w.heap.size w w' := by
 obtain ⟨f, hf⟩ : ∃ f, f = decide (s % 7 = 6) := ⟨_, rfl⟩
 have hL : hexL s = [.int .i64 s, .int .i64 s, .bool false, .int .i64 (s + 1), .bool false, .int .i64 (s + 2), .bool false, .int .i64 (s + 3), .bool f, .int .i64 (s + 4), .bool false, .int .i64 (s + 5), .bool false] := by unfold hexL; rw [← hf]; cases f <;> rfl
 rw [hL] at hc
 have c1 : w.cell? ⟨b, off + 1, none⟩ = some (.int .i64 s) := hc 1 _ rfl
 have c2 : w.cell? ⟨b, off + 2, none⟩ = some (.bool false) := hc 2 _ rfl
 have c3 : w.cell? ⟨b, off + 3, none⟩ = some (.int .i64 (s + 1)) := hc 3 _ rfl
 have c4 : w.cell? ⟨b, off + 4, none⟩ = some (.bool false) := hc 4 _ rfl
 have c5 : w.cell? ⟨b, off + 5, none⟩ = some (.int .i64 (s + 2)) := hc 5 _ rfl
 have c6 : w.cell? ⟨b, off + 6, none⟩ = some (.bool false) := hc 6 _ rfl
 have c7 : w.cell? ⟨b, off + 7, none⟩ = some (.int .i64 (s + 3)) := hc 7 _ rfl
 have c8 : w.cell? ⟨b, off + 8, none⟩ = some (.bool f) := hc 8 _ rfl
 have c9 : w.cell? ⟨b, off + 9, none⟩ = some (.int .i64 (s + 4)) := hc 9 _ rfl
 have c10 : w.cell? ⟨b, off + 10, none⟩ = some (.bool false) := hc 10 _ rfl
 have c11 : w.cell? ⟨b, off + 11, none⟩ = some (.int .i64 (s + 5)) := hc 11 _ rfl
 have c12 : w.cell? ⟨b, off + 12, none⟩ = some (.bool false) := hc 12 _ rfl
 have hsyl : ∀ j, sylJ s t j = ((s + j == t.f0) && ((decide (j = 3) && f) == t.f1)) := fun j => by unfold sylJ; rw [hf]
 obtain ⟨b0, hb0⟩ : ∃ x, x = (s == t.f0 && (false == t.f1)) := ⟨_, rfl⟩
 have hs0 : sylJ s t 0 = b0 := by rw [hsyl, hb0]; simp
 obtain ⟨b1, hb1⟩ : ∃ x, x = (s + 1 == t.f0 && (false == t.f1)) := ⟨_, rfl⟩
 have hs1 : sylJ s t 1 = b1 := by rw [hsyl, hb1]; simp
 obtain ⟨b2, hb2⟩ : ∃ x, x = (s + 2 == t.f0 && (false == t.f1)) := ⟨_, rfl⟩
 have hs2 : sylJ s t 2 = b2 := by rw [hsyl, hb2]; simp
 obtain ⟨b3, hb3⟩ : ∃ x, x = (s + 3 == t.f0 && (f == t.f1)) := ⟨_, rfl⟩
 have hs3 : sylJ s t 3 = b3 := by rw [hsyl, hb3]; simp
 obtain ⟨b4, hb4⟩ : ∃ x, x = (s + 4 == t.f0 && (false == t.f1)) := ⟨_, rfl⟩
 have hs4 : sylJ s t 4 = b4 := by rw [hsyl, hb4]; simp
 obtain ⟨b5, hb5⟩ : ∃ x, x = (s + 5 == t.f0 && (false == t.f1)) := ⟨_, rfl⟩
 have hs5 : sylJ s t 5 = b5 := by rw [hsyl, hb5]; simp
 have hres : hexSyl s t = if b0 = true then 0 else if b1 = true then 1 else if b2 = true then 2 else if b3 = true then 3 else if b4 = true then 4 else if b5 = true then 5 else -1 := by unfold hexSyl; rw [hs0, hs1, hs2, hs3, hs4, hs5]
 rw [hres]
 obtain ⟨r, hr⟩ : ∃ r : Int, r = (if b0 = true then 0 else if b1 = true then 1 else if b2 = true then 2 else if b3 = true then 3 else if b4 = true then 4 else if b5 = true then 5 else -1) := ⟨_, rfl⟩
 rw [← hr]
 have hE0 : ∀ d W, (Op.equalIn (d + 2) 29 (.agg #[.int .i64 s, .bool false]) (.agg #[.int .i64 t.f0, .bool t.f1])).run Tryd.prog W = .ok b0 W := fun d W => by rw [hb0]; exact eqA29 d W _ _ _ _
 have hE1 : ∀ d W, (Op.equalIn (d + 2) 29 (.agg #[.int .i64 (s + 1), .bool false]) (.agg #[.int .i64 t.f0, .bool t.f1])).run Tryd.prog W = .ok b1 W := fun d W => by rw [hb1]; exact eqA29 d W _ _ _ _
 have hE2 : ∀ d W, (Op.equalIn (d + 2) 29 (.agg #[.int .i64 (s + 2), .bool false]) (.agg #[.int .i64 t.f0, .bool t.f1])).run Tryd.prog W = .ok b2 W := fun d W => by rw [hb2]; exact eqA29 d W _ _ _ _
 have hE3 : ∀ d W, (Op.equalIn (d + 2) 29 (.agg #[.int .i64 (s + 3), .bool f]) (.agg #[.int .i64 t.f0, .bool t.f1])).run Tryd.prog W = .ok b3 W := fun d W => by rw [hb3]; exact eqA29 d W _ _ _ _
 have hE4 : ∀ d W, (Op.equalIn (d + 2) 29 (.agg #[.int .i64 (s + 4), .bool false]) (.agg #[.int .i64 t.f0, .bool t.f1])).run Tryd.prog W = .ok b4 W := fun d W => by rw [hb4]; exact eqA29 d W _ _ _ _
 have hE5 : ∀ d W, (Op.equalIn (d + 2) 29 (.agg #[.int .i64 (s + 5), .bool false]) (.agg #[.int .i64 t.f0, .bool t.f1])).run Tryd.prog W = .ok b5 W := fun d W => by rw [hb5]; exact eqA29 d W _ _ _ _
 have HS := Aside0.mk (And.intro hs0 (And.intro hs1 (And.intro hs2 (And.intro hs3 (And.intro hs4 hs5)))))
 have HBB := Aside0.mk (And.intro hb0 (And.intro hb1 (And.intro hb2 (And.intro hb3 (And.intro hb4 hb5)))))
 clear hc hL hsyl hres hf hs hs0 hs1 hs2 hs3 hs4 hs5 hb0 hb1 hb2 hb3 hb4 hb5
 obtain ⟨ag, hag⟩ : ∃ ag : Value, ag = .agg #[.int .i64 s, .bool false, .int .i64 (s + 1), .bool false, .int .i64 (s + 2), .bool false, .int .i64 (s + 3), .bool f, .int .i64 (s + 4), .bool false, .int .i64 (s + 5), .bool false] := ⟨_, rfl⟩
 have ix0 : ∀ W, (Instr.index 50 ag (.int .i64 0)).run Tryd.prog W = .ok (.agg #[.int .i64 s, .bool false]) W := fun W => by rw [hag]; rfl
 have ix1 : ∀ W, (Instr.index 50 ag (.int .i64 1)).run Tryd.prog W = .ok (.agg #[.int .i64 (s + 1), .bool false]) W := fun W => by rw [hag]; rfl
 have ix2 : ∀ W, (Instr.index 50 ag (.int .i64 2)).run Tryd.prog W = .ok (.agg #[.int .i64 (s + 2), .bool false]) W := fun W => by rw [hag]; rfl
 have ix3 : ∀ W, (Instr.index 50 ag (.int .i64 3)).run Tryd.prog W = .ok (.agg #[.int .i64 (s + 3), .bool f]) W := fun W => by rw [hag]; rfl
 have ix4 : ∀ W, (Instr.index 50 ag (.int .i64 4)).run Tryd.prog W = .ok (.agg #[.int .i64 (s + 4), .bool false]) W := fun W => by rw [hag]; rfl
 have ix5 : ∀ W, (Instr.index 50 ag (.int .i64 5)).run Tryd.prog W = .ok (.agg #[.int .i64 (s + 5), .bool false]) W := fun W => by rw [hag]; rfl
 go_enter Tryd.func24, Tryd.ntmps24
 go_wp2_with (first
  | ((with_reducible refine gate_dst (N := 3) rfl ?_); refine box_event ?hg (N := 3) ?hd (cs := #[.int .i64 t.f0, .bool t.f1]) (t := 29) ?hr ?_; (case hd => rfl); (case hg => rfl); (case hr => first | (go_simp; done) | (go_simp; rfl)); intro g3 hg w1 hbox hb; have HB := Aside0.mk hb; have BK := Aside0.mk hbox; have GE : Aside0 (w.heap.size ≤ g3) := ⟨Nat.le_of_eq hg.symm⟩; replace c1 := pw_cell_below hb c1; replace c2 := pw_cell_below hb c2; replace c3 := pw_cell_below hb c3; replace c4 := pw_cell_below hb c4; replace c5 := pw_cell_below hb c5; replace c6 := pw_cell_below hb c6; replace c7 := pw_cell_below hb c7; replace c8 := pw_cell_below hb c8; replace c9 := pw_cell_below hb c9; replace c10 := pw_cell_below hb c10; replace c11 := pw_cell_below hb c11; replace c12 := pw_cell_below hb c12; clear hb hbox hg))
 rw [← hag]
 clear hag
 go_loopg [5, 6, 11] 6 (fun kq v5 v6 v11 w' => ∃ j : Int, v11 = .int .i64 j ∧ Aside0 (kq = 6 - j.toNat ∧ 0 ≤ j ∧ j ≤ 6) ∧ Aside0 ((j = 0 → r = (if b0 = true then 0 else if b1 = true then 1 else if b2 = true then 2 else if b3 = true then 3 else if b4 = true then 4 else if b5 = true then 5 else -1)) ∧ (j = 1 → r = (if b1 = true then 1 else if b2 = true then 2 else if b3 = true then 3 else if b4 = true then 4 else if b5 = true then 5 else -1)) ∧ (j = 2 → r = (if b2 = true then 2 else if b3 = true then 3 else if b4 = true then 4 else if b5 = true then 5 else -1)) ∧ (j = 3 → r = (if b3 = true then 3 else if b4 = true then 4 else if b5 = true then 5 else -1)) ∧ (j = 4 → r = (if b4 = true then 4 else if b5 = true then 5 else -1)) ∧ (j = 5 → r = (if b5 = true then 5 else -1)) ∧ (j = 6 → r = (-1))) ∧ Aside0 (w'.heap[g3]? = some (.cells #[.int .i64 t.f0, .bool t.f1] 29 (0, 0))) ∧ Aside0 (Below w.heap.size w w'))
 case atStart => exact ⟨0, rfl, ⟨by decide⟩, ⟨fun _ => hr, fun h => absurd h (by decide), fun h => absurd h (by decide), fun h => absurd h (by decide), fun h => absurd h (by decide), fun h => absurd h (by decide), fun h => absurd h (by decide)⟩, BK, HB⟩
 case round =>
  clear BK HB hr
  obtain ⟨j, rfl, HX, HR, BK, HB⟩ := hrel
  obtain ⟨hkq, hj0, hj6⟩ := HX.out
  clear HX
  have hjj : j = 0 ∨ j = 1 ∨ j = 2 ∨ j = 3 ∨ j = 4 ∨ j = 5 ∨ j = 6 := by omega
  clear hj0 hj6
  have hp0 : wr.cell? ⟨g3, 0, none⟩ = some (.int .i64 t.f0) := (blk_cell BK.out 0).trans rfl
  have hp1 : wr.cell? ⟨g3, 1, none⟩ = some (.bool t.f1) := (blk_cell BK.out 1).trans rfl
  rcases hjj with rfl | rfl | rfl | rfl | rfl | rfl | rfl
  ·
   have hR := HR.out.1 rfl
   clear HR
   have NJ : Aside0 (5 - 0 < gk) := ⟨by simp at hkq; omega⟩
   clear hkq
   cases b0
   ·
    go_wp2_with (first
     | ((with_reducible refine gate_dst (N := 6) rfl ?_); refine box_event ?hg (N := 6) ?hd (cs := #[.int .i64 0, .bool false]) (t := 29) ?hr ?_; (case hd => rfl); (case hg => rfl); (case hr => first | (go_simp; done) | (go_simp; rfl)); intro g6 hg w4 hbox hb; have HB4 := Aside0.mk (below_step HB.out hb); have BK4 := Aside0.mk hbox; have BT4 := Aside0.mk (blk_below BK.out hb); have G6 : Aside0 (w.heap.size ≤ g6) := ⟨by rw [hg]; exact HB.out.size⟩; have NE : Aside0 (g3 ≠ g6) := ⟨by have := blk_lt BK.out; omega⟩; clear hb hbox hg hp0 hp1)
     | ((with_reducible refine gate_ (.store 29 (.tmp 6) (.tmp 14)) rfl ?_); refine box_store rfl rfl 29 (.tmp 6) (.tmp 14) rfl (g := g6) (off := 0) (new := #[.int .i64 s, .bool false]) _ [.int .i64 s, .bool false] BK4.out rfl rfl rfl (by kernel_rfl) (by simp [Value.oneCell']) (Nat.le_of_ble_eq_true rfl) rfl ?_; intro w5 hh5 hg5 hz5; have BK5 := Aside0.mk hh5; have HB5 := Aside0.mk (below_grown HB4.out hg5 G6.out HB4.out.size); have BT5 := Aside0.mk (blk_grown BT4.out hg5 (fun h => NE.out (Option.some.inj h))); have hq0 : w5.cell? ⟨g6, 0, none⟩ = some (.int .i64 s) := (blk_cell BK5.out 0).trans rfl; have hq1 : w5.cell? ⟨g6, 1, none⟩ = some (.bool false) := (blk_cell BK5.out 1).trans rfl; have hp0 : w5.cell? ⟨g3, 0, none⟩ = some (.int .i64 t.f0) := (blk_cell BT5.out 0).trans rfl; have hp1 : w5.cell? ⟨g3, 1, none⟩ = some (.bool t.f1) := (blk_cell BT5.out 1).trans rfl; clear hh5 hg5 hz5))
    go_roundg (5 - 0)
    case measure => exact NJ.out
    case rel => exact ⟨1, by simp, ⟨by decide⟩, ⟨fun h => absurd h (by decide), fun _ => by rw [hR]; rfl, fun h => absurd h (by decide), fun h => absurd h (by decide), fun h => absurd h (by decide), fun h => absurd h (by decide), fun h => absurd h (by decide)⟩, BT5, HB5⟩
   ·
    go_wp2_with (first
     | ((with_reducible refine gate_dst (N := 6) rfl ?_); refine box_event ?hg (N := 6) ?hd (cs := #[.int .i64 0, .bool false]) (t := 29) ?hr ?_; (case hd => rfl); (case hg => rfl); (case hr => first | (go_simp; done) | (go_simp; rfl)); intro g6 hg w4 hbox hb; have HB4 := Aside0.mk (below_step HB.out hb); have BK4 := Aside0.mk hbox; have BT4 := Aside0.mk (blk_below BK.out hb); have G6 : Aside0 (w.heap.size ≤ g6) := ⟨by rw [hg]; exact HB.out.size⟩; have NE : Aside0 (g3 ≠ g6) := ⟨by have := blk_lt BK.out; omega⟩; clear hb hbox hg hp0 hp1)
     | ((with_reducible refine gate_ (.store 29 (.tmp 6) (.tmp 14)) rfl ?_); refine box_store rfl rfl 29 (.tmp 6) (.tmp 14) rfl (g := g6) (off := 0) (new := #[.int .i64 s, .bool false]) _ [.int .i64 s, .bool false] BK4.out rfl rfl rfl (by kernel_rfl) (by simp [Value.oneCell']) (Nat.le_of_ble_eq_true rfl) rfl ?_; intro w5 hh5 hg5 hz5; have BK5 := Aside0.mk hh5; have HB5 := Aside0.mk (below_grown HB4.out hg5 G6.out HB4.out.size); have BT5 := Aside0.mk (blk_grown BT4.out hg5 (fun h => NE.out (Option.some.inj h))); have hq0 : w5.cell? ⟨g6, 0, none⟩ = some (.int .i64 s) := (blk_cell BK5.out 0).trans rfl; have hq1 : w5.cell? ⟨g6, 1, none⟩ = some (.bool false) := (blk_cell BK5.out 1).trans rfl; have hp0 : w5.cell? ⟨g3, 0, none⟩ = some (.int .i64 t.f0) := (blk_cell BT5.out 0).trans rfl; have hp1 : w5.cell? ⟨g3, 1, none⟩ = some (.bool t.f1) := (blk_cell BT5.out 1).trans rfl; clear hh5 hg5 hz5))
    go_ret
    exact ⟨by first | rfl | (rw [hR]; rfl), HB5.out⟩
  ·
   have hR := HR.out.2.1 rfl
   clear HR
   have NJ : Aside0 (5 - 1 < gk) := ⟨by simp at hkq; omega⟩
   clear hkq
   cases b1
   ·
    go_wp2_with (first
     | ((with_reducible refine gate_dst (N := 6) rfl ?_); refine box_event ?hg (N := 6) ?hd (cs := #[.int .i64 0, .bool false]) (t := 29) ?hr ?_; (case hd => rfl); (case hg => rfl); (case hr => first | (go_simp; done) | (go_simp; rfl)); intro g6 hg w4 hbox hb; have HB4 := Aside0.mk (below_step HB.out hb); have BK4 := Aside0.mk hbox; have BT4 := Aside0.mk (blk_below BK.out hb); have G6 : Aside0 (w.heap.size ≤ g6) := ⟨by rw [hg]; exact HB.out.size⟩; have NE : Aside0 (g3 ≠ g6) := ⟨by have := blk_lt BK.out; omega⟩; clear hb hbox hg hp0 hp1)
     | ((with_reducible refine gate_ (.store 29 (.tmp 6) (.tmp 14)) rfl ?_); refine box_store rfl rfl 29 (.tmp 6) (.tmp 14) rfl (g := g6) (off := 0) (new := #[.int .i64 (s + 1), .bool false]) _ [.int .i64 (s + 1), .bool false] BK4.out rfl rfl rfl (by kernel_rfl) (by simp [Value.oneCell']) (Nat.le_of_ble_eq_true rfl) rfl ?_; intro w5 hh5 hg5 hz5; have BK5 := Aside0.mk hh5; have HB5 := Aside0.mk (below_grown HB4.out hg5 G6.out HB4.out.size); have BT5 := Aside0.mk (blk_grown BT4.out hg5 (fun h => NE.out (Option.some.inj h))); have hq0 : w5.cell? ⟨g6, 0, none⟩ = some (.int .i64 (s + 1)) := (blk_cell BK5.out 0).trans rfl; have hq1 : w5.cell? ⟨g6, 1, none⟩ = some (.bool false) := (blk_cell BK5.out 1).trans rfl; have hp0 : w5.cell? ⟨g3, 0, none⟩ = some (.int .i64 t.f0) := (blk_cell BT5.out 0).trans rfl; have hp1 : w5.cell? ⟨g3, 1, none⟩ = some (.bool t.f1) := (blk_cell BT5.out 1).trans rfl; clear hh5 hg5 hz5))
    go_roundg (5 - 1)
    case measure => exact NJ.out
    case rel => exact ⟨2, by simp, ⟨by decide⟩, ⟨fun h => absurd h (by decide), fun h => absurd h (by decide), fun _ => by rw [hR]; rfl, fun h => absurd h (by decide), fun h => absurd h (by decide), fun h => absurd h (by decide), fun h => absurd h (by decide)⟩, BT5, HB5⟩
   ·
    go_wp2_with (first
     | ((with_reducible refine gate_dst (N := 6) rfl ?_); refine box_event ?hg (N := 6) ?hd (cs := #[.int .i64 0, .bool false]) (t := 29) ?hr ?_; (case hd => rfl); (case hg => rfl); (case hr => first | (go_simp; done) | (go_simp; rfl)); intro g6 hg w4 hbox hb; have HB4 := Aside0.mk (below_step HB.out hb); have BK4 := Aside0.mk hbox; have BT4 := Aside0.mk (blk_below BK.out hb); have G6 : Aside0 (w.heap.size ≤ g6) := ⟨by rw [hg]; exact HB.out.size⟩; have NE : Aside0 (g3 ≠ g6) := ⟨by have := blk_lt BK.out; omega⟩; clear hb hbox hg hp0 hp1)
     | ((with_reducible refine gate_ (.store 29 (.tmp 6) (.tmp 14)) rfl ?_); refine box_store rfl rfl 29 (.tmp 6) (.tmp 14) rfl (g := g6) (off := 0) (new := #[.int .i64 (s + 1), .bool false]) _ [.int .i64 (s + 1), .bool false] BK4.out rfl rfl rfl (by kernel_rfl) (by simp [Value.oneCell']) (Nat.le_of_ble_eq_true rfl) rfl ?_; intro w5 hh5 hg5 hz5; have BK5 := Aside0.mk hh5; have HB5 := Aside0.mk (below_grown HB4.out hg5 G6.out HB4.out.size); have BT5 := Aside0.mk (blk_grown BT4.out hg5 (fun h => NE.out (Option.some.inj h))); have hq0 : w5.cell? ⟨g6, 0, none⟩ = some (.int .i64 (s + 1)) := (blk_cell BK5.out 0).trans rfl; have hq1 : w5.cell? ⟨g6, 1, none⟩ = some (.bool false) := (blk_cell BK5.out 1).trans rfl; have hp0 : w5.cell? ⟨g3, 0, none⟩ = some (.int .i64 t.f0) := (blk_cell BT5.out 0).trans rfl; have hp1 : w5.cell? ⟨g3, 1, none⟩ = some (.bool t.f1) := (blk_cell BT5.out 1).trans rfl; clear hh5 hg5 hz5))
    go_ret
    exact ⟨by first | rfl | (rw [hR]; rfl), HB5.out⟩
  ·
   have hR := HR.out.2.2.1 rfl
   clear HR
   have NJ : Aside0 (5 - 2 < gk) := ⟨by simp at hkq; omega⟩
   clear hkq
   cases b2
   ·
    go_wp2_with (first
     | ((with_reducible refine gate_dst (N := 6) rfl ?_); refine box_event ?hg (N := 6) ?hd (cs := #[.int .i64 0, .bool false]) (t := 29) ?hr ?_; (case hd => rfl); (case hg => rfl); (case hr => first | (go_simp; done) | (go_simp; rfl)); intro g6 hg w4 hbox hb; have HB4 := Aside0.mk (below_step HB.out hb); have BK4 := Aside0.mk hbox; have BT4 := Aside0.mk (blk_below BK.out hb); have G6 : Aside0 (w.heap.size ≤ g6) := ⟨by rw [hg]; exact HB.out.size⟩; have NE : Aside0 (g3 ≠ g6) := ⟨by have := blk_lt BK.out; omega⟩; clear hb hbox hg hp0 hp1)
     | ((with_reducible refine gate_ (.store 29 (.tmp 6) (.tmp 14)) rfl ?_); refine box_store rfl rfl 29 (.tmp 6) (.tmp 14) rfl (g := g6) (off := 0) (new := #[.int .i64 (s + 2), .bool false]) _ [.int .i64 (s + 2), .bool false] BK4.out rfl rfl rfl (by kernel_rfl) (by simp [Value.oneCell']) (Nat.le_of_ble_eq_true rfl) rfl ?_; intro w5 hh5 hg5 hz5; have BK5 := Aside0.mk hh5; have HB5 := Aside0.mk (below_grown HB4.out hg5 G6.out HB4.out.size); have BT5 := Aside0.mk (blk_grown BT4.out hg5 (fun h => NE.out (Option.some.inj h))); have hq0 : w5.cell? ⟨g6, 0, none⟩ = some (.int .i64 (s + 2)) := (blk_cell BK5.out 0).trans rfl; have hq1 : w5.cell? ⟨g6, 1, none⟩ = some (.bool false) := (blk_cell BK5.out 1).trans rfl; have hp0 : w5.cell? ⟨g3, 0, none⟩ = some (.int .i64 t.f0) := (blk_cell BT5.out 0).trans rfl; have hp1 : w5.cell? ⟨g3, 1, none⟩ = some (.bool t.f1) := (blk_cell BT5.out 1).trans rfl; clear hh5 hg5 hz5))
    go_roundg (5 - 2)
    case measure => exact NJ.out
    case rel => exact ⟨3, by simp, ⟨by decide⟩, ⟨fun h => absurd h (by decide), fun h => absurd h (by decide), fun h => absurd h (by decide), fun _ => by rw [hR]; rfl, fun h => absurd h (by decide), fun h => absurd h (by decide), fun h => absurd h (by decide)⟩, BT5, HB5⟩
   ·
    go_wp2_with (first
     | ((with_reducible refine gate_dst (N := 6) rfl ?_); refine box_event ?hg (N := 6) ?hd (cs := #[.int .i64 0, .bool false]) (t := 29) ?hr ?_; (case hd => rfl); (case hg => rfl); (case hr => first | (go_simp; done) | (go_simp; rfl)); intro g6 hg w4 hbox hb; have HB4 := Aside0.mk (below_step HB.out hb); have BK4 := Aside0.mk hbox; have BT4 := Aside0.mk (blk_below BK.out hb); have G6 : Aside0 (w.heap.size ≤ g6) := ⟨by rw [hg]; exact HB.out.size⟩; have NE : Aside0 (g3 ≠ g6) := ⟨by have := blk_lt BK.out; omega⟩; clear hb hbox hg hp0 hp1)
     | ((with_reducible refine gate_ (.store 29 (.tmp 6) (.tmp 14)) rfl ?_); refine box_store rfl rfl 29 (.tmp 6) (.tmp 14) rfl (g := g6) (off := 0) (new := #[.int .i64 (s + 2), .bool false]) _ [.int .i64 (s + 2), .bool false] BK4.out rfl rfl rfl (by kernel_rfl) (by simp [Value.oneCell']) (Nat.le_of_ble_eq_true rfl) rfl ?_; intro w5 hh5 hg5 hz5; have BK5 := Aside0.mk hh5; have HB5 := Aside0.mk (below_grown HB4.out hg5 G6.out HB4.out.size); have BT5 := Aside0.mk (blk_grown BT4.out hg5 (fun h => NE.out (Option.some.inj h))); have hq0 : w5.cell? ⟨g6, 0, none⟩ = some (.int .i64 (s + 2)) := (blk_cell BK5.out 0).trans rfl; have hq1 : w5.cell? ⟨g6, 1, none⟩ = some (.bool false) := (blk_cell BK5.out 1).trans rfl; have hp0 : w5.cell? ⟨g3, 0, none⟩ = some (.int .i64 t.f0) := (blk_cell BT5.out 0).trans rfl; have hp1 : w5.cell? ⟨g3, 1, none⟩ = some (.bool t.f1) := (blk_cell BT5.out 1).trans rfl; clear hh5 hg5 hz5))
    go_ret
    exact ⟨by first | rfl | (rw [hR]; rfl), HB5.out⟩
  ·
   have hR := HR.out.2.2.2.1 rfl
   clear HR
   have NJ : Aside0 (5 - 3 < gk) := ⟨by simp at hkq; omega⟩
   clear hkq
   cases b3
   ·
    go_wp2_with (first
     | ((with_reducible refine gate_dst (N := 6) rfl ?_); refine box_event ?hg (N := 6) ?hd (cs := #[.int .i64 0, .bool false]) (t := 29) ?hr ?_; (case hd => rfl); (case hg => rfl); (case hr => first | (go_simp; done) | (go_simp; rfl)); intro g6 hg w4 hbox hb; have HB4 := Aside0.mk (below_step HB.out hb); have BK4 := Aside0.mk hbox; have BT4 := Aside0.mk (blk_below BK.out hb); have G6 : Aside0 (w.heap.size ≤ g6) := ⟨by rw [hg]; exact HB.out.size⟩; have NE : Aside0 (g3 ≠ g6) := ⟨by have := blk_lt BK.out; omega⟩; clear hb hbox hg hp0 hp1)
     | ((with_reducible refine gate_ (.store 29 (.tmp 6) (.tmp 14)) rfl ?_); refine box_store rfl rfl 29 (.tmp 6) (.tmp 14) rfl (g := g6) (off := 0) (new := #[.int .i64 (s + 3), .bool f]) _ [.int .i64 (s + 3), .bool f] BK4.out rfl rfl rfl (by kernel_rfl) (by simp [Value.oneCell']) (Nat.le_of_ble_eq_true rfl) rfl ?_; intro w5 hh5 hg5 hz5; have BK5 := Aside0.mk hh5; have HB5 := Aside0.mk (below_grown HB4.out hg5 G6.out HB4.out.size); have BT5 := Aside0.mk (blk_grown BT4.out hg5 (fun h => NE.out (Option.some.inj h))); have hq0 : w5.cell? ⟨g6, 0, none⟩ = some (.int .i64 (s + 3)) := (blk_cell BK5.out 0).trans rfl; have hq1 : w5.cell? ⟨g6, 1, none⟩ = some (.bool f) := (blk_cell BK5.out 1).trans rfl; have hp0 : w5.cell? ⟨g3, 0, none⟩ = some (.int .i64 t.f0) := (blk_cell BT5.out 0).trans rfl; have hp1 : w5.cell? ⟨g3, 1, none⟩ = some (.bool t.f1) := (blk_cell BT5.out 1).trans rfl; clear hh5 hg5 hz5))
    go_roundg (5 - 3)
    case measure => exact NJ.out
    case rel => exact ⟨4, by simp, ⟨by decide⟩, ⟨fun h => absurd h (by decide), fun h => absurd h (by decide), fun h => absurd h (by decide), fun h => absurd h (by decide), fun _ => by rw [hR]; rfl, fun h => absurd h (by decide), fun h => absurd h (by decide)⟩, BT5, HB5⟩
   ·
    go_wp2_with (first
     | ((with_reducible refine gate_dst (N := 6) rfl ?_); refine box_event ?hg (N := 6) ?hd (cs := #[.int .i64 0, .bool false]) (t := 29) ?hr ?_; (case hd => rfl); (case hg => rfl); (case hr => first | (go_simp; done) | (go_simp; rfl)); intro g6 hg w4 hbox hb; have HB4 := Aside0.mk (below_step HB.out hb); have BK4 := Aside0.mk hbox; have BT4 := Aside0.mk (blk_below BK.out hb); have G6 : Aside0 (w.heap.size ≤ g6) := ⟨by rw [hg]; exact HB.out.size⟩; have NE : Aside0 (g3 ≠ g6) := ⟨by have := blk_lt BK.out; omega⟩; clear hb hbox hg hp0 hp1)
     | ((with_reducible refine gate_ (.store 29 (.tmp 6) (.tmp 14)) rfl ?_); refine box_store rfl rfl 29 (.tmp 6) (.tmp 14) rfl (g := g6) (off := 0) (new := #[.int .i64 (s + 3), .bool f]) _ [.int .i64 (s + 3), .bool f] BK4.out rfl rfl rfl (by kernel_rfl) (by simp [Value.oneCell']) (Nat.le_of_ble_eq_true rfl) rfl ?_; intro w5 hh5 hg5 hz5; have BK5 := Aside0.mk hh5; have HB5 := Aside0.mk (below_grown HB4.out hg5 G6.out HB4.out.size); have BT5 := Aside0.mk (blk_grown BT4.out hg5 (fun h => NE.out (Option.some.inj h))); have hq0 : w5.cell? ⟨g6, 0, none⟩ = some (.int .i64 (s + 3)) := (blk_cell BK5.out 0).trans rfl; have hq1 : w5.cell? ⟨g6, 1, none⟩ = some (.bool f) := (blk_cell BK5.out 1).trans rfl; have hp0 : w5.cell? ⟨g3, 0, none⟩ = some (.int .i64 t.f0) := (blk_cell BT5.out 0).trans rfl; have hp1 : w5.cell? ⟨g3, 1, none⟩ = some (.bool t.f1) := (blk_cell BT5.out 1).trans rfl; clear hh5 hg5 hz5))
    go_ret
    exact ⟨by first | rfl | (rw [hR]; rfl), HB5.out⟩
  ·
   have hR := HR.out.2.2.2.2.1 rfl
   clear HR
   have NJ : Aside0 (5 - 4 < gk) := ⟨by simp at hkq; omega⟩
   clear hkq
   cases b4
   ·
    go_wp2_with (first
     | ((with_reducible refine gate_dst (N := 6) rfl ?_); refine box_event ?hg (N := 6) ?hd (cs := #[.int .i64 0, .bool false]) (t := 29) ?hr ?_; (case hd => rfl); (case hg => rfl); (case hr => first | (go_simp; done) | (go_simp; rfl)); intro g6 hg w4 hbox hb; have HB4 := Aside0.mk (below_step HB.out hb); have BK4 := Aside0.mk hbox; have BT4 := Aside0.mk (blk_below BK.out hb); have G6 : Aside0 (w.heap.size ≤ g6) := ⟨by rw [hg]; exact HB.out.size⟩; have NE : Aside0 (g3 ≠ g6) := ⟨by have := blk_lt BK.out; omega⟩; clear hb hbox hg hp0 hp1)
     | ((with_reducible refine gate_ (.store 29 (.tmp 6) (.tmp 14)) rfl ?_); refine box_store rfl rfl 29 (.tmp 6) (.tmp 14) rfl (g := g6) (off := 0) (new := #[.int .i64 (s + 4), .bool false]) _ [.int .i64 (s + 4), .bool false] BK4.out rfl rfl rfl (by kernel_rfl) (by simp [Value.oneCell']) (Nat.le_of_ble_eq_true rfl) rfl ?_; intro w5 hh5 hg5 hz5; have BK5 := Aside0.mk hh5; have HB5 := Aside0.mk (below_grown HB4.out hg5 G6.out HB4.out.size); have BT5 := Aside0.mk (blk_grown BT4.out hg5 (fun h => NE.out (Option.some.inj h))); have hq0 : w5.cell? ⟨g6, 0, none⟩ = some (.int .i64 (s + 4)) := (blk_cell BK5.out 0).trans rfl; have hq1 : w5.cell? ⟨g6, 1, none⟩ = some (.bool false) := (blk_cell BK5.out 1).trans rfl; have hp0 : w5.cell? ⟨g3, 0, none⟩ = some (.int .i64 t.f0) := (blk_cell BT5.out 0).trans rfl; have hp1 : w5.cell? ⟨g3, 1, none⟩ = some (.bool t.f1) := (blk_cell BT5.out 1).trans rfl; clear hh5 hg5 hz5))
    go_roundg (5 - 4)
    case measure => exact NJ.out
    case rel => exact ⟨5, by simp, ⟨by decide⟩, ⟨fun h => absurd h (by decide), fun h => absurd h (by decide), fun h => absurd h (by decide), fun h => absurd h (by decide), fun h => absurd h (by decide), fun _ => by rw [hR]; rfl, fun h => absurd h (by decide)⟩, BT5, HB5⟩
   ·
    go_wp2_with (first
     | ((with_reducible refine gate_dst (N := 6) rfl ?_); refine box_event ?hg (N := 6) ?hd (cs := #[.int .i64 0, .bool false]) (t := 29) ?hr ?_; (case hd => rfl); (case hg => rfl); (case hr => first | (go_simp; done) | (go_simp; rfl)); intro g6 hg w4 hbox hb; have HB4 := Aside0.mk (below_step HB.out hb); have BK4 := Aside0.mk hbox; have BT4 := Aside0.mk (blk_below BK.out hb); have G6 : Aside0 (w.heap.size ≤ g6) := ⟨by rw [hg]; exact HB.out.size⟩; have NE : Aside0 (g3 ≠ g6) := ⟨by have := blk_lt BK.out; omega⟩; clear hb hbox hg hp0 hp1)
     | ((with_reducible refine gate_ (.store 29 (.tmp 6) (.tmp 14)) rfl ?_); refine box_store rfl rfl 29 (.tmp 6) (.tmp 14) rfl (g := g6) (off := 0) (new := #[.int .i64 (s + 4), .bool false]) _ [.int .i64 (s + 4), .bool false] BK4.out rfl rfl rfl (by kernel_rfl) (by simp [Value.oneCell']) (Nat.le_of_ble_eq_true rfl) rfl ?_; intro w5 hh5 hg5 hz5; have BK5 := Aside0.mk hh5; have HB5 := Aside0.mk (below_grown HB4.out hg5 G6.out HB4.out.size); have BT5 := Aside0.mk (blk_grown BT4.out hg5 (fun h => NE.out (Option.some.inj h))); have hq0 : w5.cell? ⟨g6, 0, none⟩ = some (.int .i64 (s + 4)) := (blk_cell BK5.out 0).trans rfl; have hq1 : w5.cell? ⟨g6, 1, none⟩ = some (.bool false) := (blk_cell BK5.out 1).trans rfl; have hp0 : w5.cell? ⟨g3, 0, none⟩ = some (.int .i64 t.f0) := (blk_cell BT5.out 0).trans rfl; have hp1 : w5.cell? ⟨g3, 1, none⟩ = some (.bool t.f1) := (blk_cell BT5.out 1).trans rfl; clear hh5 hg5 hz5))
    go_ret
    exact ⟨by first | rfl | (rw [hR]; rfl), HB5.out⟩
  ·
   have hR := HR.out.2.2.2.2.2.1 rfl
   clear HR
   have NJ : Aside0 (5 - 5 < gk) := ⟨by simp at hkq; omega⟩
   clear hkq
   cases b5
   ·
    go_wp2_with (first
     | ((with_reducible refine gate_dst (N := 6) rfl ?_); refine box_event ?hg (N := 6) ?hd (cs := #[.int .i64 0, .bool false]) (t := 29) ?hr ?_; (case hd => rfl); (case hg => rfl); (case hr => first | (go_simp; done) | (go_simp; rfl)); intro g6 hg w4 hbox hb; have HB4 := Aside0.mk (below_step HB.out hb); have BK4 := Aside0.mk hbox; have BT4 := Aside0.mk (blk_below BK.out hb); have G6 : Aside0 (w.heap.size ≤ g6) := ⟨by rw [hg]; exact HB.out.size⟩; have NE : Aside0 (g3 ≠ g6) := ⟨by have := blk_lt BK.out; omega⟩; clear hb hbox hg hp0 hp1)
     | ((with_reducible refine gate_ (.store 29 (.tmp 6) (.tmp 14)) rfl ?_); refine box_store rfl rfl 29 (.tmp 6) (.tmp 14) rfl (g := g6) (off := 0) (new := #[.int .i64 (s + 5), .bool false]) _ [.int .i64 (s + 5), .bool false] BK4.out rfl rfl rfl (by kernel_rfl) (by simp [Value.oneCell']) (Nat.le_of_ble_eq_true rfl) rfl ?_; intro w5 hh5 hg5 hz5; have BK5 := Aside0.mk hh5; have HB5 := Aside0.mk (below_grown HB4.out hg5 G6.out HB4.out.size); have BT5 := Aside0.mk (blk_grown BT4.out hg5 (fun h => NE.out (Option.some.inj h))); have hq0 : w5.cell? ⟨g6, 0, none⟩ = some (.int .i64 (s + 5)) := (blk_cell BK5.out 0).trans rfl; have hq1 : w5.cell? ⟨g6, 1, none⟩ = some (.bool false) := (blk_cell BK5.out 1).trans rfl; have hp0 : w5.cell? ⟨g3, 0, none⟩ = some (.int .i64 t.f0) := (blk_cell BT5.out 0).trans rfl; have hp1 : w5.cell? ⟨g3, 1, none⟩ = some (.bool t.f1) := (blk_cell BT5.out 1).trans rfl; clear hh5 hg5 hz5))
    go_roundg (5 - 5)
    case measure => exact NJ.out
    case rel => exact ⟨6, by simp, ⟨by decide⟩, ⟨fun h => absurd h (by decide), fun h => absurd h (by decide), fun h => absurd h (by decide), fun h => absurd h (by decide), fun h => absurd h (by decide), fun h => absurd h (by decide), fun _ => by rw [hR]; rfl⟩, BT5, HB5⟩
   ·
    go_wp2_with (first
     | ((with_reducible refine gate_dst (N := 6) rfl ?_); refine box_event ?hg (N := 6) ?hd (cs := #[.int .i64 0, .bool false]) (t := 29) ?hr ?_; (case hd => rfl); (case hg => rfl); (case hr => first | (go_simp; done) | (go_simp; rfl)); intro g6 hg w4 hbox hb; have HB4 := Aside0.mk (below_step HB.out hb); have BK4 := Aside0.mk hbox; have BT4 := Aside0.mk (blk_below BK.out hb); have G6 : Aside0 (w.heap.size ≤ g6) := ⟨by rw [hg]; exact HB.out.size⟩; have NE : Aside0 (g3 ≠ g6) := ⟨by have := blk_lt BK.out; omega⟩; clear hb hbox hg hp0 hp1)
     | ((with_reducible refine gate_ (.store 29 (.tmp 6) (.tmp 14)) rfl ?_); refine box_store rfl rfl 29 (.tmp 6) (.tmp 14) rfl (g := g6) (off := 0) (new := #[.int .i64 (s + 5), .bool false]) _ [.int .i64 (s + 5), .bool false] BK4.out rfl rfl rfl (by kernel_rfl) (by simp [Value.oneCell']) (Nat.le_of_ble_eq_true rfl) rfl ?_; intro w5 hh5 hg5 hz5; have BK5 := Aside0.mk hh5; have HB5 := Aside0.mk (below_grown HB4.out hg5 G6.out HB4.out.size); have BT5 := Aside0.mk (blk_grown BT4.out hg5 (fun h => NE.out (Option.some.inj h))); have hq0 : w5.cell? ⟨g6, 0, none⟩ = some (.int .i64 (s + 5)) := (blk_cell BK5.out 0).trans rfl; have hq1 : w5.cell? ⟨g6, 1, none⟩ = some (.bool false) := (blk_cell BK5.out 1).trans rfl; have hp0 : w5.cell? ⟨g3, 0, none⟩ = some (.int .i64 t.f0) := (blk_cell BT5.out 0).trans rfl; have hp1 : w5.cell? ⟨g3, 1, none⟩ = some (.bool t.f1) := (blk_cell BT5.out 1).trans rfl; clear hh5 hg5 hz5))
    go_ret
    exact ⟨by first | rfl | (rw [hR]; rfl), HB5.out⟩
  ·
   have hR := HR.out.2.2.2.2.2.2 rfl
   go_wp2
   go_ret
   exact ⟨by first | rfl | rw [hR], HB.out⟩

end Go.Proofs.YtiagfjbngpbejaaDoor.Pure
namespace Go.Proofs.YtiagfjbngpbejaaDoor.Pure
set_option linter.unusedVariables false
set_option linter.unusedSimpArgs false
open Go Go.RowKit Go.Proofs.YtiagfjbngpbejaaDoor.PFnExactSingBest Go.Proofs.YtiagfjbngpbejaaDoorW.PrintWords Go.Proofs.YtiagfjbngpbejaaDoorW.PrintLast Go.Proofs.YtiagfjbngpbejaaDoorW.PrintMore

def hexAll (t : S29) : List Int := hexSt.filter (fun s => decide (0 ≤ hexSyl s t))
def hexUpto (t : S29) (i : Nat) : List Int := (hexSt.take i).filter (fun s => decide (0 ≤ hexSyl s t))
theorem hexUpto_succ (t : S29) (i : Nat) (s : Int) (h : hexSt[i]? = some s) : hexUpto t (i + 1) = if 0 ≤ hexSyl s t then hexUpto t i ++ [s] else hexUpto t i := by
 unfold hexUpto
 obtain ⟨hl, he⟩ := List.getElem?_eq_some_iff.1 h
 rw [List.take_succ_eq_append_getElem hl, List.filter_append, he]
 by_cases hy : 0 ≤ hexSyl s t
 ·
  rw [if_pos hy, List.filter_cons_of_pos (by simpa using hy)]; rfl
 ·
  rw [if_neg hy, List.filter_cons_of_neg (by simpa using hy)]; simp
theorem hexUpto_len (t : S29) (i : Nat) : (hexUpto t i).length ≤ 7 := by
 unfold hexUpto
 refine Nat.le_trans (List.length_filter_le _ _) ?_
 rw [List.length_take]
 exact Nat.min_le_right _ _
set_option maxHeartbeats 40000000 in
set_option maxRecDepth 100000 in
theorem impl_HexAll_calls (t : S29) (w : World) (ht : NTab w) :
 Calls Tryd.prog 8 #[.agg #[.int .i64 t.f0, .bool t.f1]] w fun e w' => ∃ v, e = .returned v ∧ (Kd.int .i64).R 3 w' w.heap.size (fun _ => True) v (hexAll t) ∧ Below w.heap.size w w' := by
 have HT := Aside0.mk ht
 clear ht
 go_enter Tryd.func8, Tryd.ntmps8
 go_wp2_with (first
  | ((with_reducible refine gate_dst (N := 1) rfl ?_); refine box_event ?hg (N := 1) ?hd (cs := #[.int .i64 t.f0, .bool t.f1]) (t := 29) ?hr ?_; (case hd => rfl); (case hg => rfl); (case hr => first | (go_simp; done) | (go_simp; rfl)); intro g1 hg w1 hbox hb; have HB1 := Aside0.mk hb; have BK1 := Aside0.mk hbox; clear hb hbox hg)
  | ((with_reducible refine gate_dst (N := 6) rfl ?_); refine Kd.R_lit (Kd.int .i64) _ 3 ?hg (N := 6) ?hd (xs := ([] : List Int)) (inner := []) (ok := fun _ => True) (okp := fun _ => True) ?hr (Reps.none _ _) (fun _ hk => hk) trivial (Below.refl _ _) (Nat.le_refl _) (by simp) ?_; (case hd => rfl); (case hg => rfl); (case hr => first | (go_simp; done) | (go_simp; rfl)); intro v3 w2 ho hb _ _; have HO2 := Aside0.mk (Kd.R_lower ho HB1.out.size); have BK2 := Aside0.mk (blk_below BK1.out hb); have HB2 := Aside0.mk (below_step HB1.out hb); clear ho hb)
  | (go_at_call 23; refine (impl_hexachords_calls _ (HT.out.below HB2.out)).mono ?_; rintro e w3 ⟨g, v, rfl, hgg, hg, hr, hb⟩; obtain ⟨bA, cap, rfl, hA0, hA1, cells, hA⟩ := Kd.R_form hr (by decide); rw [show (hexSt.map hexL).length = 7 from rfl] at hg hr; have hcC := (Kd.R_reads' hr).2.2; have HC := Aside0.mk hcC; have HA := Aside0.mk hA; have HG := Aside0.mk hg; have HO3 := Aside0.mk (Kd.R_below HO2.out hb); have BK3 := Aside0.mk (blk_below BK2.out hb); have HB3 := Aside0.mk (below_step HB2.out hb); have hv : w3.cell? ⟨g, 0, none⟩ = some (.slice (some ⟨bA, 0, none⟩) 7 cap) := blk_cell HG.out 0; clear hb hr hgg hg hA0 hA1 hA hcC))
 have hcells : ∀ (j k : Nat) (s : Int) (u : Value), hexSt[j]? = some s → (hexL s)[k]? = some u → cells[j * 13 + k]? = some u := by
  intro j k s u hj hk
  obtain ⟨ad, ea, hc⟩ := HC.out.2.2 (by decide)
  obtain rfl := Option.some.inj ea
  obtain ⟨c, hcl, hK, hcc⟩ := hc j (hexL s) (by rw [List.getElem?_map, hj]; rfl)
  have e : c = hexL s := hK.1
  rw [e] at hcc
  have := hcc k u hk
  rw [Addr.add_lit, Nat.zero_add, blk_cell HA.out] at this
  exact this
 have HCE := Aside0.mk hcells
 clear hcells HC
 skip
 go_loopg [3, 5, 13] 7 (fun kq v3 v5 v13 w' => ∃ (i : Nat), v13 = .int .i64 (i : Int) ∧ Aside0 (kq = 7 - i ∧ i ≤ 7) ∧ Aside0 ((Kd.int .i64).R 3 w' w.heap.size (fun _ => True) v3 (hexUpto t i)) ∧ Aside0 (w'.heap[bA]? = some (.cells cells 52 (0, 0))) ∧ Aside0 (w'.heap[g]? = some (.cells #[.slice (some ⟨bA, 0, none⟩) (hexSt.map hexL).length cap] 49 (0, 0))) ∧ Aside0 (w'.heap[g1]? = some (.cells #[.int .i64 t.f0, .bool t.f1] 29 (0, 0))) ∧ Aside0 (Below w.heap.size w w'))
 case atStart => exact ⟨0, rfl, ⟨rfl, by omega⟩, HO3, HA, HG, BK3, HB3⟩
 case round =>
  clear HO2 BK2 HB2 HB1 BK1 HO3 BK3 HB3 HA HG hv
  obtain ⟨i, rfl, HX, HO, HA, HG, BK, HB⟩ := hrel
  obtain ⟨hkq, hi7⟩ := HX.out
  clear HX
  by_cases hi : (i : Int) < 7
  rotate_left
  ·
   obtain rfl : i = 7 := by omega
   have d1 : decide (((7 : Nat) : Int) < (7 : Int)) = false := by decide
   go_wp2
   go_ret
   exact ⟨_, rfl, HO.out, HB.out⟩
  obtain ⟨s, hs⟩ : ∃ s, hexSt[i]? = some s := ⟨_, List.getElem?_eq_getElem (show i < hexSt.length by show i < 7; omega)⟩
  have hs20 : 0 ≤ s ∧ s ≤ 20 := by
   have hm := List.mem_of_getElem? hs
   unfold hexSt at hm
   simp at hm
   omega
  have hcc : ∀ k u, (hexL s)[k]? = some u → wr.cell? ⟨bA, i * 13 + k, none⟩ = some u := fun k u hk => by rw [blk_cell HA.out]; exact HCE.out i k s u hs hk
  have HCC := Aside0.mk hcc
  have HS := Aside0.mk (And.intro hs20 hs)
  have NX : Aside0 (7 - (i + 1) < gk ∧ i + 1 ≤ 7) := ⟨by omega, by omega⟩
  have d1 : decide ((i : Int) < (7 : Int)) = true := decide_eq_true hi
  have q0 := eq_true (show (0 : Int) ≤ (i : Int) by omega)
  have q1 := eq_true (show (i : Int) < (7 : Int) from hi)
  have p3 : IntKind.i64.wrap ((i : Int) + 1) = (i : Int) + 1 := by rw [Go.IntKind.wrap_i64]; omega
  obtain ⟨y, hy⟩ : ∃ y, y = hexSyl s t := ⟨_, rfl⟩
  have hcon : ∀ W, (∀ k u, (hexL s)[k]? = some u → W.cell? ⟨bA, i * 13 + k, none⟩ = some u) → Calls Tryd.prog 24 #[.pointer (some ⟨bA, i * 13, none⟩), .agg #[.int .i64 t.f0, .bool t.f1]] W fun e w' => e = .returned (.int .i64 y) ∧ Below W.heap.size W w' := fun W hW => by rw [hy]; exact impl_syllable_calls s t bA (i * 13) W hs20 hW
  have HCON := Aside0.mk hcon
  have HUP := Aside0.mk (show hexUpto t (i + 1) = if 0 ≤ y then hexUpto t i ++ [s] else hexUpto t i by rw [hy]; exact hexUpto_succ t i s hs)
  clear hcc hs20 hs hcon hy hkq hi7 hi
  go_upto_region 6 with fail
  refine start_ (n := 9) (S := (fun w' => w'.cell? ⟨g, 0, none⟩ = some (.slice (some ⟨bA, 0, none⟩) 7 cap) ∧ w'.cell? ⟨g1, 0, none⟩ = some (.int .i64 t.f0) ∧ w'.cell? ⟨g1, 1, none⟩ = some (.bool t.f1))) (ds := [7]) (rowB 9 0) (by kernel_rfl) rfl rfl ⟨blk_cell (blk_drew HG.out) 0, (blk_cell (blk_drew BK.out) 0).trans rfl, (blk_cell (blk_drew BK.out) 1).trans rfl⟩ (fun hHeld => ?_)
  refine pure_ (i := 0) (N := some 16) (v := ?_) (a' := ?_) (rowB 9 1) rfl rfl (by kernel_rfl) (fun _ _ _ h => h) (Or.inl ⟨by rfl, ?_⟩) ?_ ?_
  rotate_left
  ·
   intro w'
   go_simp
   with_reducible rfl
  rotate_left
  ·
   simp only [Act.put, List.setIfInBounds_toArray, List.set_cons_zero, List.set_cons_succ, i64_w, i32_w]
   rfl
  refine pure_ (i := 1) (N := some 17) (v := ?_) (a' := ?_) (rowB 9 3) rfl rfl (by kernel_rfl) (fun _ _ _ h => h) (Or.inl ⟨by rfl, ?_⟩) ?_ ?_
  rotate_left
  ·
   intro w'
   go_simp
   with_reducible rfl
  rotate_left
  ·
   simp only [Act.put, List.setIfInBounds_toArray, List.set_cons_zero, List.set_cons_succ, i64_w, i32_w]
   rfl
  refine pure_ (i := 2) (N := some 18) (v := ?_) (a' := ?_) (rowB 9 7) rfl rfl (by kernel_rfl) (fun _ _ _ h => h) (Or.inl ⟨by rfl, ?_⟩) ?_ ?_
  rotate_left
  ·
   intro w'
   go_simp
   with_reducible rfl
  rotate_left
  ·
   simp only [Act.put, List.setIfInBounds_toArray, List.set_cons_zero, List.set_cons_succ, i64_w, i32_w]
   rfl
  refine take_ (i := 3) (N := some 19) (v := ?_) (a' := ?_) (rowB 9 15) rfl rfl (by kernel_rfl) (fun _ _ _ h => h) (Or.inl ⟨by rfl, ?_⟩) hHeld ?_ ?_
  rotate_left
  ·
   rintro w' ⟨s0, s1, s2⟩
   go_simp
   with_reducible rfl
  rotate_left
  ·
   simp only [Act.put, List.setIfInBounds_toArray, List.set_cons_zero, List.set_cons_succ, i64_w, i32_w]
   rfl
  refine pure_ (i := 4) (N := some 20) (v := ?_) (a' := ?_) (rowB 9 31) rfl rfl (by kernel_rfl) (fun _ _ _ h => h) (Or.inl ⟨by rfl, ?_⟩) ?_ ?_
  rotate_left
  ·
   intro w'
   go_simp
   with_reducible rfl
  rotate_left
  ·
   simp only [Act.put, List.setIfInBounds_toArray, List.set_cons_zero, List.set_cons_succ, i64_w, i32_w]
   rfl
  refine pure_ (i := 5) (N := some 21) (v := ?_) (a' := ?_) (rowB 9 63) rfl rfl (by kernel_rfl) (fun _ _ _ h => h) (Or.inl ⟨by rfl, ?_⟩) ?_ ?_
  rotate_left
  ·
   intro w'
   go_simp
   with_reducible rfl
  rotate_left
  ·
   simp only [Act.put, List.setIfInBounds_toArray, List.set_cons_zero, List.set_cons_succ, i64_w, i32_w]
   rfl
  refine take_ (i := 6) (N := some 22) (v := ?_) (a' := ?_) (rowB 9 127) rfl rfl (by kernel_rfl) (fun _ _ _ h => h) (Or.inl ⟨by rfl, ?_⟩) hHeld ?_ ?_
  rotate_left
  ·
   rintro w' ⟨s0, s1, s2⟩
   go_simp
   with_reducible rfl
  rotate_left
  ·
   simp only [Act.put, List.setIfInBounds_toArray, List.set_cons_zero, List.set_cons_succ, i64_w, i32_w]
   rfl
  refine last_ (i := 7) (N := some 23) (rowB 9 255) rfl rfl (by kernel_rfl) (by decide) (fun K hK => ?_)
  refine call_ 24 #[.pointer (some ⟨bA, i * 13, none⟩), .agg #[.int .i64 t.f0, .bool t.f1]] (by rfl) rfl (by go_simp) ?_
  refine (HCON.out _ (fun k u hk => pw_cell_below (below_drew (Below.refl _ _)) (HCC.out k u hk))).mono ?_
  rintro e w5 ⟨rfl, hb⟩
  refine ⟨_, rfl, ?_⟩
  have hbd := below_step (below_drew (Below.refl wr.heap.size wr)) hb
  have HO5 := Aside0.mk (Kd.R_below HO.out hbd)
  have HA5 := Aside0.mk (blk_below HA.out hbd)
  have HG5 := Aside0.mk (blk_below HG.out hbd)
  have BK5 := Aside0.mk (blk_below BK.out hbd)
  have HB5 := Aside0.mk (below_step HB.out hbd)
  clear hb hbd
  refine hK.out _ _ ?_
  clear hK K
  refine norm_ (a' := ?_) ?_ ?_
  rotate_left
  ·
   show Act.put _ (some 23) _ = _
   simp only [Act.put, List.setIfInBounds_toArray, List.set_cons_zero, List.set_cons_succ, i64_w, i32_w]
   rfl
  refine pure_ (i := 8) (N := some 24) (v := ?_) (a' := ?_) (rowB 9 511) rfl rfl (by kernel_rfl) (fun _ _ _ h => h) (Or.inl ⟨by rfl, ?_⟩) ?_ ?_
  rotate_left
  ·
   intro w'
   go_simp
   with_reducible rfl
  rotate_left
  ·
   simp only [Act.put, List.setIfInBounds_toArray, List.set_cons_zero, List.set_cons_succ, i64_w, i32_w]
   rfl
  refine done_ (by kernel_rfl) ?_
  obtain ⟨c, hcb⟩ : ∃ c, c = decide (0 ≤ y) := ⟨_, rfl⟩
  rw [← hcb]
  cases c
  rotate_left
  ·
   have hy : 0 ≤ y := of_decide_eq_true hcb.symm
   clear hcb
   have hU := HUP.out
   rw [if_pos hy] at hU
   have HU := Aside0.mk hU
   clear hy hU
   have hv : w5.cell? ⟨g, 0, none⟩ = some (.slice (some ⟨bA, 0, none⟩) 7 cap) := blk_cell HG5.out 0
   have hv0 : w5.cell? ⟨bA, i * 13, none⟩ = some (.int .i64 s) := by rw [blk_cell HA5.out]; exact HCE.out i 0 s _ HS.out.2 rfl
   go_wp2_with (first
    | ((with_reducible refine gate_builtin (b := .append) (xs := #[.tmp 25, .tmp 34]) rfl ?_); at_builtin; refine Kd.R_append (Kd.int .i64) (w0 := w) w.heap.size rfl (.tmp 25) (.tmp 34) 26 3 (.int .i64 0) 8 rfl Tryd.underlying26 info3 rfl (by decide) (by omega) _ (hexUpto t i) s [.int .i64 s] (fun _ => True) (fun _ => False) rfl rfl rfl (fun _ hk => hk.elim) (fun _ _ => trivial) HO5.out HB5.out HB5.out.size (by have := hexUpto_len t i; omega) ?_; intro v35 w6 ho hb hg _; have HO6 := Aside0.mk ho; have HB6 := Aside0.mk hb; have HA6 := Aside0.mk (blk_grown HA5.out hg (Kd.R_ne HO5.out HA5.out (by decide))); have HG6 := Aside0.mk (blk_grown HG5.out hg (Kd.R_ne HO5.out HG5.out (by decide))); have BK6 := Aside0.mk (blk_grown BK5.out hg (Kd.R_ne HO5.out BK5.out (by decide))); clear ho hb hg))
   go_roundg (7 - (i + 1))
   case measure => exact NX.out.1
   case rel => exact ⟨i + 1, by simp, ⟨rfl, NX.out.2⟩, ⟨by rw [HU.out]; exact HO6.out⟩, HA6, HG6, BK6, HB6⟩
  ·
   have hy : ¬ 0 ≤ y := of_decide_eq_false hcb.symm
   clear hcb
   have hU := HUP.out
   rw [if_neg hy] at hU
   have HU := Aside0.mk hU
   clear hy hU
   go_wp2
   go_roundg (7 - (i + 1))
   case measure => exact NX.out.1
   case rel => exact ⟨i + 1, by simp, ⟨rfl, NX.out.2⟩, ⟨by rw [HU.out]; exact HO5.out⟩, HA5, HG5, BK5, HB5⟩

end Go.Proofs.YtiagfjbngpbejaaDoor.Pure
namespace Go.Proofs.YtiagfjbngpbejaaDoor.Pure
set_option linter.unusedVariables false
set_option linter.unusedSimpArgs false
open Go Go.RowKit Go.Proofs.YtiagfjbngpbejaaDoor.PFnExactSingBest Go.Proofs.YtiagfjbngpbejaaDoorW.PrintWords Go.Proofs.YtiagfjbngpbejaaDoorW.PrintLast Go.Proofs.YtiagfjbngpbejaaDoorW.PrintMore

def Own {α : Type} (d : Kd α) (e : Nat) (W : World) (B a b : Nat) (v : Value) (xs : List α) : Prop := d.R e W B (fun k => a ≤ k ∧ k < b) v xs
section
variable {α : Type} {d : Kd α} {e : Nat} {W W' w0 : World} {B a b n c : Nat} {v : Value} {A : Option Addr} {xs ys : List α} {S : Nat → Prop}
theorem Own.make (h : d.R e W' W.heap.size (fun _ => True) v xs) (hB : B ≤ W.heap.size) : Own d e W' B W.heap.size W'.heap.size v xs := Kd.R_lower (Kd.R_mono (Kd.R_bound h) (fun k hk => ⟨hk.2.1, hk.2.2.1⟩)) hB
theorem Own.below (h : Own d e W B a b v xs) (hb : Below W.heap.size W W') : Own d e W' B a b v xs := Kd.R_below h hb
theorem Own.kept (h : Own d e W B a b v xs) (hk : Kept W W' S) (hS : ∀ k, a ≤ k → k < b → ¬ S k) : Own d e W' B a b v xs := Kd.R_kept h hk (fun k hk => hS k hk.1 hk.2)
theorem Own.C (h : Own d e W B a b (.slice A xs.length c) xs) : d.C W A xs.length xs := (Kd.R_reads' h).2.2
theorem Own.cap (h : Own d e W B a b (.slice A n c) xs) : n ≤ c := (Kd.R_reads' h).2.1
/-- What is back from a call that wrote the row. -/
theorem Own.back (hs : d.E = []) (h : Own d e W B a b v xs) (hr : d.R e W' B (fun k => (a ≤ k ∧ k < b) ∨ W.heap.size ≤ k) v ys) : Own d e W' B a b v ys := Kd.R_reok hs hr (fun k hk => h.1 k hk)
end
section
variable {α : Type} {d : Kd α} {e : Nat} {W W' w0 : World} {B a b n c : Nat} {v : Value} {A : Option Addr} {xs ys : List α} {S : Nat → Prop}
end

end Go.Proofs.YtiagfjbngpbejaaDoor.Pure
namespace Go.Proofs.YtiagfjbngpbejaaDoor.Pure
set_option linter.unusedVariables false
set_option linter.unusedSimpArgs false
open Go Go.RowKit Go.Proofs.YtiagfjbngpbejaaDoor.PFnExactSingBest Go.Proofs.YtiagfjbngpbejaaDoorW.PrintWords Go.Proofs.YtiagfjbngpbejaaDoorW.PrintLast Go.Proofs.YtiagfjbngpbejaaDoorW.PrintMore

def kpl : Kd (Int × Int) := Kd.pair (Kd.int .i64) (Kd.int .i64)
theorem info_pl : (Tryd.prog.info? 57).map (fun i => (i.zero, i.size, i.bytes)) = some (some (.agg #[.int .i64 0, .int .i64 0]), 2, 16) := by kernel_rfl
theorem kpl_M {w : World} {base : Nat} {ok : Nat → Prop} (a b : Int) : kpl.M w base ok (a, b) [.int .i64 a, .int .i64 b] := ⟨[.int .i64 a], [.int .i64 b], rfl, rfl, rfl⟩
theorem kpl_open {w : World} {base : Nat} {ok : Nat → Prop} {x : Int × Int} {c : List Value} (h : kpl.M w base ok x c) : c = [.int .i64 x.1, .int .i64 x.2] := by
 obtain ⟨c0, c1, rfl, h0, h1⟩ := h
 have e0 : c0 = [.int .i64 x.1] := h0
 have e1 : c1 = [.int .i64 x.2] := h1
 rw [e0, e1]
 rfl
/-- The queue at gq holds xs. -/
def QHas (W : World) (B gq : Nat) (vq : Value) (xs : List (Int × Int)) : Prop := B ≤ gq ∧ W.heap[gq]? = some (.cells #[vq] 77 (0, 0)) ∧ kpl.Q 57 W B (fun _ => True) vq xs
/-- The queue's two blocks. -/
def QBl (gq : Nat) (vq : Value) (k : Nat) : Prop := k = gq ∨ vq.ownBlock = some k
theorem QHas.below {W W' : World} {B gq : Nat} {vq : Value} {xs : List (Int × Int)} (h : QHas W B gq vq xs) (hb : Below W.heap.size W W') : QHas W' B gq vq xs := ⟨h.1, blk_below h.2.1 hb, Kd.Q_below h.2.2 hb⟩
theorem QHas.kept {W W' : World} {B gq : Nat} {vq : Value} {xs : List (Int × Int)} {S : Nat → Prop} (h : QHas W B gq vq xs) (hk : Kept W W' S) (hS : ∀ k, QBl gq vq k → ¬ S k) : QHas W' B gq vq xs :=
 ⟨h.1, blk_kept h.2.1 hk (hS _ (.inl rfl)), Kd.Q_mono (Kd.Q_kept (Kd.Q_tight rfl h.2.2) hk (fun k hk => hS k (.inr hk.symm))) (fun _ _ => trivial)⟩
theorem QHas.ty {W : World} {B gq : Nat} {vq : Value} {xs : List (Int × Int)} (h : QHas W B gq vq xs) (k : Nat) (hk : QBl gq vq k) : B ≤ k ∧ ∃ cells e, W.heap[k]? = some (.cells cells e (0, 0)) ∧ (e = 77 ∨ e = 57) := by
 rcases hk with rfl | hk
 ·
  exact ⟨h.1, _, _, h.2.1, .inl rfl⟩
 ·
  obtain ⟨cells, hc⟩ := Kd.Q_typed h.2.2 k hk
  exact ⟨Kd.Q_base h.2.2 k hk, _, _, hc, .inr rfl⟩
set_option maxHeartbeats 4000000 in
set_option maxRecDepth 100000 in
theorem queue_push_calls (a b : Int) (gq : Nat) (vq : Value) (B : Nat) (xs : List (Int × Int)) (w : World) (hq : QHas w B gq vq xs) (hn : xs.length ≤ 100000) :
 Calls Tryd.prog 36 #[.pointer (some ⟨gq, 0, none⟩), .agg #[.int .i64 a, .int .i64 b]] w fun e w' => e = .returned (.tuple #[]) ∧ ∃ vq', QHas w' B gq vq' (xs ++ [(a, b)]) ∧ Below B w w' ∧ Kept w w' (QBl gq vq) ∧ (vq'.ownBlock = vq.ownBlock ∨ ∃ k, vq'.ownBlock = some k ∧ w.heap.size ≤ k) := by
 have GE := Aside0.mk hq.1
 have HG := Aside0.mk hq.2.1
 have HQ := Aside0.mk hq.2.2
 have hle := blk_lt hq.2.1
 have BL : Aside0 (B ≤ w.heap.size) := ⟨by have := hq.1; omega⟩
 have HN := Aside0.mk hn
 clear hq hle hn
 go_enter Tryd.func36, Tryd.ntmps36
 go_upto_region 1 with (first
  | ((with_reducible refine gate_dst (N := 3) rfl ?_); refine box_event ?hg (N := 3) ?hd (cs := #[.int .i64 a, .int .i64 b]) (t := 57) ?hr ?_; (case hd => rfl); (case hg => rfl); (case hr => first | (go_simp; done) | (go_simp; rfl)); intro g3 hg w1 hbox hb; have HB1 := Aside0.mk hb; have BK1 := Aside0.mk hbox; have HG1 := Aside0.mk (blk_below HG.out hb); have HQ1 := Aside0.mk (Kd.Q_below HQ.out hb); have BL1 : Aside0 (B ≤ w1.heap.size) := ⟨Nat.le_trans BL.out hb.size⟩; clear hb hbox hg)
  | fail)
 (try simp only [Act.put, List.setIfInBounds_toArray, List.set_cons_zero, List.set_cons_succ])
 refine start_ (n := 11) (S := (fun w' => w'.cell? ⟨gq, 0, none⟩ = some vq ∧ w'.cell? ⟨g3, 0, none⟩ = some (.int .i64 a) ∧ w'.cell? ⟨g3, 1, none⟩ = some (.int .i64 b))) (ds := [7, 10]) (rowB 11 0) (by kernel_rfl) rfl rfl ⟨blk_cell (blk_drew HG1.out) 0, (blk_cell (blk_drew BK1.out) 0).trans rfl, (blk_cell (blk_drew BK1.out) 1).trans rfl⟩ (fun hHeld => ?_)
 refine pure_ (i := 0) (N := some 4) (v := ?_) (a' := ?_) (rowB 11 1) rfl rfl (by kernel_rfl) (fun _ _ _ h => h) (Or.inl ⟨by rfl, ?_⟩) ?_ ?_
 rotate_left
 ·
  intro w'
  go_simp
  with_reducible rfl
 rotate_left
 ·
  simp only [Act.put, List.setIfInBounds_toArray, List.set_cons_zero, List.set_cons_succ, i64_w, i32_w]
  rfl
 refine pure_ (i := 1) (N := some 5) (v := ?_) (a' := ?_) (rowB 11 3) rfl rfl (by kernel_rfl) (fun _ _ _ h => h) (Or.inl ⟨by rfl, ?_⟩) ?_ ?_
 rotate_left
 ·
  intro w'
  go_simp
  with_reducible rfl
 rotate_left
 ·
  simp only [Act.put, List.setIfInBounds_toArray, List.set_cons_zero, List.set_cons_succ, i64_w, i32_w]
  rfl
 refine pure_ (i := 2) (N := some 6) (v := ?_) (a' := ?_) (rowB 11 7) rfl rfl (by kernel_rfl) (fun _ _ _ h => h) (Or.inl ⟨by rfl, ?_⟩) ?_ ?_
 rotate_left
 ·
  intro w'
  go_simp
  with_reducible rfl
 rotate_left
 ·
  simp only [Act.put, List.setIfInBounds_toArray, List.set_cons_zero, List.set_cons_succ, i64_w, i32_w]
  rfl
 refine pure_ (i := 3) (N := some 7) (v := ?_) (a' := ?_) (rowB 11 15) rfl rfl (by kernel_rfl) (fun _ _ _ h => h) (Or.inl ⟨by rfl, ?_⟩) ?_ ?_
 rotate_left
 ·
  intro w'
  go_simp
  with_reducible rfl
 rotate_left
 ·
  simp only [Act.put, List.setIfInBounds_toArray, List.set_cons_zero, List.set_cons_succ, i64_w, i32_w]
  rfl
 refine take_ (i := 4) (N := some 8) (v := ?_) (a' := ?_) (rowB 11 31) rfl rfl (by kernel_rfl) (fun _ _ _ h => h) (Or.inl ⟨by rfl, ?_⟩) hHeld ?_ ?_
 rotate_left
 ·
  rintro w' ⟨s0, s1, s2⟩
  go_simp
  with_reducible rfl
 rotate_left
 ·
  simp only [Act.put, List.setIfInBounds_toArray, List.set_cons_zero, List.set_cons_succ, i64_w, i32_w]
  rfl
 refine take_ (i := 5) (N := some 9) (v := ?_) (a' := ?_) (rowB 11 63) rfl rfl (by kernel_rfl) (fun _ _ _ h => h) (Or.inl ⟨by rfl, ?_⟩) hHeld ?_ ?_
 rotate_left
 ·
  rintro w' ⟨s0, s1, s2⟩
  go_simp
  with_reducible rfl
 rotate_left
 ·
  simp only [Act.put, List.setIfInBounds_toArray, List.set_cons_zero, List.set_cons_succ, i64_w, i32_w]
  rfl
 refine one_ (i := 6) (N := some 10) (rowB 11 127) rfl rfl (by kernel_rfl) (by decide) (fun K hK => ?_)
 refine event_step (w1 := ?_) (v := ?_) (by rfl) ?_ ?_
 rotate_left 2
 ·
  go_simp
  constructor
  ·
   rfl
  ·
   rfl
 refine hK.out _ _ (by have hb := below_alloc (Below.refl w1.drew.heap.size w1.drew) (.cells (#[.int .i64 a, .int .i64 b]) 57 (0, 0)); exact ⟨blk_cell (blk_below (blk_drew HG1.out) hb) 0, (blk_cell (blk_below (blk_drew BK1.out) hb) 0).trans rfl, (blk_cell (blk_below (blk_drew BK1.out) hb) 1).trans rfl⟩) (fun hHeld => ?_)
 clear hK K
 refine norm_ (a' := ?_) ?_ ?_
 rotate_left
 ·
  show Act.put _ (some 10) _ = _
  simp only [Act.put, List.setIfInBounds_toArray, List.set_cons_zero, List.set_cons_succ, i64_w, i32_w]
  rfl
 refine last_ (i := 7) (N := some 11) (rowB 11 255) rfl rfl (by kernel_rfl) (by decide) (fun K hK => ?_)
 refine Kd.Q_append_step kpl (w0 := w) (W := w1.drew) B (by rfl) (.tmp 8) (.tmp 10) 75 57 (.agg #[.int .i64 0, .int .i64 0]) 16 rfl Tryd.underlying75 info_pl rfl (by decide) (by omega) vq xs (a, b) [.int .i64 a, .int .i64 b] (fun _ => True) (fun _ => False) rfl rfl (kpl_M a b) (fun _ h => h.elim) (fun _ _ => trivial) ?aO ?aB ?aS ?aL ?_
 (case aO => exact Kd.Q_drew HQ1.out)
 (case aB => exact below_drew (HB1.out.mono BL.out))
 (case aS => exact BL1.out)
 (case aL => have := HN.out; omega)
 intro v11 w8 ho hb hg hat
 have HO8 := Aside0.mk ho
 have HB8 := Aside0.mk hb
 have HG8 := Aside0.mk (blk_grown (blk_drew HG1.out) hg (Kd.Q_ne HQ1.out HG1.out (by decide)))
 have HK8 := Aside0.mk (Kept.of_grown hg (Kept.drew (Kept.of_below HB1.out (QBl gq vq))) (fun k hk => .inl (.inr hk)))
 have HAT := Aside0.mk hat
 clear ho hb hg hat
 refine hK.out _ _ ?_
 clear hK K
 refine norm_ (a' := ?_) ?_ ?_
 rotate_left
 ·
  show Act.put _ (some 11) _ = _
  simp only [Act.put, List.setIfInBounds_toArray, List.set_cons_zero, List.set_cons_succ, i64_w, i32_w]
  rfl
 refine pure_ (i := 8) (N := some 12) (v := ?_) (a' := ?_) (rowB 11 511) rfl rfl (by kernel_rfl) (fun _ _ _ h => h) (Or.inl ⟨by rfl, ?_⟩) ?_ ?_
 rotate_left
 ·
  intro w'
  go_simp
  with_reducible rfl
 rotate_left
 ·
  simp only [Act.put, List.setIfInBounds_toArray, List.set_cons_zero, List.set_cons_succ, i64_w, i32_w]
  rfl
 refine pure_ (i := 9) (N := some 13) (v := ?_) (a' := ?_) (rowB 11 1023) rfl rfl (by kernel_rfl) (fun _ _ _ h => h) (Or.inl ⟨by rfl, ?_⟩) ?_ ?_
 rotate_left
 ·
  intro w'
  go_simp
  with_reducible rfl
 rotate_left
 ·
  simp only [Act.put, List.setIfInBounds_toArray, List.set_cons_zero, List.set_cons_succ, i64_w, i32_w]
  rfl
 refine last_ (i := 10) (N := none) (rowB 11 2047) rfl rfl (by kernel_rfl) (by decide) (fun K hK => ?_)
 refine box_store_step (by rfl) rfl 75 (.tmp 13) (.tmp 11) rfl (g := gq) (off := 0) (new := #[v11]) v11 [v11] HG8.out rfl rfl (by obtain ⟨_, _, rfl, _⟩ := Kd.Q_slice HO8.out; rfl) (by kernel_rfl) (by obtain ⟨_, _, rfl, _⟩ := Kd.Q_slice HO8.out; simp [Value.oneCell']) (Nat.le_of_ble_eq_true rfl) rfl ?_
 intro w9 hh9 hg9 hz9
 have HG9 := Aside0.mk hh9
 have HB9 := Aside0.mk (below_grown HB8.out hg9 GE.out (Nat.le_trans BL.out HB8.out.size))
 have HO9 := Aside0.mk (Kd.Q_grown1 HO8.out rfl hg9 (Kd.Q_ne HO8.out HG8.out (by decide)))
 have HK9 := Aside0.mk (Kept.of_grown hg9 HK8.out (fun k hk => .inl (.inl (Option.some.inj hk).symm)))
 clear hh9 hg9 hz9
 refine hK.out _ _ ?_
 clear hK K
 refine done_ (by kernel_rfl) ?_
 go_end0
 exact ⟨rfl, v11, ⟨GE.out, HG9.out, HO9.out⟩, HB9.out, HK9.out, HAT.out.imp id (fun ⟨k, h1, h2⟩ => ⟨k, h1, Nat.le_trans HB1.out.size h2⟩)⟩

end Go.Proofs.YtiagfjbngpbejaaDoor.Pure
namespace Go.Proofs.YtiagfjbngpbejaaDoor.Pure
set_option linter.unusedVariables false
set_option linter.unusedSimpArgs false
open Go Go.RowKit Go.Proofs.YtiagfjbngpbejaaDoor.PFnExactSingBest Go.Proofs.YtiagfjbngpbejaaDoorW.PrintWords Go.Proofs.YtiagfjbngpbejaaDoorW.PrintLast Go.Proofs.YtiagfjbngpbejaaDoorW.PrintMore

set_option maxHeartbeats 4000000 in
set_option maxRecDepth 100000 in
theorem queue_pop_nil (gq : Nat) (vq : Value) (B : Nat) (w : World) (hq : QHas w B gq vq []) :
 Calls Tryd.prog 37 #[.pointer (some ⟨gq, 0, none⟩)] w fun e w' => e = .returned (.tuple #[.agg #[.int .i64 0, .int .i64 0], .bool false]) ∧ Below w.heap.size w w' := by
 have HG := Aside0.mk hq.2.1
 obtain ⟨A, c, hv, hc⟩ := Kd.Q_slice hq.2.2
 subst hv
 clear hq hc
 go_enter Tryd.func37, Tryd.ntmps37
 go_wp2_with (first
  | ((with_reducible refine gate_dst (N := 2) rfl ?_); refine box_event ?hg (N := 2) ?hd (cs := #[.int .i64 0, .int .i64 0]) (t := 57) ?hr ?_; (case hd => rfl); (case hg => rfl); (case hr => first | (go_simp; done) | (go_simp; rfl)); intro g2 hg w1 hbox hb; have HB1 := Aside0.mk hb; have K2 := Aside0.mk hbox; have HG1 := Aside0.mk (blk_below HG.out hb); have hlt2 := blk_lt hbox; have G2 : Aside0 (w.heap.size ≤ g2) := ⟨Nat.le_of_eq hg.symm⟩; clear hb hbox hg)
  | ((with_reducible refine gate_dst (N := 4) rfl ?_); refine box_event ?hg (N := 4) ?hd (cs := #[.int .i64 0, .int .i64 0]) (t := 57) ?hr ?_; (case hd => rfl); (case hg => rfl); (case hr => first | (go_simp; done) | (go_simp; rfl)); intro g4 hg w2 hbox hb; have HB2 := Aside0.mk (below_step HB1.out hb); have K4 := Aside0.mk hbox; have K2 := Aside0.mk (blk_below K2.out hb); have HG2 := Aside0.mk (blk_below HG1.out hb); have G4 : Aside0 (w.heap.size ≤ g4) := ⟨by rw [hg]; exact HB1.out.size⟩; have NE : Aside0 (g4 ≠ g2) := ⟨by have h2 := hlt2; rw [hg]; omega⟩; have hv0 : w2.cell? ⟨gq, 0, none⟩ = some (.slice A ([] : List (Int × Int)).length c) := (blk_cell HG2.out 0).trans rfl; have z40 : w2.cell? ⟨g4, 0, none⟩ = some (.int .i64 0) := (blk_cell K4.out 0).trans rfl; have z41 : w2.cell? ⟨g4, 1, none⟩ = some (.int .i64 0) := (blk_cell K4.out 1).trans rfl; clear hb hbox hg)
  | ((with_reducible refine gate_ (.store 57 (.tmp 2) (.tmp 11)) rfl ?_); (refine box_store rfl rfl 57 (.tmp 2) (.tmp 11) rfl (g := g2) (off := 0) (new := #[.int .i64 0, .int .i64 0]) _ [.int .i64 0, .int .i64 0] K2.out rfl rfl rfl (by kernel_rfl) (by simp [Value.oneCell']) (Nat.le_of_ble_eq_true rfl) rfl ?_); intro w3 hh hg hz; have HB3 := Aside0.mk (below_grown HB2.out hg G2.out HB2.out.size); have K23 := Aside0.mk hh; clear hh hg hz))
 refine bodyPost_ret (results_ct rfl _ _ g2 57 #[.int .i64 0, .int .i64 0] (0, 0) _ rfl K23.out Tryd.underlying57 rfl (by kernel_rfl)) rfl ?_
 exact ⟨rfl, HB3.out⟩
set_option maxHeartbeats 4000000 in
set_option maxRecDepth 100000 in
theorem queue_pop_cons (a b : Int) (gq : Nat) (vq : Value) (B : Nat) (xs : List (Int × Int)) (w : World) (hq : QHas w B gq vq ((a, b) :: xs)) :
 Calls Tryd.prog 37 #[.pointer (some ⟨gq, 0, none⟩)] w fun e w' => e = .returned (.tuple #[.agg #[.int .i64 a, .int .i64 b], .bool true]) ∧ ∃ vq', QHas w' B gq vq' xs ∧ Below B w w' ∧ Kept w w' (fun k => k = gq) ∧ vq'.ownBlock = vq.ownBlock := by
 have GE := Aside0.mk hq.1
 have HG := Aside0.mk hq.2.1
 have HQ := Aside0.mk hq.2.2
 obtain ⟨g, off, cap, hv, hBg, hgl, cellsq, hgb⟩ := Kd.Q_form HQ.out (Nat.succ_pos _)
 subst hv
 obtain ⟨c, hcl, hcM, hcc, -⟩ := Kd.Q_elem HQ.out (0, 0) 0 (Int.le_refl _) (by simp only [List.length_cons]; omega)
 have hc : c = [.int .i64 a, .int .i64 b] := kpl_open hcM
 subst hc
 have e0 : w.cell? ⟨g, off, none⟩ = some (.int .i64 a) := hcc 0 _ rfl
 have e1 : w.cell? ⟨g, off + 1, none⟩ = some (.int .i64 b) := hcc 1 _ rfl
 have E0 := Aside0.mk e0
 have E1 := Aside0.mk e1
 have GB := Aside0.mk hgb
 obtain ⟨i0, hi0, hz0⟩ := Option.map_eq_some_iff.1 info_pl
 have hs0 : i0.size = kpl.sz := by simp only [Prod.mk.injEq] at hz0; exact hz0.2.1
 have hcut := cut_from (P := Tryd.prog) 75 57 .i64 Tryd.underlying75 hi0 kpl.sz hs0 (some ⟨g, off, none⟩) ((a, b) :: xs).length cap 1 (by decide) (by simp only [List.length_cons]; omega)
 have hdrop := Kd.Q_drop (k := 1) HQ.out (by simp only [List.length_cons]; omega)
 obtain ⟨vn, hvn⟩ : ∃ vn : Value, vn = .slice (if cap = 1 then some ⟨g, off, none⟩ else (some (⟨g, off, none⟩ : Addr)).map (·.add (1 * kpl.sz))) (((a, b) :: xs).length - 1) (cap - 1) := ⟨_, rfl⟩
 have hcut2 : ∀ W : World, (Instr.slice 75 (.slice (some ⟨g, off, none⟩) ((a, b) :: xs).length cap) (some (.int .i64 1)) none none).run Tryd.prog W = .ok vn W := by rw [hvn]; exact hcut
 rw [← hvn] at hdrop
 have HD := Aside0.mk (show kpl.Q 57 w B (fun _ => True) vn xs from hdrop)
 have HOB : Aside0 (vn.ownBlock = some g) := ⟨by rw [hvn]; split <;> rfl⟩
 have BL : Aside0 (B ≤ w.heap.size) := ⟨by have := GE.out; have := blk_lt HG.out; omega⟩
 have hlen : ((a, b) :: xs).length = xs.length + 1 := rfl
 rw [hlen] at hcut2 HQ HG
 have HCUT := Aside0.mk hcut2
 have d1 : decide (((xs.length + 1 : Nat) : Int) = 0) = false := decide_eq_false (by omega)
 have d2 : (((xs.length + 1 : Nat) : Int) == 0) = false := beq_eq_false_iff_ne.mpr (by omega)
 have q0 := eq_true (show (0 : Int) < ((xs.length + 1 : Nat) : Int) by omega)
 clear hq hBg hgl hgb hcl hcM hcc hi0 hz0 hs0 hcut hdrop hvn hlen hcut2
 go_enter Tryd.func37, Tryd.ntmps37
 go_wp2_with (first
  | ((with_reducible refine gate_dst (N := 2) rfl ?_); refine box_event ?hg (N := 2) ?hd (cs := #[.int .i64 0, .int .i64 0]) (t := 57) ?hr ?_; (case hd => rfl); (case hg => rfl); (case hr => first | (go_simp; done) | (go_simp; rfl)); intro g2 hg w1 hbox hb; have HB1 := Aside0.mk hb; have K2 := Aside0.mk hbox; have HG1 := Aside0.mk (blk_below HG.out hb); have hlt2 := blk_lt hbox; have G2 : Aside0 (w.heap.size ≤ g2) := ⟨Nat.le_of_eq hg.symm⟩; clear hb hbox hg)
  | ((with_reducible refine gate_dst (N := 4) rfl ?_); refine box_event ?hg (N := 4) ?hd (cs := #[.int .i64 0, .int .i64 0]) (t := 57) ?hr ?_; (case hd => rfl); (case hg => rfl); (case hr => first | (go_simp; done) | (go_simp; rfl)); intro g4 hg w2 hbox hb; have HB2 := Aside0.mk (below_step HB1.out hb); have K4 := Aside0.mk hbox; have K2 := Aside0.mk (blk_below K2.out hb); have HG2 := Aside0.mk (blk_below HG1.out hb); have G4 : Aside0 (w.heap.size ≤ g4) := ⟨by rw [hg]; exact HB1.out.size⟩; have NE : Aside0 (g4 ≠ g2) := ⟨by have h2 := hlt2; rw [hg]; omega⟩; have hv0 : w2.cell? ⟨gq, 0, none⟩ = some (.slice (some ⟨g, off, none⟩) (xs.length + 1) cap) := (blk_cell HG2.out 0).trans rfl; have z40 : w2.cell? ⟨g4, 0, none⟩ = some (.int .i64 0) := (blk_cell K4.out 0).trans rfl; have z41 : w2.cell? ⟨g4, 1, none⟩ = some (.int .i64 0) := (blk_cell K4.out 1).trans rfl; have hcut2 := HCUT.out; have e0 : w2.cell? ⟨g, off, none⟩ = some (.int .i64 a) := pw_cell_below (HB2.out) E0.out; have e1 : w2.cell? ⟨g, off + 1, none⟩ = some (.int .i64 b) := pw_cell_below (HB2.out) E1.out; clear hb hbox hg)
  | ((with_reducible refine gate_ (.store 57 (.tmp 4) (.tmp 17)) rfl ?_); (refine box_store rfl rfl 57 (.tmp 4) (.tmp 17) rfl (g := g4) (off := 0) (new := #[.int .i64 a, .int .i64 b]) _ [.int .i64 a, .int .i64 b] K4.out rfl rfl rfl (by kernel_rfl) (by simp [Value.oneCell']) (Nat.le_of_ble_eq_true rfl) rfl ?_); intro w3 hh hg hz; have HB3 := Aside0.mk (below_grown HB2.out hg G4.out HB2.out.size); have K43 := Aside0.mk hh; have K23 := Aside0.mk (blk_grown K2.out hg (fun h => NE.out (Option.some.inj h).symm)); have HG3 := Aside0.mk (blk_below HG.out HB3.out); have hv0 : w3.cell? ⟨gq, 0, none⟩ = some (.slice (some ⟨g, off, none⟩) (xs.length + 1) cap) := (blk_cell HG3.out 0).trans rfl; clear hh hg hz)
  | ((with_reducible refine gate_ (.store 75 (.tmp 25) (.tmp 23)) rfl ?_); (refine box_store rfl rfl 75 (.tmp 25) (.tmp 23) rfl (g := gq) (off := 0) (new := #[vn]) _ [vn] HG3.out rfl rfl (by obtain ⟨_, _, hh, _⟩ := Kd.Q_slice HD.out; rw [hh]; rfl) (by kernel_rfl) (by obtain ⟨_, _, hh, _⟩ := Kd.Q_slice HD.out; rw [hh]; simp [Value.oneCell']) (Nat.le_of_ble_eq_true rfl) rfl ?_); intro w4 hh hg hz; have HB4 := Aside0.mk (below_grown (HB3.out.mono BL.out) hg GE.out (Nat.le_trans BL.out HB3.out.size)); have hltq := blk_lt HG.out; have K44 := Aside0.mk (blk_grown K43.out hg (fun h => by have h2 := Option.some.inj h; have := G4.out; omega)); have K24 := Aside0.mk (blk_grown K23.out hg (fun h => by have h2 := Option.some.inj h; have := G2.out; omega)); have HD3 := Aside0.mk (Kd.Q_grown1 (Kd.Q_below HD.out HB3.out) rfl hg (by rw [HOB.out]; intro h; have h2 := Option.some.inj h; have h3 := GB.out; rw [← h2, HG.out] at h3; injection h3 with h3; injection h3 with _ h3; revert h3; decide)); have HG4 := Aside0.mk hh; have HK4 := Aside0.mk (Kept.of_grown hg (Kept.of_below HB3.out (fun k => k = gq)) (fun k hk => .inl (Option.some.inj hk).symm)); have f40 : w4.cell? ⟨g4, 0, none⟩ = some (.int .i64 a) := (blk_cell K44.out 0).trans rfl; have f41 : w4.cell? ⟨g4, 1, none⟩ = some (.int .i64 b) := (blk_cell K44.out 1).trans rfl; have hz4 := Aside0.mk hz; clear hltq; clear hh hg hz)
  | ((with_reducible refine gate_ (.store 57 (.tmp 2) (.tmp 26)) rfl ?_); (refine box_store rfl rfl 57 (.tmp 2) (.tmp 26) rfl (g := g2) (off := 0) (new := #[.int .i64 a, .int .i64 b]) _ [.int .i64 a, .int .i64 b] K24.out rfl rfl rfl (by kernel_rfl) (by simp [Value.oneCell']) (Nat.le_of_ble_eq_true rfl) rfl ?_); intro w5 hh hg hz; have HB5 := Aside0.mk (below_grown HB4.out hg (Nat.le_trans BL.out G2.out) (Nat.le_trans BL.out (Nat.le_trans HB3.out.size (by rw [hz4.out]; exact Nat.le_refl _)))); have K25 := Aside0.mk hh; have HK5 := Aside0.mk (Kept.of_grown hg HK4.out (fun k hk => .inr (by have := G2.out; have := Option.some.inj hk; omega))); have HG5 := Aside0.mk (blk_grown HG4.out hg (fun h => by have h2 := Option.some.inj h; have h3 := G2.out; have h4 := blk_lt HG.out; omega)); have HD5 := Aside0.mk (Kd.Q_grown1 HD3.out rfl hg (by rw [HOB.out]; intro h; have h2 := Option.some.inj h; have h3 := G2.out; have h4 := blk_lt GB.out; omega)); clear hh hg hz))
 refine bodyPost_ret (results_ct rfl _ _ g2 57 #[.int .i64 a, .int .i64 b] (0, 0) _ rfl K25.out Tryd.underlying57 rfl (by kernel_rfl)) rfl ?_
 exact ⟨rfl, vn, ⟨GE.out, HG5.out, HD5.out⟩, HB5.out, HK5.out, HOB.out⟩

end Go.Proofs.YtiagfjbngpbejaaDoor.Pure
namespace Go.Proofs.YtiagfjbngpbejaaDoor.Pure
set_option linter.unusedVariables false
set_option linter.unusedSimpArgs false
open Go Go.RowKit Go.Proofs.YtiagfjbngpbejaaDoor.PFnExactSingBest Go.Proofs.YtiagfjbngpbejaaDoorW.PrintWords Go.Proofs.YtiagfjbngpbejaaDoorW.PrintLast Go.Proofs.YtiagfjbngpbejaaDoorW.PrintMore

/-- One row of both tables: where it lies, and what it holds. -/
structure SRow where
 hb : Nat
 hc : Nat
 cb : Nat
 cc : Nat
 hx : List Int
 cs : List Int
def SRow.hv (r : SRow) : Value := .slice (some ⟨r.hb, 0, none⟩) r.hx.length r.hc
def SRow.cv (r : SRow) : Value := .slice (some ⟨r.cb, 0, none⟩) r.cs.length r.cc
structure Sg where
 gs : Nat
 bH : Nat
 cH : Nat
 bC : Nat
 cC : Nat
def RowAt (W : World) (B b : Nat) (v : Value) (xs : List Int) : Prop := (Kd.int .i64).R 3 W B (fun k => k = b) v xs
structure SHas (W : World) (B : Nat) (σ : Sg) (rs : List SRow) : Prop where
 base : B ≤ σ.gs
 top : W.heap[σ.gs]? = some (.cells #[.slice (some ⟨σ.bH, 0, none⟩) rs.length σ.cH, .slice (some ⟨σ.bC, 0, none⟩) rs.length σ.cC] 60 (0, 0))
 outer : ∃ cellsH cellsC : Array Value, W.heap[σ.bH]? = some (.cells cellsH 26 (0, 0)) ∧ W.heap[σ.bC]? = some (.cells cellsC 26 (0, 0)) ∧ ∀ (i : Nat) (r : SRow), rs[i]? = some r → cellsH[i]? = some r.hv ∧ cellsC[i]? = some r.cv
 rows : ∀ (i : Nat) (r : SRow), rs[i]? = some r → r.cs.length = r.hx.length ∧ 0 < r.hx.length ∧ RowAt W B r.hb r.hv r.hx ∧ RowAt W B r.cb r.cv r.cs
 apart : ∀ (i j : Nat) (r r' : SRow), rs[i]? = some r → rs[j]? = some r' → r.hb ≠ r'.cb ∧ (r.cb = r'.cb → i = j)
theorem RowAt.blk {W : World} {B b c : Nat} {xs : List Int} (h : RowAt W B b (.slice (some ⟨b, 0, none⟩) xs.length c) xs) (hp : 0 < xs.length) : B ≤ b ∧ ∃ cells : Array Value, W.heap[b]? = some (.cells cells 3 (0, 0)) := by
 obtain ⟨g, cap, e, hB, _, cells, hc⟩ := Kd.R_form h hp
 injection e with e1
 injection e1 with e1
 injection e1 with e1
 subst e1
 exact ⟨hB, cells, hc⟩
theorem RowAt.cell {W : World} {B b n c : Nat} {xs : List Int} (h : RowAt W B b (.slice (some ⟨b, 0, none⟩) n c) xs) (i : Nat) (hi : i < n) : W.cell? ⟨b, i, none⟩ = some (.int .i64 (xs.getD i 0)) := by
 have hn : n = xs.length := (Kd.R_reads' h).1
 have h2 := (Kd.R_celln 0 h (i : Int) (by omega) (by omega)).1
 have e : rdOf 0 xs (i : Int) = xs.getD i 0 := by simp [rdOf]
 rw [e] at h2
 exact h2
theorem RowAt.below {W W' : World} {B b : Nat} {v : Value} {xs : List Int} (h : RowAt W B b v xs) (hb : Below W.heap.size W W') : RowAt W' B b v xs := Kd.R_below h hb
theorem RowAt.grown {W W' : World} {B b : Nat} {v : Value} {xs : List Int} (h : RowAt W B b v xs) {g : Option Nat} (hg : W.grownBy W' g) (hne : some b ≠ g) : RowAt W' B b v xs := Kd.R_grown h hg (fun k hk => by subst hk; exact hne)
theorem RowAt.kept {W W' : World} {B b : Nat} {v : Value} {xs : List Int} {S : Nat → Prop} (h : RowAt W B b v xs) (hk : Kept W W' S) (hne : ¬ S b) : RowAt W' B b v xs := Kd.R_kept h hk (fun k hk2 => by subst hk2; exact hne)
theorem SHas.below {W W' : World} {B : Nat} {σ : Sg} {rs : List SRow} (h : SHas W B σ rs) (hb : Below W.heap.size W W') : SHas W' B σ rs := by
 obtain ⟨cH, cC, h1, h2, h3⟩ := h.outer
 exact ⟨h.base, blk_below h.top hb, ⟨cH, cC, blk_below h1 hb, blk_below h2 hb, h3⟩, fun i r hr => ⟨(h.rows i r hr).1, (h.rows i r hr).2.1, (h.rows i r hr).2.2.1.below hb, (h.rows i r hr).2.2.2.below hb⟩, h.apart⟩
theorem SHas.drewN {W : World} {B : Nat} {σ : Sg} {rs : List SRow} (h : SHas W B σ rs) (n : Nat) : SHas (W.drewN n) B σ rs := h.below (pw_below_drewN (Below.refl _ _) n)
/-- A singing's blocks are of three types: what writes other types' blocks leaves it. -/
theorem SHas.kept {W W' : World} {B : Nat} {σ : Sg} {rs : List SRow} {S : Nat → Prop} (h : SHas W B σ rs) (hk : Kept W W' S) (hS : ∀ k cells e, W.heap[k]? = some (.cells cells e (0, 0)) → S k → e ≠ 60 ∧ e ≠ 26 ∧ e ≠ 3) : SHas W' B σ rs := by
 obtain ⟨cH, cC, h1, h2, h3⟩ := h.outer
 refine ⟨h.base, blk_kept h.top hk (fun hs => (hS _ _ _ h.top hs).1 rfl), ⟨cH, cC, blk_kept h1 hk (fun hs => (hS _ _ _ h1 hs).2.1 rfl), blk_kept h2 hk (fun hs => (hS _ _ _ h2 hs).2.1 rfl), h3⟩, fun i r hr => ?_, h.apart⟩
 obtain ⟨a1, a2, a3, a4⟩ := h.rows i r hr
 obtain ⟨_, c3, b3⟩ := RowAt.blk a3 a2
 obtain ⟨_, c4, b4⟩ := RowAt.blk a4 (by omega)
 exact ⟨a1, a2, a3.kept hk (fun hs => (hS _ _ _ b3 hs).2.2 rfl), a4.kept hk (fun hs => (hS _ _ _ b4 hs).2.2 rfl)⟩
theorem SHas.keptQ {W W' : World} {B gq : Nat} {vq : Value} {xs : List (Int × Int)} {σ : Sg} {rs : List SRow} (h : SHas W B σ rs) (hq : QHas W B gq vq xs) (hk : Kept W W' (QBl gq vq)) : SHas W' B σ rs := by
 refine h.kept hk (fun k cells e hc hs => ?_)
 obtain ⟨_, cells', e', hc', he⟩ := hq.ty k hs
 rw [hc] at hc'
 injection hc' with hc'
 injection hc' with _ hc'
 subst hc'
 rcases he with rfl | rfl <;> exact ⟨by decide, by decide, by decide⟩
theorem set_row {rs : List SRow} {t i : Nat} {r x : SRow} (h : (rs.set t r)[i]? = some x) : (i = t ∧ x = r) ∨ (i ≠ t ∧ rs[i]? = some x) := by
 rw [List.getElem?_set] at h
 split at h
 ·
  rename_i e
  split at h
  ·
   injection h with h
   exact .inl ⟨e.symm, h.symm⟩
  ·
   cases h
 ·
  rename_i e
  exact .inr ⟨fun e2 => e e2.symm, h⟩
/-- A number of a cost row is written. -/
theorem SHas.put {W W' : World} {B : Nat} {σ : Sg} {rs : List SRow} (h : SHas W B σ rs) {t : Nat} {r : SRow} (hr : rs[t]? = some r) (i : Nat) (x : Int) (hR : RowAt W' B r.cb r.cv (r.cs.set i x)) (hg : W.grownBy W' (some r.cb)) : SHas W' B σ (rs.set t { r with cs := r.cs.set i x }) := by
 obtain ⟨cH, cC, h1, h2, h3⟩ := h.outer
 obtain ⟨r1, r2, r3, r4⟩ := h.rows t r hr
 obtain ⟨_, cells, hcb⟩ := RowAt.blk r4 (by omega)
 have ne : ∀ {k : Nat} {c : Array Value} {e : Nat}, W.heap[k]? = some (.cells c e (0, 0)) → e ≠ 3 → some k ≠ some r.cb := by
  intro k c e hk he h2
  injection h2 with h2
  subst h2
  rw [hcb] at hk
  injection hk with hk
  injection hk with _ hk
  exact he hk.symm
 have hcv : ({ r with cs := r.cs.set i x } : SRow).cv = r.cv := by unfold SRow.cv; simp
 refine ⟨h.base, ?_, ⟨cH, cC, blk_grown h1 hg (ne h1 (by decide)), blk_grown h2 hg (ne h2 (by decide)), ?_⟩, ?_, ?_⟩
 ·
  rw [List.length_set]
  exact blk_grown h.top hg (ne h.top (by decide))
 ·
  intro j x' hj
  rcases set_row hj with ⟨rfl, rfl⟩ | ⟨_, hj⟩
  ·
   rw [hcv]
   exact h3 j r hr
  ·
   exact h3 j x' hj
 ·
  intro j x' hj
  rcases set_row hj with ⟨rfl, rfl⟩ | ⟨hne, hj⟩
  ·
   refine ⟨by simpa using r1, r2, r3.grown hg (fun e => (h.apart j j r r hr hr).1 (Option.some.inj e)), ?_⟩
   rw [hcv]
   exact hR
  ·
   obtain ⟨a1, a2, a3, a4⟩ := h.rows j x' hj
   exact ⟨a1, a2, a3.grown hg (fun e => (h.apart j t x' r hj hr).1 (Option.some.inj e)), a4.grown hg (fun e => hne ((h.apart j t x' r hj hr).2 (Option.some.inj e)))⟩
 ·
  have low : ∀ (j : Nat) (x' : SRow), (rs.set t { r with cs := r.cs.set i x })[j]? = some x' → ∃ y : SRow, rs[j]? = some y ∧ x'.hb = y.hb ∧ x'.cb = y.cb := by
   intro j x' hj
   rcases set_row hj with ⟨rfl, rfl⟩ | ⟨hne, hj⟩
   ·
    exact ⟨r, hr, rfl, rfl⟩
   ·
    exact ⟨x', hj, rfl, rfl⟩
  intro j k y z hj hk
  obtain ⟨y', h1', h2', h3'⟩ := low j y hj
  obtain ⟨z', k1', k2', k3'⟩ := low k z hk
  rw [h2', h3', k3']
  exact h.apart j k y' z' h1' k1'
section
variable {W : World} {B : Nat} {σ : Sg} {rs : List SRow}
theorem SHas.c0 (h : SHas W B σ rs) : W.cell? ⟨σ.gs, 0, none⟩ = some (.slice (some ⟨σ.bH, 0, none⟩) rs.length σ.cH) := (blk_cell h.top 0).trans rfl
theorem SHas.c1 (h : SHas W B σ rs) : W.cell? ⟨σ.gs, 1, none⟩ = some (.slice (some ⟨σ.bC, 0, none⟩) rs.length σ.cC) := (blk_cell h.top 1).trans rfl
theorem SHas.hrow (h : SHas W B σ rs) {i : Nat} {r : SRow} (hr : rs[i]? = some r) : W.cell? ⟨σ.bH, i, none⟩ = some r.hv := by
 obtain ⟨_, _, h1, _, h3⟩ := h.outer
 rw [blk_cell h1]
 exact (h3 i r hr).1
theorem SHas.crow (h : SHas W B σ rs) {i : Nat} {r : SRow} (hr : rs[i]? = some r) : W.cell? ⟨σ.bC, i, none⟩ = some r.cv := by
 obtain ⟨_, _, _, h2, h3⟩ := h.outer
 rw [blk_cell h2]
 exact (h3 i r hr).2
theorem SHas.hcell (h : SHas W B σ rs) {i : Nat} {r : SRow} (hr : rs[i]? = some r) (j : Nat) (hj : j < r.hx.length) : W.cell? ⟨r.hb, j, none⟩ = some (.int .i64 (r.hx.getD j 0)) := RowAt.cell (h.rows i r hr).2.2.1 j hj
theorem SHas.ccell (h : SHas W B σ rs) {i : Nat} {r : SRow} (hr : rs[i]? = some r) (j : Nat) (hj : j < r.cs.length) : W.cell? ⟨r.cb, j, none⟩ = some (.int .i64 (r.cs.getD j 0)) := RowAt.cell (h.rows i r hr).2.2.2 j hj
end
theorem int_store {P : Program} {ops : Array Oper} {rest : List Oper} {o : Oper} {a : Act} {Q : Exit → Act → World → Prop} {W : World} (hgd : o.guard = none) (hN : o.dst = none) (p x : Operand) (ho : o.op = .store 3 p x) (hi1 : (P.info? 3).map (·.size) = some 1) {g B n c : Nat} {ok : Nat → Prop} {xs : List Int} (i : Nat) (u : Int)
 (hR : (Kd.int .i64).R 3 W B ok (.slice (some ⟨g, 0, none⟩) n c) xs) (hi : i < n) (haddr : a.eval p = .pointer (some ⟨g, i, none⟩)) (hx : a.eval x = .int .i64 u)
 (h : ∀ w1, (Kd.int .i64).R 3 w1 B ok (.slice (some ⟨g, 0, none⟩) n c) (xs.set i u) → W.grownBy w1 (some g) → w1.heap.size = W.heap.size → wpList P ops Q rest a w1) : wpList P ops Q (o :: rest) a W := by
 refine wpList_plain hgd fun K hK => ?_
 have hn : n = xs.length := (Kd.R_reads' hR).1
 obtain ⟨g', cap, e, hB, _, cells, hc⟩ := Kd.R_form hR (by omega)
 injection e with e1
 injection e1 with e1
 injection e1 with e1
 subst e1
 have hsz : i < cells.size := by
  have h2 := (Kd.R_celln 0 hR (i : Int) (by omega) (by omega)).1
  rw [blk_cell hc] at h2
  simp only [Int.toNat_natCast] at h2
  exact (Array.getElem?_eq_some_iff.1 h2).1
 have hrun : (Instr.storeAt 3 (.pointer (some ⟨g, i, none⟩)) (.int .i64 u)).run P W = .ok () (W.setCell ⟨g, i, none⟩ (.int .i64 u)) := run_store_run 3 (.int .i64 u) [.int .i64 u] hc rfl hi1 hsz (by simp [Value.oneCell'])
 unfold Oper.wp execOp
 simp only [ho, haddr, hx, Sem.run_bind, Sem.run_pure, Result.andThen_ok, hrun]
 show K (a.put o.dst undef) _
 rw [hN]
 obtain ⟨h1, h2⟩ := Kd.R_putg hR (i : Int) u
 simp only [Int.toNat_natCast] at h1 h2
 exact hK a _ (h _ h1 h2 (by simp [World.setCell]))
theorem int_store_step {P : Program} {ops : Array Oper} {o : Oper} {a : Act} {Q : Exit → Act → World → Prop} {Kc : Act → World → Prop} {W : World} (hw : Region.wanted o (yielded ops a.tmps) = true) (hN : o.dst = none) (p x : Operand) (ho : o.op = .store 3 p x) (hi1 : (P.info? 3).map (·.size) = some 1) {g B n c : Nat} {ok : Nat → Prop} {xs : List Int} (i : Nat) (u : Int)
 (hR : (Kd.int .i64).R 3 W B ok (.slice (some ⟨g, 0, none⟩) n c) xs) (hi : i < n) (haddr : a.eval p = .pointer (some ⟨g, i, none⟩)) (hx : a.eval x = .int .i64 u)
 (h : ∀ w1, (Kd.int .i64).R 3 w1 B ok (.slice (some ⟨g, 0, none⟩) n c) (xs.set i u) → W.grownBy w1 (some g) → w1.heap.size = W.heap.size → Kc a w1) : if Region.wanted o (yielded ops a.tmps) = true then Oper.wp P o a W Kc Q else Kc (a.put o.dst undef) W := by
 rw [if_pos hw]
 have hn : n = xs.length := (Kd.R_reads' hR).1
 obtain ⟨g', cap, e, hB, _, cells, hc⟩ := Kd.R_form hR (by omega)
 injection e with e1
 injection e1 with e1
 injection e1 with e1
 subst e1
 have hsz : i < cells.size := by
  have h2 := (Kd.R_celln 0 hR (i : Int) (by omega) (by omega)).1
  rw [blk_cell hc] at h2
  simp only [Int.toNat_natCast] at h2
  exact (Array.getElem?_eq_some_iff.1 h2).1
 have hrun : (Instr.storeAt 3 (.pointer (some ⟨g, i, none⟩)) (.int .i64 u)).run P W = .ok () (W.setCell ⟨g, i, none⟩ (.int .i64 u)) := run_store_run 3 (.int .i64 u) [.int .i64 u] hc rfl hi1 hsz (by simp [Value.oneCell'])
 unfold Oper.wp execOp
 simp only [ho, haddr, hx, Sem.run_bind, Sem.run_pure, Result.andThen_ok, hrun]
 show Kc (a.put o.dst undef) _
 rw [hN]
 obtain ⟨h1, h2⟩ := Kd.R_putg hR (i : Int) u
 simp only [Int.toNat_natCast] at h1 h2
 exact h _ h1 h2 (by simp [World.setCell])

end Go.Proofs.YtiagfjbngpbejaaDoor.Pure
namespace Go.Proofs.YtiagfjbngpbejaaDoor.Pure
set_option linter.unusedVariables false
set_option linter.unusedSimpArgs false
open Go Go.RowKit Go.Proofs.YtiagfjbngpbejaaDoor.PFnExactSingBest Go.Proofs.YtiagfjbngpbejaaDoorW.PrintWords Go.Proofs.YtiagfjbngpbejaaDoorW.PrintLast Go.Proofs.YtiagfjbngpbejaaDoorW.PrintMore

set_option maxHeartbeats 8000000 in
set_option maxRecDepth 100000 in
theorem sing_change_calls (gs bH cH n t1 h1 t2 h2 b1 l1 c1 b2 l2 c2 : Nat) (x y : Int) (w : World) (hs : w.cell? ⟨gs, 0, none⟩ = some (.slice (some ⟨bH, 0, none⟩) n cH)) (k1 : t1 < n) (k2 : t2 < n) (r1 : w.cell? ⟨bH, t1, none⟩ = some (.slice (some ⟨b1, 0, none⟩) l1 c1)) (r2 : w.cell? ⟨bH, t2, none⟩ = some (.slice (some ⟨b2, 0, none⟩) l2 c2)) (j1 : h1 < l1) (j2 : h2 < l2) (v1 : w.cell? ⟨b1, h1, none⟩ = some (.int .i64 x)) (v2 : w.cell? ⟨b2, h2, none⟩ = some (.int .i64 y)) :
 Calls Tryd.prog 26 #[.pointer (some ⟨gs, 0, none⟩), .agg #[.int .i64 (t1 : Int), .int .i64 (h1 : Int)], .agg #[.int .i64 (t2 : Int), .int .i64 (h2 : Int)]] w fun e w' => e = .returned (.int .i64 (if x = y then 0 else 1)) ∧ Below w.heap.size w w' := by
 have HF := Aside0.mk (And.intro hs (And.intro r1 (And.intro r2 (And.intro v1 v2))))
 have a1 := eq_true (show (0 : Int) ≤ (t1 : Int) by omega)
 have a2 := eq_true (show (t1 : Int) < (n : Int) by omega)
 have a3 := eq_true (show (0 : Int) ≤ (t2 : Int) by omega)
 have a4 := eq_true (show (t2 : Int) < (n : Int) by omega)
 have a5 := eq_true (show (0 : Int) ≤ (h1 : Int) by omega)
 have a6 := eq_true (show (h1 : Int) < (l1 : Int) by omega)
 have a7 := eq_true (show (0 : Int) ≤ (h2 : Int) by omega)
 have a8 := eq_true (show (h2 : Int) < (l2 : Int) by omega)
 clear hs r1 r2 v1 v2 k1 k2 j1 j2
 obtain ⟨res, hres⟩ : ∃ r : Int, r = if x = y then 0 else 1 := ⟨_, rfl⟩
 obtain ⟨b, hb⟩ : ∃ b, b = (x != y) := ⟨_, rfl⟩
 rw [← hres]
 have HR : Aside0 (res = if b = true then 1 else 0) := ⟨by rw [hres, hb]; by_cases h : x = y <;> simp [h]⟩
 clear hres
 go_enter Tryd.func26, Tryd.ntmps26
 go_upto_region 1 with (first
  | ((with_reducible refine gate_dst (N := 4) rfl ?_); refine box_event ?hg (N := 4) ?hd (cs := #[.int .i64 (t1 : Int), .int .i64 (h1 : Int)]) (t := 57) ?hr ?_; (case hd => rfl); (case hg => rfl); (case hr => first | (go_simp; done) | (go_simp; rfl)); intro g4 hg w1 hbox hb; have HB1 := Aside0.mk hb; have K4 := Aside0.mk hbox; clear hb hbox hg)
  | ((with_reducible refine gate_dst (N := 5) rfl ?_); refine box_event ?hg (N := 5) ?hd (cs := #[.int .i64 (t2 : Int), .int .i64 (h2 : Int)]) (t := 57) ?hr ?_; (case hd => rfl); (case hg => rfl); (case hr => first | (go_simp; done) | (go_simp; rfl)); intro g5 hg w2 hbox hb; have HB2 := Aside0.mk (below_step HB1.out hb); have K5 := Aside0.mk hbox; have K4 := Aside0.mk (blk_below K4.out hb); clear hb hbox hg)
  | fail)
 (try simp only [Act.put, List.setIfInBounds_toArray, List.set_cons_zero, List.set_cons_succ])
 have m1 : w2.cell? ⟨gs, 0, none⟩ = some (.slice (some ⟨bH, 0, none⟩) n cH) := pw_cell_below HB2.out HF.out.1
 have m2 : w2.cell? ⟨bH, t1, none⟩ = some (.slice (some ⟨b1, 0, none⟩) l1 c1) := pw_cell_below HB2.out HF.out.2.1
 have m3 : w2.cell? ⟨bH, t2, none⟩ = some (.slice (some ⟨b2, 0, none⟩) l2 c2) := pw_cell_below HB2.out HF.out.2.2.1
 have m4 : w2.cell? ⟨b1, h1, none⟩ = some (.int .i64 x) := pw_cell_below HB2.out HF.out.2.2.2.1
 have m5 : w2.cell? ⟨b2, h2, none⟩ = some (.int .i64 y) := pw_cell_below HB2.out HF.out.2.2.2.2
 have m6 : w2.cell? ⟨g4, 0, none⟩ = some (.int .i64 (t1 : Int)) := (blk_cell K4.out 0).trans rfl
 have m7 : w2.cell? ⟨g4, 1, none⟩ = some (.int .i64 (h1 : Int)) := (blk_cell K4.out 1).trans rfl
 have m8 : w2.cell? ⟨g5, 0, none⟩ = some (.int .i64 (t2 : Int)) := (blk_cell K5.out 0).trans rfl
 have m9 : w2.cell? ⟨g5, 1, none⟩ = some (.int .i64 (h2 : Int)) := (blk_cell K5.out 1).trans rfl
 go_quiet (fail)
 rw [← hb]
 clear hb
 cases b
 ·
  go_wp2
  go_ret
  exact ⟨by rw [HR.out]; rfl, by repeat (first | exact HB2.out | apply pw_below_drewN)⟩
 ·
  go_wp2
  go_ret
  exact ⟨by rw [HR.out]; rfl, by repeat (first | exact HB2.out | apply pw_below_drewN)⟩

end Go.Proofs.YtiagfjbngpbejaaDoor.Pure
namespace Go.Proofs.YtiagfjbngpbejaaDoor.Pure
set_option linter.unusedVariables false
set_option linter.unusedSimpArgs false
open Go Go.RowKit Go.Proofs.YtiagfjbngpbejaaDoor.PFnExactSingBest Go.Proofs.YtiagfjbngpbejaaDoorW.PrintWords Go.Proofs.YtiagfjbngpbejaaDoorW.PrintLast Go.Proofs.YtiagfjbngpbejaaDoorW.PrintMore

def updC (c x h k : Int) : Int := if k < 0 ∨ c + (if h = x then 0 else 1) < k then c + (if h = x then 0 else 1) else k
def ahC (c x : Int) (p : SRow) (i : Nat) : List Int := (List.range p.hx.length).map (fun j => if j < i then updC c x (p.hx.getD j 0) (p.cs.getD j 0) else p.cs.getD j 0)
def ahQ (t : Nat) (p : SRow) : Nat → List (Int × Int)
 | 0 => []
 | i + 1 => ahQ t p i ++ (if p.cs.getD i 0 < 0 then [((t : Int), (i : Int))] else [])
theorem ahC_len (c x : Int) (p : SRow) (i : Nat) : (ahC c x p i).length = p.hx.length := by simp [ahC]
theorem ahC_at (c x : Int) (p : SRow) (i j : Nat) (hj : j < p.hx.length) : (ahC c x p i)[j]? = some (if j < i then updC c x (p.hx.getD j 0) (p.cs.getD j 0) else p.cs.getD j 0) := by
 unfold ahC
 rw [List.getElem?_map, List.getElem?_range hj]
 rfl
theorem ahC_get (c x : Int) (p : SRow) (i : Nat) (hi : i < p.hx.length) : (ahC c x p i).getD i 0 = p.cs.getD i 0 := by
 rw [List.getD_eq_getElem?_getD, ahC_at c x p i i hi, if_neg (by omega)]
 rfl
theorem ahC_zero (c x : Int) (p : SRow) (h : p.cs.length = p.hx.length) : ahC c x p 0 = p.cs := by
 refine List.ext_getElem? (fun j => ?_)
 rcases Nat.lt_or_ge j p.hx.length with hj | hj
 ·
  rw [ahC_at c x p 0 j hj, if_neg (by omega), List.getD_eq_getElem?_getD, List.getElem?_eq_getElem (by omega)]
  rfl
 ·
  rw [List.getElem?_eq_none (by rw [ahC_len]; exact hj), List.getElem?_eq_none (by omega)]
theorem ahC_succ (c x : Int) (p : SRow) (i : Nat) (hi : i < p.hx.length) : ahC c x p (i + 1) = (ahC c x p i).set i (updC c x (p.hx.getD i 0) (p.cs.getD i 0)) := by
 refine List.ext_getElem? (fun j => ?_)
 rcases Nat.lt_or_ge j p.hx.length with hj | hj
 ·
  rw [ahC_at c x p _ j hj, List.getElem?_set]
  by_cases e : i = j
  ·
   subst e
   rw [if_pos rfl, if_pos (by omega), if_pos (by rw [ahC_len]; exact hj)]
  ·
   rw [if_neg e, ahC_at c x p i j hj]
   by_cases h2 : j < i
   ·
    rw [if_pos h2, if_pos (by omega)]
   ·
    rw [if_neg h2, if_neg (by omega)]
 ·
  rw [List.getElem?_eq_none (by rw [ahC_len]; exact hj), List.getElem?_eq_none (by rw [List.length_set, ahC_len]; exact hj)]
theorem ahC_same (c x : Int) (p : SRow) (i : Nat) (hi : i < p.hx.length) (h : updC c x (p.hx.getD i 0) (p.cs.getD i 0) = p.cs.getD i 0) : ahC c x p (i + 1) = ahC c x p i := by
 refine List.ext_getElem? (fun j => ?_)
 rcases Nat.lt_or_ge j p.hx.length with hj | hj
 ·
  rw [ahC_at c x p _ j hj, ahC_at c x p _ j hj]
  by_cases e : i = j
  ·
   subst e
   rw [if_pos (by omega), if_neg (by omega), h]
  ·
   by_cases h2 : j < i
   ·
    rw [if_pos h2, if_pos (by omega)]
   ·
    rw [if_neg h2, if_neg (by omega)]
 ·
  rw [List.getElem?_eq_none (by rw [ahC_len]; exact hj), List.getElem?_eq_none (by rw [ahC_len]; exact hj)]
theorem ahQ_len (t : Nat) (p : SRow) : ∀ i, (ahQ t p i).length ≤ i
 | 0 => Nat.le_refl _
 | i + 1 => by
  unfold ahQ
  rw [List.length_append]
  have := ahQ_len t p i
  split <;> simp <;> omega
theorem set_same {rs : List SRow} {t : Nat} {p : SRow} (h : rs[t]? = some p) : rs.set t p = rs := by
 refine List.ext_getElem? (fun j => ?_)
 rw [List.getElem?_set]
 split
 ·
  rename_i e
  subst e
  rw [h, if_pos (List.getElem?_eq_some_iff.1 h).1]
 ·
  rfl
theorem QHas.grownInt {W W' : World} {B gq b : Nat} {v : Value} {xs : List (Int × Int)} {cells : Array Value} (h : QHas W B gq v xs) (hc : W.heap[b]? = some (.cells cells 3 (0, 0))) (hg : W.grownBy W' (some b)) : QHas W' B gq v xs := by
 refine h.kept (Kept.of_grown hg (Kept.refl W (fun k => k = b)) (fun k hk => .inl (Option.some.inj hk).symm)) (fun k hk hs => ?_)
 subst hs
 obtain ⟨_, cells', e', hc', he⟩ := h.ty k hk
 rw [hc] at hc'
 injection hc' with hc'
 injection hc' with _ hc'
 subst hc'
 rcases he with he | he <;> revert he <;> decide
theorem blk_grownInt {W W' : World} {b g e : Nat} {cs cells : Array Value} (h : W.heap[g]? = some (.cells cs e (0, 0))) (hc : W.heap[b]? = some (.cells cells 3 (0, 0))) (he : e ≠ 3) (hg : W.grownBy W' (some b)) : W'.heap[g]? = some (.cells cs e (0, 0)) :=
 blk_grown h hg (fun h2 => by
  have h2 := Option.some.inj h2
  subst h2
  rw [hc] at h
  injection h with h
  injection h with _ h
  exact he h.symm)
def ahP (c x : Int) (p : SRow) (i : Nat) : SRow := { p with cs := ahC c x p i }
set_option maxHeartbeats 8000000 in
set_option maxRecDepth 100000 in
theorem sing_ahead_zero (gs gq : Nat) (j : Int) (w : World) :
 Calls Tryd.prog 38 #[.pointer (some ⟨gs, 0, none⟩), .agg #[.int .i64 0, .int .i64 j], .pointer (some ⟨gq, 0, none⟩)] w fun e w' => e = .returned (.tuple #[]) ∧ Below w.heap.size w w' := by
 go_enter Tryd.func38, Tryd.ntmps38
 go_wp2_with (first
  | ((with_reducible refine gate_dst (N := 4) rfl ?_); refine box_event ?hg (N := 4) ?hd (cs := #[.int .i64 0, .int .i64 j]) (t := 57) ?hr ?_; (case hd => rfl); (case hg => rfl); (case hr => first | (go_simp; done) | (go_simp; rfl)); intro g4 hg w1 hbox hb; have HB1 := Aside0.mk hb; have z0 : w1.cell? ⟨g4, 0, none⟩ = some (.int .i64 0) := (blk_cell hbox 0).trans rfl; clear hb hbox hg))
 refine bodyPost_ret (results_none rfl _ _ _) rfl ?_
 exact ⟨rfl, HB1.out⟩
set_option maxHeartbeats 40000000 in
set_option maxRecDepth 100000 in
theorem sing_ahead_succ (σ : Sg) (B T t' j gq : Nat) (rs : List SRow) (r p : SRow) (vq : Value) (xs : List (Int × Int)) (c x : Int) (w : World) (hT : T = t' + 1) (hr : rs[T]? = some r) (hp : rs[t']? = some p) (hj : j < r.hx.length) (hc : r.cs.getD j 0 = c) (hx : r.hx.getD j 0 = x) (c0 : 0 ≤ c) (c1 : c ≤ 1000) (hs : SHas w B σ rs) (hq : QHas w B gq vq xs) (hn : xs.length + p.hx.length ≤ 10000) (hTn : rs.length ≤ 1000) :
 Calls Tryd.prog 38 #[.pointer (some ⟨σ.gs, 0, none⟩), .agg #[.int .i64 (T : Int), .int .i64 (j : Int)], .pointer (some ⟨gq, 0, none⟩)] w fun e w' => e = .returned (.tuple #[]) ∧ ∃ vq', SHas w' B σ (rs.set t' (ahP c x p p.hx.length)) ∧ QHas w' B gq vq' (xs ++ ahQ t' p p.hx.length) ∧ Below B w w' ∧ Kept w w' (fun k => QBl gq vq k ∨ k = p.cb) ∧ (vq'.ownBlock = vq.ownBlock ∨ ∃ k, vq'.ownBlock = some k ∧ w.heap.size ≤ k) := by
 obtain ⟨n, hnn⟩ : ∃ n, n = rs.length := ⟨_, rfl⟩
 have hTl : T < n := by rw [hnn]; exact (List.getElem?_eq_some_iff.1 hr).1
 obtain ⟨L, hL⟩ : ∃ L, L = p.hx.length := ⟨_, rfl⟩
 obtain ⟨l, hl⟩ : ∃ l, l = r.cs.length := ⟨_, rfl⟩
 obtain ⟨pr1, pr2, -, -⟩ := hs.rows t' p hp
 obtain ⟨rr1, rr2, -, -⟩ := hs.rows T r hr
 have hjl : j < l := by omega
 rw [← hL] at hn
 have q0 := eq_true (show (0 : Int) ≤ (T : Int) by omega)
 have q1 := eq_true (show (T : Int) < (n : Int) by omega)
 have q2 := eq_true (show (0 : Int) ≤ (t' : Int) by omega)
 have q3 := eq_true (show (t' : Int) < (n : Int) by omega)
 have q4 := eq_true (show (0 : Int) ≤ (j : Int) by omega)
 have q5 := eq_true (show (j : Int) < (l : Int) by omega)
 have d1 : ((T : Int) == 0) = false := beq_eq_false_iff_ne.mpr (by omega)
 have d2 : decide ((T : Int) = 0) = false := decide_eq_false (by omega)
 have p1 : IntKind.i64.wrap ((T : Int) - 1) = (t' : Int) := by rw [Go.IntKind.wrap_i64]; omega
 have HGQ : Aside0 (gq < w.heap.size) := ⟨blk_lt hq.2.1⟩
 have HQL := Aside0.mk (Kd.Q_lt hq.2.2)
 have BL : Aside0 (B ≤ w.heap.size) := ⟨by have := hq.1; have := blk_lt hq.2.1; omega⟩
 have SH0 := Aside0.mk hs
 have QH0 := Aside0.mk hq
 have HNN := Aside0.mk hnn
 have HL := Aside0.mk hL
 have HLL := Aside0.mk hl
 have HR := Aside0.mk (And.intro hr (And.intro hp (And.intro hc (And.intro hx (And.intro hj (And.intro hT (And.intro pr1 rr1)))))))
 have HN := Aside0.mk (And.intro hn (And.intro hTn hTl))
 have HC := Aside0.mk (And.intro c0 c1)
 clear hs hq hnn hL hl hr hp hc hx hj hT hn hTn hTl hjl pr1 pr2 rr1 rr2 c0 c1
 go_enter Tryd.func38, Tryd.ntmps38
 go_upto_region 2 with (first
  | ((with_reducible refine gate_dst (N := 4) rfl ?_); refine box_event ?hg (N := 4) ?hd (cs := #[.int .i64 (T : Int), .int .i64 (j : Int)]) (t := 57) ?hr ?_; (case hd => rfl); (case hg => rfl); (case hr => first | (go_simp; done) | (go_simp; rfl)); intro g4 hg w1 hbox hb; have HB1 := Aside0.mk hb; have K4 := Aside0.mk hbox; have SH1 := Aside0.mk (SH0.out.below hb); have QH1 := Aside0.mk (QH0.out.below hb); have G4 := Aside0.mk hg; have hlt4 := Aside0.mk (blk_lt hbox); have z40 : w1.cell? ⟨g4, 0, none⟩ = some (.int .i64 (T : Int)) := (blk_cell hbox 0).trans rfl; have z41 : w1.cell? ⟨g4, 1, none⟩ = some (.int .i64 (j : Int)) := (blk_cell hbox 1).trans rfl; have m0 : w1.cell? ⟨σ.gs, 0, none⟩ = some (.slice (some ⟨σ.bH, 0, none⟩) n σ.cH) := (by rw [HNN.out]; exact SH1.out.c0); have m1 : w1.cell? ⟨σ.bH, t', none⟩ = some (.slice (some ⟨p.hb, 0, none⟩) L p.hc) := (by rw [HL.out]; exact SH1.out.hrow HR.out.2.1); clear hb hbox hg)
  | fail)
 (try simp only [Act.put, List.setIfInBounds_toArray, List.set_cons_zero, List.set_cons_succ])
 go_quiet (fail)
 generalize hwd : w1.drewN _ = wd
 go_wp2
 have SHd : Aside0 (SHas wd B σ rs) := ⟨by rw [← hwd]; exact SH1.out.drewN _⟩
 have QHd : Aside0 (QHas wd B gq vq xs) := ⟨by rw [← hwd]; exact QH1.out.below (pw_below_drewN (Below.refl _ _) _)⟩
 have K4d : Aside0 (wd.heap[g4]? = some (.cells #[.int .i64 (T : Int), .int .i64 (j : Int)] 57 (0, 0))) := ⟨by rw [← hwd]; exact K4.out⟩
 have HBd : Aside0 (Below w.heap.size w wd) := ⟨by rw [← hwd]; exact pw_below_drewN HB1.out _⟩
 have HSd : Aside0 (wd.heap.size = w1.heap.size) := ⟨by rw [← hwd]; rfl⟩
 clear hwd z40 z41 m0 m1
 go_loopg [23] L (fun kq v23 w' => ∃ (i : Nat) (vi : Value), v23 = .int .i64 (i : Int) ∧ Aside0 (kq = L - i ∧ i ≤ L) ∧ Aside0 (SHas w' B σ (rs.set t' (ahP c x p i))) ∧ Aside0 (QHas w' B gq vi (xs ++ ahQ t' p i)) ∧ Aside0 (Below B w w') ∧ Aside0 (Kept w w' (fun k => QBl gq vq k ∨ k = p.cb)) ∧ Aside0 (vi.ownBlock = vq.ownBlock ∨ ∃ k, vi.ownBlock = some k ∧ g4 < k) ∧ Aside0 (w'.heap[g4]? = some (.cells #[.int .i64 (T : Int), .int .i64 (j : Int)] 57 (0, 0))))
 case atStart => exact ⟨0, vq, rfl, ⟨by omega⟩, ⟨by have e : ahP c x p 0 = p := (by unfold ahP; rw [ahC_zero c x p HR.out.2.2.2.2.2.2.1]); rw [e, set_same HR.out.2.1]; exact SHd.out⟩, ⟨by rw [show ahQ t' p 0 = [] from rfl, List.append_nil]; exact QHd.out⟩, ⟨HBd.out.mono BL.out⟩, ⟨Kept.of_below HBd.out _⟩, ⟨.inl rfl⟩, K4d⟩
 case round =>
  clear SH0 QH0 SH1 QH1 SHd QHd K4d HBd HB1 K4 HSd
  obtain ⟨i, vi, rfl, HX, SH, QH, HB, HK, AT, K4⟩ := hrel
  obtain ⟨hkq, hiL⟩ := HX.out
  clear HX
  by_cases hi : i < L
  rotate_left
  ·
   obtain rfl : i = L := by omega
   have d3 : decide ((i : Int) < (i : Int)) = false := decide_eq_false (by omega)
   go_wp2
   go_end0
   exact ⟨rfl, vi, by rw [← HL.out]; exact SH.out, by rw [← HL.out]; exact QH.out, HB.out, HK.out, AT.out.imp id (fun ⟨k, h1, h2⟩ => ⟨k, h1, by have := G4.out; omega⟩)⟩
  have d3 : decide ((i : Int) < (L : Int)) = true := decide_eq_true (by omega)
  have NX : Aside0 (L - (i + 1) < gk ∧ i + 1 ≤ L ∧ i < L) := ⟨by omega, by omega, hi⟩
  have p3 : IntKind.i64.wrap ((i : Int) + 1) = (i : Int) + 1 := by have := HN.out.1; rw [Go.IntKind.wrap_i64]; omega
  have q6 := eq_true (show (0 : Int) ≤ (i : Int) by omega)
  have q7 := eq_true (show (i : Int) < (L : Int) by omega)
  clear hkq hiL hi
  have z40 : wr.cell? ⟨g4, 0, none⟩ = some (.int .i64 (T : Int)) := (blk_cell K4.out 0).trans rfl
  have G4' : Aside0 (w.heap.size ≤ g4) := ⟨by have := G4.out; omega⟩
  have G4r := Aside0.mk (blk_lt K4.out)
  go_upto_region 6 with (first
   | ((with_reducible refine gate_dst (N := 7) rfl ?_); refine box_event ?hg (N := 7) ?hd (cs := #[.int .i64 0, .int .i64 0]) (t := 57) ?hr ?_; (case hd => rfl); (case hg => rfl); (case hr => first | (go_simp; done) | (go_simp; rfl)); intro g7 hg w2 hbox hb; have K7 := Aside0.mk hbox; have K42 := Aside0.mk (blk_below K4.out hb); have SH2 := Aside0.mk (SH.out.below hb); have QH2 := Aside0.mk (QH.out.below hb); have HB2 := Aside0.mk (HB.out.trans (hb.mono (Nat.le_trans BL.out HB.out.size))); have HK2 := Aside0.mk (HK.out.below hb); have G7 := Aside0.mk hg; have QL7 := Aside0.mk (Kd.Q_lt QH.out.2.2); have GQ7 := Aside0.mk (blk_lt QH.out.2.1); have HBS := Aside0.mk HB.out.size; clear hb hbox hg)
   | ((with_reducible refine gate_ (.store 57 (.tmp 7) (.tmp 30)) rfl ?_); (refine box_store rfl rfl 57 (.tmp 7) (.tmp 30) rfl (g := g7) (off := 0) (new := #[.int .i64 (t' : Int), .int .i64 (i : Int)]) _ [.int .i64 (t' : Int), .int .i64 (i : Int)] K7.out rfl rfl rfl (by kernel_rfl) (by simp [Value.oneCell']) (Nat.le_of_ble_eq_true rfl) rfl ?_); intro w3 hh hg hz; have K7o := K7; have K7 := Aside0.mk hh; have K43 := Aside0.mk (blk_grown K42.out hg (fun h => by have h2 := Option.some.inj h; have h3 := G4r.out; have h4 := G7.out; omega)); have HB3 := Aside0.mk (below_grown HB2.out hg (by have := G7.out; have := HBS.out; have := BL.out; omega) (Nat.le_trans BL.out HB2.out.size)); have HKG := Kept.of_grown hg (Kept.refl w2 (fun k => k = g7)) (fun k hk => .inl (Option.some.inj hk).symm); have SH3 := Aside0.mk (SH2.out.kept HKG (fun k cells e hc hs => by subst hs; rw [K7o.out] at hc; injection hc with hc; injection hc with _ hc; subst hc; exact ⟨by decide, by decide, by decide⟩)); have QH3 := Aside0.mk (QH2.out.kept HKG (fun k hk hs => by subst hs; have h7 := G7.out; exact hk.elim (fun hk => (by have := GQ7.out; omega)) (fun hk => (by have := QL7.out _ hk; omega)))); have HK3 := Aside0.mk (HK2.out.then_ HKG (fun k hk => .inr (by subst hk; have h7 := G7.out; have := HBS.out; omega))); clear HKG; clear hh hg hz)
   | fail)
  (try simp only [Act.put, List.setIfInBounds_toArray, List.set_cons_zero, List.set_cons_succ])
  obtain ⟨rs2, hrs2⟩ : ∃ rs2, rs2 = rs.set t' (ahP c x p i) := ⟨_, rfl⟩
  have e3 : rs2.length = n := by rw [hrs2, List.length_set, HNN.out]
  have e1 : rs2[t']? = some (ahP c x p i) := by rw [hrs2, List.getElem?_set, if_pos rfl, if_pos (by have := HN.out.2.2; have := HR.out.2.2.2.2.2.1; have := HNN.out; omega)]
  have e2 : rs2[T]? = some r := by rw [hrs2, List.getElem?_set, if_neg (by have := HR.out.2.2.2.2.2.1; omega)]; exact HR.out.1
  rw [← hrs2] at SH3
  obtain ⟨h, hh⟩ : ∃ h, h = p.hx.getD i 0 := ⟨_, rfl⟩
  obtain ⟨k, hk⟩ : ∃ k, k = p.cs.getD i 0 := ⟨_, rfl⟩
  obtain ⟨d, hd⟩ : ∃ d : Int, d = if h = x then 0 else 1 := ⟨_, rfl⟩
  have d01 : 0 ≤ d ∧ d ≤ 1 := by rw [hd]; split <;> omega
  obtain ⟨cost, hcost⟩ : ∃ cost, cost = c + d := ⟨_, rfl⟩
  have pc : IntKind.i64.wrap (c + d) = cost := by have := HC.out; rw [Go.IntKind.wrap_i64]; omega
  have n0 : w3.cell? ⟨σ.gs, 0, none⟩ = some (.slice (some ⟨σ.bH, 0, none⟩) n σ.cH) := by rw [← e3]; exact SH3.out.c0
  have n1 : w3.cell? ⟨σ.gs, 1, none⟩ = some (.slice (some ⟨σ.bC, 0, none⟩) n σ.cC) := by rw [← e3]; exact SH3.out.c1
  have n2 : w3.cell? ⟨σ.bC, T, none⟩ = some (.slice (some ⟨r.cb, 0, none⟩) l r.cc) := by rw [HLL.out]; exact SH3.out.crow e2
  have n3 : w3.cell? ⟨r.cb, j, none⟩ = some (.int .i64 c) := by rw [← HR.out.2.2.1]; exact SH3.out.ccell e2 j (by have := HR.out.2.2.2.2; omega)
  have n4 : w3.cell? ⟨g4, 0, none⟩ = some (.int .i64 (T : Int)) := (blk_cell K43.out 0).trans rfl
  have n5 : w3.cell? ⟨g4, 1, none⟩ = some (.int .i64 (j : Int)) := (blk_cell K43.out 1).trans rfl
  have n6 : w3.cell? ⟨g7, 0, none⟩ = some (.int .i64 (t' : Int)) := (blk_cell K7.out 0).trans rfl
  have n7 : w3.cell? ⟨g7, 1, none⟩ = some (.int .i64 (i : Int)) := (blk_cell K7.out 1).trans rfl
  have n8 : w3.cell? ⟨σ.bH, t', none⟩ = some (.slice (some ⟨p.hb, 0, none⟩) L p.hc) := by have h2 := SH3.out.hrow e1; rw [HL.out]; exact h2
  have n9 : w3.cell? ⟨σ.bH, T, none⟩ = some (.slice (some ⟨r.hb, 0, none⟩) r.hx.length r.hc) := SH3.out.hrow e2
  have n10 : w3.cell? ⟨p.hb, i, none⟩ = some (.int .i64 h) := by have h2 := SH3.out.hcell e1 i (by have := NX.out.2.2; have := HL.out; show i < p.hx.length; omega); rw [hh]; exact h2
  have n11 : w3.cell? ⟨r.hb, j, none⟩ = some (.int .i64 x) := by rw [← HR.out.2.2.2.1]; exact SH3.out.hcell e2 j HR.out.2.2.2.2.1
  have hcon : ∀ W, Below w3.heap.size w3 W → Calls Tryd.prog 26 #[.pointer (some ⟨σ.gs, 0, none⟩), .agg #[.int .i64 (t' : Int), .int .i64 (i : Int)], .agg #[.int .i64 (T : Int), .int .i64 (j : Int)]] W fun e w' => e = .returned (.int .i64 d) ∧ Below W.heap.size W w' := fun W hW => by
   rw [hd]
   exact sing_change_calls σ.gs σ.bH σ.cH n t' i T j p.hb L p.hc r.hb r.hx.length r.hc h x W (pw_cell_below hW n0) (by have := HN.out.2.2; have := HR.out.2.2.2.2.2.1; omega) HN.out.2.2 (pw_cell_below hW n8) (pw_cell_below hW n9) NX.out.2.2 HR.out.2.2.2.2.1 (pw_cell_below hW n10) (pw_cell_below hW n11)
  have HCON := Aside0.mk hcon
  have CE := Aside0.mk (And.intro n1 (And.intro n2 (And.intro n3 (And.intro n4 (And.intro n5 (And.intro n6 n7))))))
  have n12 : w3.cell? ⟨σ.bC, t', none⟩ = some (.slice (some ⟨p.cb, 0, none⟩) L p.cc) := by have h2 := SH3.out.crow e1; unfold SRow.cv ahP at h2; simp only [ahC_len] at h2; rw [HL.out]; exact h2
  have n13 : w3.cell? ⟨p.cb, i, none⟩ = some (.int .i64 k) := by have h2 := SH3.out.ccell e1 i (by unfold ahP; simp only [ahC_len]; have := NX.out.2.2; have := HL.out; omega); unfold ahP at h2; simp only [ahC_get c x p i (by have := NX.out.2.2; have := HL.out; omega)] at h2; rw [hk]; exact h2
  have CF := Aside0.mk (And.intro n1 (And.intro n12 (And.intro n6 (And.intro n7 n13))))
  have HE := Aside0.mk (And.intro hrs2 (And.intro e1 (And.intro e2 e3)))
  have HD := Aside0.mk (And.intro hh (And.intro hk (And.intro hd (And.intro hcost d01))))
  clear hcon n0 n1 n2 n3 n4 n5 n6 n7 n8 n9 n10 n11 n12 n13 hrs2 e1 e2 e3 hh hk hd hcost d01 z40
  refine start_ (n := 18) (S := (fun w' => w'.cell? ⟨σ.gs, 1, none⟩ = some (.slice (some ⟨σ.bC, 0, none⟩) n σ.cC) ∧ w'.cell? ⟨σ.bC, T, none⟩ = some (.slice (some ⟨r.cb, 0, none⟩) l r.cc) ∧ w'.cell? ⟨r.cb, j, none⟩ = some (.int .i64 c) ∧ w'.cell? ⟨g4, 0, none⟩ = some (.int .i64 (T : Int)) ∧ w'.cell? ⟨g4, 1, none⟩ = some (.int .i64 (j : Int)) ∧ w'.cell? ⟨g7, 0, none⟩ = some (.int .i64 (t' : Int)) ∧ w'.cell? ⟨g7, 1, none⟩ = some (.int .i64 (i : Int)))) (ds := []) (rowB 18 0) (by kernel_rfl) rfl rfl CE.out (fun hHeld => ?_)
  refine pure_ (i := 0) (N := some 31) (v := ?_) (a' := ?_) (rowB 18 1) rfl rfl (by kernel_rfl) (fun _ _ _ h => h) (Or.inl ⟨by rfl, ?_⟩) ?_ ?_
  rotate_left
  ·
   intro w'
   go_simp
   with_reducible rfl
  rotate_left
  ·
   simp only [Act.put, List.setIfInBounds_toArray, List.set_cons_zero, List.set_cons_succ, i64_w, i32_w]
   rfl
  refine pure_ (i := 1) (N := some 32) (v := ?_) (a' := ?_) (rowB 18 3) rfl rfl (by kernel_rfl) (fun _ _ _ h => h) (Or.inl ⟨by rfl, ?_⟩) ?_ ?_
  rotate_left
  ·
   intro w'
   go_simp
   with_reducible rfl
  rotate_left
  ·
   simp only [Act.put, List.setIfInBounds_toArray, List.set_cons_zero, List.set_cons_succ, i64_w, i32_w]
   rfl
  refine pure_ (i := 2) (N := some 33) (v := ?_) (a' := ?_) (rowB 18 7) rfl rfl (by kernel_rfl) (fun _ _ _ h => h) (Or.inl ⟨by rfl, ?_⟩) ?_ ?_
  rotate_left
  ·
   intro w'
   go_simp
   with_reducible rfl
  rotate_left
  ·
   simp only [Act.put, List.setIfInBounds_toArray, List.set_cons_zero, List.set_cons_succ, i64_w, i32_w]
   rfl
  refine take_ (i := 3) (N := some 34) (v := ?_) (a' := ?_) (rowB 18 15) rfl rfl (by kernel_rfl) (fun _ _ _ h => h) (Or.inl ⟨by rfl, ?_⟩) hHeld ?_ ?_
  rotate_left
  ·
   rintro w' ⟨s0, s1, s2, s3, s4, s5, s6⟩
   go_simp
   with_reducible rfl
  rotate_left
  ·
   simp only [Act.put, List.setIfInBounds_toArray, List.set_cons_zero, List.set_cons_succ, i64_w, i32_w]
   rfl
  refine pure_ (i := 4) (N := some 35) (v := ?_) (a' := ?_) (rowB 18 31) rfl rfl (by kernel_rfl) (fun _ _ _ h => h) (Or.inl ⟨by rfl, ?_⟩) ?_ ?_
  rotate_left
  ·
   intro w'
   go_simp
   with_reducible rfl
  rotate_left
  ·
   simp only [Act.put, List.setIfInBounds_toArray, List.set_cons_zero, List.set_cons_succ, i64_w, i32_w]
   rfl
  refine take_ (i := 5) (N := some 36) (v := ?_) (a' := ?_) (rowB 18 63) rfl rfl (by kernel_rfl) (fun _ _ _ h => h) (Or.inl ⟨by rfl, ?_⟩) hHeld ?_ ?_
  rotate_left
  ·
   rintro w' ⟨s0, s1, s2, s3, s4, s5, s6⟩
   go_simp
   with_reducible rfl
  rotate_left
  ·
   simp only [Act.put, List.setIfInBounds_toArray, List.set_cons_zero, List.set_cons_succ, i64_w, i32_w]
   rfl
  refine pure_ (i := 6) (N := some 37) (v := ?_) (a' := ?_) (rowB 18 127) rfl rfl (by kernel_rfl) (fun _ _ _ h => h) (Or.inl ⟨by rfl, ?_⟩) ?_ ?_
  rotate_left
  ·
   intro w'
   go_simp
   with_reducible rfl
  rotate_left
  ·
   simp only [Act.put, List.setIfInBounds_toArray, List.set_cons_zero, List.set_cons_succ, i64_w, i32_w]
   rfl
  refine take_ (i := 7) (N := some 38) (v := ?_) (a' := ?_) (rowB 18 255) rfl rfl (by kernel_rfl) (fun _ _ _ h => h) (Or.inl ⟨by rfl, ?_⟩) hHeld ?_ ?_
  rotate_left
  ·
   rintro w' ⟨s0, s1, s2, s3, s4, s5, s6⟩
   go_simp
   with_reducible rfl
  rotate_left
  ·
   simp only [Act.put, List.setIfInBounds_toArray, List.set_cons_zero, List.set_cons_succ, i64_w, i32_w]
   rfl
  refine pure_ (i := 8) (N := some 39) (v := ?_) (a' := ?_) (rowB 18 511) rfl rfl (by kernel_rfl) (fun _ _ _ h => h) (Or.inl ⟨by rfl, ?_⟩) ?_ ?_
  rotate_left
  ·
   intro w'
   go_simp
   with_reducible rfl
  rotate_left
  ·
   simp only [Act.put, List.setIfInBounds_toArray, List.set_cons_zero, List.set_cons_succ, i64_w, i32_w]
   rfl
  refine take_ (i := 9) (N := some 40) (v := ?_) (a' := ?_) (rowB 18 1023) rfl rfl (by kernel_rfl) (fun _ _ _ h => h) (Or.inl ⟨by rfl, ?_⟩) hHeld ?_ ?_
  rotate_left
  ·
   rintro w' ⟨s0, s1, s2, s3, s4, s5, s6⟩
   go_simp
   with_reducible rfl
  rotate_left
  ·
   simp only [Act.put, List.setIfInBounds_toArray, List.set_cons_zero, List.set_cons_succ, i64_w, i32_w]
   rfl
  refine pure_ (i := 10) (N := some 41) (v := ?_) (a' := ?_) (rowB 18 2047) rfl rfl (by kernel_rfl) (fun _ _ _ h => h) (Or.inl ⟨by rfl, ?_⟩) ?_ ?_
  rotate_left
  ·
   intro w'
   go_simp
   with_reducible rfl
  rotate_left
  ·
   simp only [Act.put, List.setIfInBounds_toArray, List.set_cons_zero, List.set_cons_succ, i64_w, i32_w]
   rfl
  refine take_ (i := 11) (N := some 42) (v := ?_) (a' := ?_) (rowB 18 4095) rfl rfl (by kernel_rfl) (fun _ _ _ h => h) (Or.inl ⟨by rfl, ?_⟩) hHeld ?_ ?_
  rotate_left
  ·
   rintro w' ⟨s0, s1, s2, s3, s4, s5, s6⟩
   go_simp
   with_reducible rfl
  rotate_left
  ·
   simp only [Act.put, List.setIfInBounds_toArray, List.set_cons_zero, List.set_cons_succ, i64_w, i32_w]
   rfl
  refine pure_ (i := 12) (N := some 43) (v := ?_) (a' := ?_) (rowB 18 8191) rfl rfl (by kernel_rfl) (fun _ _ _ h => h) (Or.inl ⟨by rfl, ?_⟩) ?_ ?_
  rotate_left
  ·
   intro w'
   go_simp
   with_reducible rfl
  rotate_left
  ·
   simp only [Act.put, List.setIfInBounds_toArray, List.set_cons_zero, List.set_cons_succ, i64_w, i32_w]
   rfl
  refine take_ (i := 13) (N := some 44) (v := ?_) (a' := ?_) (rowB 18 16383) rfl rfl (by kernel_rfl) (fun _ _ _ h => h) (Or.inl ⟨by rfl, ?_⟩) hHeld ?_ ?_
  rotate_left
  ·
   rintro w' ⟨s0, s1, s2, s3, s4, s5, s6⟩
   go_simp
   with_reducible rfl
  rotate_left
  ·
   simp only [Act.put, List.setIfInBounds_toArray, List.set_cons_zero, List.set_cons_succ, i64_w, i32_w]
   rfl
  refine take_ (i := 14) (N := some 45) (v := ?_) (a' := ?_) (rowB 18 32767) rfl rfl (by kernel_rfl) (fun _ _ _ h => h) (Or.inl ⟨by rfl, ?_⟩) hHeld ?_ ?_
  rotate_left
  ·
   rintro w' ⟨s0, s1, s2, s3, s4, s5, s6⟩
   go_simp
   with_reducible rfl
  rotate_left
  ·
   simp only [Act.put, List.setIfInBounds_toArray, List.set_cons_zero, List.set_cons_succ, i64_w, i32_w]
   rfl
  refine one_ (i := 15) (N := some 46) (rowB 18 65535) rfl rfl (by kernel_rfl) (by decide) (fun K hK => ?_)
  refine call_ 26 #[.pointer (some ⟨σ.gs, 0, none⟩), .agg #[.int .i64 (t' : Int), .int .i64 (i : Int)], .agg #[.int .i64 (T : Int), .int .i64 (j : Int)]] (by rfl) rfl (by go_simp) ?_
  refine (HCON.out _ (below_drew (Below.refl _ _))).mono ?_
  rintro e w5 ⟨rfl, hb⟩
  refine ⟨_, rfl, ?_⟩
  have hbd := below_step (below_drew (Below.refl w3.heap.size w3)) hb
  have SH5 := Aside0.mk (SH3.out.below hbd)
  have QH5 := Aside0.mk (QH3.out.below hbd)
  have HB5 := Aside0.mk (HB3.out.trans (hbd.mono (Nat.le_trans BL.out HB3.out.size)))
  have HK5 := Aside0.mk (HK3.out.below hbd)
  have K45 := Aside0.mk (blk_below K43.out hbd)
  have K75 := Aside0.mk (blk_below K7.out hbd)
  have m1 := pw_cell_below hbd CF.out.1
  have m2 := pw_cell_below hbd CF.out.2.1
  have m3 := pw_cell_below hbd CF.out.2.2.1
  have m4 := pw_cell_below hbd CF.out.2.2.2.1
  have m5 := pw_cell_below hbd CF.out.2.2.2.2
  clear hb
  refine hK.out _ _ ⟨pw_cell_below hbd CE.out.1, pw_cell_below hbd CE.out.2.1, pw_cell_below hbd CE.out.2.2.1, pw_cell_below hbd CE.out.2.2.2.1, pw_cell_below hbd CE.out.2.2.2.2.1, pw_cell_below hbd CE.out.2.2.2.2.2.1, pw_cell_below hbd CE.out.2.2.2.2.2.2⟩ (fun hHeld => ?_)
  clear hK K
  refine norm_ (a' := ?_) ?_ ?_
  rotate_left
  ·
   show Act.put _ (some 46) _ = _
   simp only [Act.put, List.setIfInBounds_toArray, List.set_cons_zero, List.set_cons_succ, i64_w, i32_w]
   rfl
  refine pure_ (i := 16) (N := some 47) (v := ?_) (a' := ?_) (rowB 18 131071) rfl rfl (by kernel_rfl) (fun _ _ _ h => h) (Or.inl ⟨by rfl, ?_⟩) ?_ ?_
  rotate_left
  ·
   intro w'
   go_simp
   with_reducible rfl
  rotate_left
  ·
   simp only [Act.put, List.setIfInBounds_toArray, List.set_cons_zero, List.set_cons_succ, i64_w, i32_w]
   rfl
  refine pure_ (i := 17) (N := some 8) (v := ?_) (a' := ?_) (rowB 18 262143) rfl rfl (by kernel_rfl) (fun _ _ _ h => h) (Or.inl ⟨by rfl, ?_⟩) ?_ ?_
  rotate_left
  ·
   intro w'
   go_simp
   with_reducible rfl
  rotate_left
  ·
   simp only [Act.put, List.setIfInBounds_toArray, List.set_cons_zero, List.set_cons_succ, i64_w, i32_w]
   rfl
  refine done_ (by kernel_rfl) ?_
  go_upto_region 7 with fail
  (try simp only [Act.put, List.setIfInBounds_toArray, List.set_cons_zero, List.set_cons_succ])
  go_quiet (fail)
  generalize hwd : w5.drewN _ = w6
  have SH6 : Aside0 (SHas w6 B σ rs2) := ⟨by rw [← hwd]; exact SH5.out.drewN _⟩
  have QH6 : Aside0 (QHas w6 B gq vi (xs ++ ahQ t' p i)) := ⟨by rw [← hwd]; exact QH5.out.below (pw_below_drewN (Below.refl _ _) _)⟩
  have HB6 : Aside0 (Below B w w6) := ⟨by rw [← hwd]; exact pw_below_drewN HB5.out _⟩
  have HK6 : Aside0 (Kept w w6 (fun k => QBl gq vq k ∨ k = p.cb)) := ⟨by rw [← hwd]; exact HK5.out.drewN _⟩
  have K46 : Aside0 (w6.heap[g4]? = some (.cells #[.int .i64 (T : Int), .int .i64 (j : Int)] 57 (0, 0))) := ⟨by rw [← hwd]; exact K45.out⟩
  have K76 : Aside0 (w6.heap[g7]? = some (.cells #[.int .i64 (t' : Int), .int .i64 (i : Int)] 57 (0, 0))) := ⟨by rw [← hwd]; exact K75.out⟩
  clear hwd m1 m2 m3 m4 m5 hHeld hbd SH5 QH5 HB5 HK5 K45 K75 SH3 QH3 HB3 HK3 K43 K7 SH2 QH2 HB2 HK2 K42 SH QH HB HK K4 CE CF HCON
  have HUP := Aside0.mk (show updC c x h k = if k < 0 ∨ cost < k then cost else k by unfold updC; rw [← HD.out.2.2.1, ← HD.out.2.2.2.1])
  have AI : Aside0 (i < p.hx.length) := ⟨by have := NX.out.2.2; have := HL.out; omega⟩
  have e : ahQ t' p (i + 1) = ahQ t' p i ++ (if k < 0 then [((t' : Int), (i : Int))] else []) := by rw [HD.out.2.1]; rfl
  have HAQ := Aside0.mk e
  clear e
  by_cases hk0 : k < 0
  ·
   have d5 : decide (k < 0) = true := decide_eq_true hk0
   have e : updC c x h k = cost := by rw [HUP.out, if_pos (.inl hk0)]
   have HUC := Aside0.mk e
   have e : ahQ t' p (i + 1) = ahQ t' p i ++ [((t' : Int), (i : Int))] := by rw [HAQ.out, if_pos hk0]
   have HAE := Aside0.mk e
   have HNQ : Aside0 ((xs ++ ahQ t' p i).length ≤ 100000) := ⟨by rw [List.length_append]; have := ahQ_len t' p i; have := HN.out.1; have := NX.out.2.2; omega⟩
   have HVI : Aside0 (∀ y, QBl gq vi y → ((QBl gq vq y ∨ y = p.cb) ∨ w.heap.size ≤ y) ∧ y ≠ g4 ∧ y ≠ g7) := ⟨fun y hy => by
    have h7 := G7.out
    have h4 := G4.out
    rcases hy with rfl | hy
    ·
     exact ⟨.inl (.inl (.inl rfl)), by have := HGQ.out; omega, by have := GQ7.out; omega⟩
    ·
     have hl := QL7.out y hy
     rcases AT.out with ha | ⟨y2, ha, hb⟩
     ·
      have hq := HQL.out y (ha ▸ hy)
      exact ⟨.inl (.inl (.inr (ha ▸ hy))), by omega, by omega⟩
     ·
      rw [hy] at ha
      injection ha with ha
      exact ⟨.inr (by omega), by omega, by omega⟩⟩
   have z70 : w6.cell? ⟨g7, 0, none⟩ = some (.int .i64 (t' : Int)) := (blk_cell K76.out 0).trans rfl
   have z71 : w6.cell? ⟨g7, 1, none⟩ = some (.int .i64 (i : Int)) := (blk_cell K76.out 1).trans rfl
   clear hk0 e
   go_upto_region 11 with (first
    | (go_at_call 36; refine (queue_push_calls (t' : Int) (i : Int) gq vi B (xs ++ ahQ t' p i) _ QH6.out HNQ.out).mono ?_; rintro e w7 ⟨rfl, v7, hq7, hb7, hk7, hat7⟩; have SH7 := Aside0.mk (SH6.out.keptQ QH6.out hk7); have QH7 := Aside0.mk hq7; have HB7 := Aside0.mk (HB6.out.trans hb7); have HK7 := Aside0.mk (HK6.out.then_ hk7 (fun y hy => (HVI.out y hy).1)); have K47 := Aside0.mk (blk_kept K46.out hk7 (fun hy => (HVI.out _ hy).2.1 rfl)); have K77 := Aside0.mk (blk_kept K76.out hk7 (fun hy => (HVI.out _ hy).2.2 rfl)); have AT7 : Aside0 (v7.ownBlock = vq.ownBlock ∨ ∃ k, v7.ownBlock = some k ∧ g4 < k) := ⟨hat7.elim (fun ha => by rw [ha]; exact AT.out) (fun ⟨y, ha, hb⟩ => .inr ⟨y, ha, Nat.lt_of_lt_of_le (blk_lt K46.out) hb⟩)⟩; clear hq7 hb7 hk7 hat7)
    | fail)
   (try simp only [Act.put, List.setIfInBounds_toArray, List.set_cons_zero, List.set_cons_succ])
   have RW : Aside0 (RowAt w7 B p.cb (.slice (some ⟨p.cb, 0, none⟩) L p.cc) (ahC c x p i)) := ⟨by have h2 := (SH7.out.rows t' _ HE.out.2.1).2.2.2; unfold SRow.cv ahP at h2; simp only [ahC_len] at h2; rw [HL.out]; exact h2⟩
   obtain ⟨hBp, cellsp, hcp⟩ := RowAt.blk (show RowAt w7 B p.cb (.slice (some ⟨p.cb, 0, none⟩) (ahC c x p i).length p.cc) (ahC c x p i) by rw [ahC_len, ← HL.out]; exact RW.out) (by rw [ahC_len]; have := AI.out; omega)
   have HBP := Aside0.mk hBp
   have HCP := Aside0.mk hcp
   have CG : Aside0 (w7.cell? ⟨σ.gs, 1, none⟩ = some (.slice (some ⟨σ.bC, 0, none⟩) n σ.cC) ∧ w7.cell? ⟨σ.bC, t', none⟩ = some (.slice (some ⟨p.cb, 0, none⟩) L p.cc) ∧ w7.cell? ⟨g7, 0, none⟩ = some (.int .i64 (t' : Int)) ∧ w7.cell? ⟨g7, 1, none⟩ = some (.int .i64 (i : Int))) := ⟨by rw [← HE.out.2.2.2]; exact SH7.out.c1, by have h2 := SH7.out.crow HE.out.2.1; unfold SRow.cv ahP at h2; simp only [ahC_len] at h2; rw [HL.out]; exact h2, (blk_cell K77.out 0).trans rfl, (blk_cell K77.out 1).trans rfl⟩
   clear hBp hcp
   refine start_ (n := 13) (S := (fun w' => w'.cell? ⟨σ.gs, 1, none⟩ = some (.slice (some ⟨σ.bC, 0, none⟩) n σ.cC) ∧ w'.cell? ⟨σ.bC, t', none⟩ = some (.slice (some ⟨p.cb, 0, none⟩) L p.cc) ∧ w'.cell? ⟨g7, 0, none⟩ = some (.int .i64 (t' : Int)) ∧ w'.cell? ⟨g7, 1, none⟩ = some (.int .i64 (i : Int)))) (ds := [12]) (rowB 13 0) (by kernel_rfl) rfl rfl CG.out (fun hHeld => ?_)
   refine pure_ (i := 0) (N := some 72) (v := ?_) (a' := ?_) (rowB 13 1) rfl rfl (by kernel_rfl) (fun _ _ _ h => h) (Or.inl ⟨by rfl, ?_⟩) ?_ ?_
   rotate_left
   ·
    intro w'
    go_simp
    with_reducible rfl
   rotate_left
   ·
    simp only [Act.put, List.setIfInBounds_toArray, List.set_cons_zero, List.set_cons_succ, i64_w, i32_w]
    rfl
   refine pure_ (i := 1) (N := some 73) (v := ?_) (a' := ?_) (rowB 13 3) rfl rfl (by kernel_rfl) (fun _ _ _ h => h) (Or.inl ⟨by rfl, ?_⟩) ?_ ?_
   rotate_left
   ·
    intro w'
    go_simp
    with_reducible rfl
   rotate_left
   ·
    simp only [Act.put, List.setIfInBounds_toArray, List.set_cons_zero, List.set_cons_succ, i64_w, i32_w]
    rfl
   refine pure_ (i := 2) (N := some 74) (v := ?_) (a' := ?_) (rowB 13 7) rfl rfl (by kernel_rfl) (fun _ _ _ h => h) (Or.inl ⟨by rfl, ?_⟩) ?_ ?_
   rotate_left
   ·
    intro w'
    go_simp
    with_reducible rfl
   rotate_left
   ·
    simp only [Act.put, List.setIfInBounds_toArray, List.set_cons_zero, List.set_cons_succ, i64_w, i32_w]
    rfl
   refine take_ (i := 3) (N := some 75) (v := ?_) (a' := ?_) (rowB 13 15) rfl rfl (by kernel_rfl) (fun _ _ _ h => h) (Or.inl ⟨by rfl, ?_⟩) hHeld ?_ ?_
   rotate_left
   ·
    rintro w' ⟨s0, s1, s2, s3⟩
    go_simp
    with_reducible rfl
   rotate_left
   ·
    simp only [Act.put, List.setIfInBounds_toArray, List.set_cons_zero, List.set_cons_succ, i64_w, i32_w]
    rfl
   refine pure_ (i := 4) (N := some 76) (v := ?_) (a' := ?_) (rowB 13 31) rfl rfl (by kernel_rfl) (fun _ _ _ h => h) (Or.inl ⟨by rfl, ?_⟩) ?_ ?_
   rotate_left
   ·
    intro w'
    go_simp
    with_reducible rfl
   rotate_left
   ·
    simp only [Act.put, List.setIfInBounds_toArray, List.set_cons_zero, List.set_cons_succ, i64_w, i32_w]
    rfl
   refine take_ (i := 5) (N := some 77) (v := ?_) (a' := ?_) (rowB 13 63) rfl rfl (by kernel_rfl) (fun _ _ _ h => h) (Or.inl ⟨by rfl, ?_⟩) hHeld ?_ ?_
   rotate_left
   ·
    rintro w' ⟨s0, s1, s2, s3⟩
    go_simp
    with_reducible rfl
   rotate_left
   ·
    simp only [Act.put, List.setIfInBounds_toArray, List.set_cons_zero, List.set_cons_succ, i64_w, i32_w]
    rfl
   refine pure_ (i := 6) (N := some 78) (v := ?_) (a' := ?_) (rowB 13 127) rfl rfl (by kernel_rfl) (fun _ _ _ h => h) (Or.inl ⟨by rfl, ?_⟩) ?_ ?_
   rotate_left
   ·
    intro w'
    go_simp
    with_reducible rfl
   rotate_left
   ·
    simp only [Act.put, List.setIfInBounds_toArray, List.set_cons_zero, List.set_cons_succ, i64_w, i32_w]
    rfl
   refine take_ (i := 7) (N := some 79) (v := ?_) (a' := ?_) (rowB 13 255) rfl rfl (by kernel_rfl) (fun _ _ _ h => h) (Or.inl ⟨by rfl, ?_⟩) hHeld ?_ ?_
   rotate_left
   ·
    rintro w' ⟨s0, s1, s2, s3⟩
    go_simp
    with_reducible rfl
   rotate_left
   ·
    simp only [Act.put, List.setIfInBounds_toArray, List.set_cons_zero, List.set_cons_succ, i64_w, i32_w]
    rfl
   refine pure_ (i := 8) (N := some 80) (v := ?_) (a' := ?_) (rowB 13 511) rfl rfl (by kernel_rfl) (fun _ _ _ h => h) (Or.inl ⟨by rfl, ?_⟩) ?_ ?_
   rotate_left
   ·
    intro w'
    go_simp
    with_reducible rfl
   rotate_left
   ·
    simp only [Act.put, List.setIfInBounds_toArray, List.set_cons_zero, List.set_cons_succ, i64_w, i32_w]
    rfl
   refine take_ (i := 9) (N := some 81) (v := ?_) (a' := ?_) (rowB 13 1023) rfl rfl (by kernel_rfl) (fun _ _ _ h => h) (Or.inl ⟨by rfl, ?_⟩) hHeld ?_ ?_
   rotate_left
   ·
    rintro w' ⟨s0, s1, s2, s3⟩
    go_simp
    with_reducible rfl
   rotate_left
   ·
    simp only [Act.put, List.setIfInBounds_toArray, List.set_cons_zero, List.set_cons_succ, i64_w, i32_w]
    rfl
   refine pure_ (i := 10) (N := some 82) (v := ?_) (a' := ?_) (rowB 13 2047) rfl rfl (by kernel_rfl) (fun _ _ _ h => h) (Or.inl ⟨by rfl, ?_⟩) ?_ ?_
   rotate_left
   ·
    intro w'
    go_simp
    with_reducible rfl
   rotate_left
   ·
    simp only [Act.put, List.setIfInBounds_toArray, List.set_cons_zero, List.set_cons_succ, i64_w, i32_w]
    rfl
   refine pure_ (i := 11) (N := some 83) (v := ?_) (a' := ?_) (rowB 13 4095) rfl rfl (by kernel_rfl) (fun _ _ _ h => h) (Or.inl ⟨by rfl, ?_⟩) ?_ ?_
   rotate_left
   ·
    intro w'
    go_simp
    with_reducible rfl
   rotate_left
   ·
    simp only [Act.put, List.setIfInBounds_toArray, List.set_cons_zero, List.set_cons_succ, i64_w, i32_w]
    rfl
   refine last_ (i := 12) (N := none) (rowB 13 8191) rfl rfl (by kernel_rfl) (by decide) (fun K hK => ?_)
   refine int_store_step (by rfl) rfl (.tmp 83) (.tmp 82) rfl (by kernel_rfl) (g := p.cb) (B := B) (n := L) (c := p.cc) (ok := fun k => k = p.cb) (xs := ahC c x p i) i cost (Kd.R_drew RW.out) NX.out.2.2 rfl rfl ?_
   intro w8 hR8 hg8 hz8
   have hput := (SH7.out.below (below_drew (Below.refl _ _))).put HE.out.2.1 i cost (by have h2 : RowAt w8 B p.cb (.slice (some ⟨p.cb, 0, none⟩) L p.cc) ((ahC c x p i).set i cost) := hR8; rw [HL.out, ← ahC_len c x p i] at h2; exact h2) hg8
   have e : rs2.set t' { ahP c x p i with cs := (ahP c x p i).cs.set i cost } = rs.set t' (ahP c x p (i + 1)) := by rw [HE.out.1, List.set_set]; unfold ahP; simp only [ahC_succ c x p i AI.out, ← HD.out.1, ← HD.out.2.1, HUC.out]
   rw [e] at hput
   have SH8 := Aside0.mk hput
   have QH8 := Aside0.mk (QHas.grownInt (QH7.out.below (below_drew (Below.refl _ _))) (blk_drew HCP.out) hg8)
   have HB8 := Aside0.mk (below_grown (below_drew HB7.out) hg8 HBP.out (Nat.le_trans BL.out HB7.out.size))
   have HK8 := Aside0.mk (Kept.of_grown hg8 HK7.out.drew (fun y hy => .inl (.inr (Option.some.inj hy).symm)))
   have K48 := Aside0.mk (blk_grownInt (blk_drew K47.out) (blk_drew HCP.out) (by decide) hg8)
   clear hput e hR8 hg8 hz8
   refine hK.out _ _ ?_
   clear hK K
   refine done_ (by kernel_rfl) ?_
   go_wp2
   go_roundg (L - (i + 1))
   case measure => exact NX.out.1
   case rel => exact ⟨i + 1, v7, by simp, ⟨rfl, NX.out.2.1⟩, SH8, ⟨by rw [HAE.out, ← List.append_assoc]; exact QH8.out⟩, HB8, HK8, AT7, K48⟩
  have d5 : decide (k < 0) = false := decide_eq_false hk0
  have e : ahQ t' p (i + 1) = ahQ t' p i := by rw [HAQ.out, if_neg hk0, List.append_nil]
  have HAE := Aside0.mk e
  clear e
  by_cases hk1 : cost < k
  ·
   have d6 : decide (cost < k) = true := decide_eq_true hk1
   have e : updC c x h k = cost := by rw [HUP.out, if_pos (.inr hk1)]
   have HUC := Aside0.mk e
   clear hk0 hk1 e
   go_upto_region 11 with (first
    | fail)
   (try simp only [Act.put, List.setIfInBounds_toArray, List.set_cons_zero, List.set_cons_succ])
   have RW : Aside0 (RowAt w6 B p.cb (.slice (some ⟨p.cb, 0, none⟩) L p.cc) (ahC c x p i)) := ⟨by have h2 := (SH6.out.rows t' _ HE.out.2.1).2.2.2; unfold SRow.cv ahP at h2; simp only [ahC_len] at h2; rw [HL.out]; exact h2⟩
   obtain ⟨hBp, cellsp, hcp⟩ := RowAt.blk (show RowAt w6 B p.cb (.slice (some ⟨p.cb, 0, none⟩) (ahC c x p i).length p.cc) (ahC c x p i) by rw [ahC_len, ← HL.out]; exact RW.out) (by rw [ahC_len]; have := AI.out; omega)
   have HBP := Aside0.mk hBp
   have HCP := Aside0.mk hcp
   have CG : Aside0 (w6.cell? ⟨σ.gs, 1, none⟩ = some (.slice (some ⟨σ.bC, 0, none⟩) n σ.cC) ∧ w6.cell? ⟨σ.bC, t', none⟩ = some (.slice (some ⟨p.cb, 0, none⟩) L p.cc) ∧ w6.cell? ⟨g7, 0, none⟩ = some (.int .i64 (t' : Int)) ∧ w6.cell? ⟨g7, 1, none⟩ = some (.int .i64 (i : Int))) := ⟨by rw [← HE.out.2.2.2]; exact SH6.out.c1, by have h2 := SH6.out.crow HE.out.2.1; unfold SRow.cv ahP at h2; simp only [ahC_len] at h2; rw [HL.out]; exact h2, (blk_cell K76.out 0).trans rfl, (blk_cell K76.out 1).trans rfl⟩
   clear hBp hcp
   refine start_ (n := 13) (S := (fun w' => w'.cell? ⟨σ.gs, 1, none⟩ = some (.slice (some ⟨σ.bC, 0, none⟩) n σ.cC) ∧ w'.cell? ⟨σ.bC, t', none⟩ = some (.slice (some ⟨p.cb, 0, none⟩) L p.cc) ∧ w'.cell? ⟨g7, 0, none⟩ = some (.int .i64 (t' : Int)) ∧ w'.cell? ⟨g7, 1, none⟩ = some (.int .i64 (i : Int)))) (ds := [12]) (rowB 13 0) (by kernel_rfl) rfl rfl CG.out (fun hHeld => ?_)
   refine pure_ (i := 0) (N := some 72) (v := ?_) (a' := ?_) (rowB 13 1) rfl rfl (by kernel_rfl) (fun _ _ _ h => h) (Or.inl ⟨by rfl, ?_⟩) ?_ ?_
   rotate_left
   ·
    intro w'
    go_simp
    with_reducible rfl
   rotate_left
   ·
    simp only [Act.put, List.setIfInBounds_toArray, List.set_cons_zero, List.set_cons_succ, i64_w, i32_w]
    rfl
   refine pure_ (i := 1) (N := some 73) (v := ?_) (a' := ?_) (rowB 13 3) rfl rfl (by kernel_rfl) (fun _ _ _ h => h) (Or.inl ⟨by rfl, ?_⟩) ?_ ?_
   rotate_left
   ·
    intro w'
    go_simp
    with_reducible rfl
   rotate_left
   ·
    simp only [Act.put, List.setIfInBounds_toArray, List.set_cons_zero, List.set_cons_succ, i64_w, i32_w]
    rfl
   refine pure_ (i := 2) (N := some 74) (v := ?_) (a' := ?_) (rowB 13 7) rfl rfl (by kernel_rfl) (fun _ _ _ h => h) (Or.inl ⟨by rfl, ?_⟩) ?_ ?_
   rotate_left
   ·
    intro w'
    go_simp
    with_reducible rfl
   rotate_left
   ·
    simp only [Act.put, List.setIfInBounds_toArray, List.set_cons_zero, List.set_cons_succ, i64_w, i32_w]
    rfl
   refine take_ (i := 3) (N := some 75) (v := ?_) (a' := ?_) (rowB 13 15) rfl rfl (by kernel_rfl) (fun _ _ _ h => h) (Or.inl ⟨by rfl, ?_⟩) hHeld ?_ ?_
   rotate_left
   ·
    rintro w' ⟨s0, s1, s2, s3⟩
    go_simp
    with_reducible rfl
   rotate_left
   ·
    simp only [Act.put, List.setIfInBounds_toArray, List.set_cons_zero, List.set_cons_succ, i64_w, i32_w]
    rfl
   refine pure_ (i := 4) (N := some 76) (v := ?_) (a' := ?_) (rowB 13 31) rfl rfl (by kernel_rfl) (fun _ _ _ h => h) (Or.inl ⟨by rfl, ?_⟩) ?_ ?_
   rotate_left
   ·
    intro w'
    go_simp
    with_reducible rfl
   rotate_left
   ·
    simp only [Act.put, List.setIfInBounds_toArray, List.set_cons_zero, List.set_cons_succ, i64_w, i32_w]
    rfl
   refine take_ (i := 5) (N := some 77) (v := ?_) (a' := ?_) (rowB 13 63) rfl rfl (by kernel_rfl) (fun _ _ _ h => h) (Or.inl ⟨by rfl, ?_⟩) hHeld ?_ ?_
   rotate_left
   ·
    rintro w' ⟨s0, s1, s2, s3⟩
    go_simp
    with_reducible rfl
   rotate_left
   ·
    simp only [Act.put, List.setIfInBounds_toArray, List.set_cons_zero, List.set_cons_succ, i64_w, i32_w]
    rfl
   refine pure_ (i := 6) (N := some 78) (v := ?_) (a' := ?_) (rowB 13 127) rfl rfl (by kernel_rfl) (fun _ _ _ h => h) (Or.inl ⟨by rfl, ?_⟩) ?_ ?_
   rotate_left
   ·
    intro w'
    go_simp
    with_reducible rfl
   rotate_left
   ·
    simp only [Act.put, List.setIfInBounds_toArray, List.set_cons_zero, List.set_cons_succ, i64_w, i32_w]
    rfl
   refine take_ (i := 7) (N := some 79) (v := ?_) (a' := ?_) (rowB 13 255) rfl rfl (by kernel_rfl) (fun _ _ _ h => h) (Or.inl ⟨by rfl, ?_⟩) hHeld ?_ ?_
   rotate_left
   ·
    rintro w' ⟨s0, s1, s2, s3⟩
    go_simp
    with_reducible rfl
   rotate_left
   ·
    simp only [Act.put, List.setIfInBounds_toArray, List.set_cons_zero, List.set_cons_succ, i64_w, i32_w]
    rfl
   refine pure_ (i := 8) (N := some 80) (v := ?_) (a' := ?_) (rowB 13 511) rfl rfl (by kernel_rfl) (fun _ _ _ h => h) (Or.inl ⟨by rfl, ?_⟩) ?_ ?_
   rotate_left
   ·
    intro w'
    go_simp
    with_reducible rfl
   rotate_left
   ·
    simp only [Act.put, List.setIfInBounds_toArray, List.set_cons_zero, List.set_cons_succ, i64_w, i32_w]
    rfl
   refine take_ (i := 9) (N := some 81) (v := ?_) (a' := ?_) (rowB 13 1023) rfl rfl (by kernel_rfl) (fun _ _ _ h => h) (Or.inl ⟨by rfl, ?_⟩) hHeld ?_ ?_
   rotate_left
   ·
    rintro w' ⟨s0, s1, s2, s3⟩
    go_simp
    with_reducible rfl
   rotate_left
   ·
    simp only [Act.put, List.setIfInBounds_toArray, List.set_cons_zero, List.set_cons_succ, i64_w, i32_w]
    rfl
   refine pure_ (i := 10) (N := some 82) (v := ?_) (a' := ?_) (rowB 13 2047) rfl rfl (by kernel_rfl) (fun _ _ _ h => h) (Or.inl ⟨by rfl, ?_⟩) ?_ ?_
   rotate_left
   ·
    intro w'
    go_simp
    with_reducible rfl
   rotate_left
   ·
    simp only [Act.put, List.setIfInBounds_toArray, List.set_cons_zero, List.set_cons_succ, i64_w, i32_w]
    rfl
   refine pure_ (i := 11) (N := some 83) (v := ?_) (a' := ?_) (rowB 13 4095) rfl rfl (by kernel_rfl) (fun _ _ _ h => h) (Or.inl ⟨by rfl, ?_⟩) ?_ ?_
   rotate_left
   ·
    intro w'
    go_simp
    with_reducible rfl
   rotate_left
   ·
    simp only [Act.put, List.setIfInBounds_toArray, List.set_cons_zero, List.set_cons_succ, i64_w, i32_w]
    rfl
   refine last_ (i := 12) (N := none) (rowB 13 8191) rfl rfl (by kernel_rfl) (by decide) (fun K hK => ?_)
   refine int_store_step (by rfl) rfl (.tmp 83) (.tmp 82) rfl (by kernel_rfl) (g := p.cb) (B := B) (n := L) (c := p.cc) (ok := fun k => k = p.cb) (xs := ahC c x p i) i cost (Kd.R_drew RW.out) NX.out.2.2 rfl rfl ?_
   intro w8 hR8 hg8 hz8
   have hput := (SH6.out.below (below_drew (Below.refl _ _))).put HE.out.2.1 i cost (by have h2 : RowAt w8 B p.cb (.slice (some ⟨p.cb, 0, none⟩) L p.cc) ((ahC c x p i).set i cost) := hR8; rw [HL.out, ← ahC_len c x p i] at h2; exact h2) hg8
   have e : rs2.set t' { ahP c x p i with cs := (ahP c x p i).cs.set i cost } = rs.set t' (ahP c x p (i + 1)) := by rw [HE.out.1, List.set_set]; unfold ahP; simp only [ahC_succ c x p i AI.out, ← HD.out.1, ← HD.out.2.1, HUC.out]
   rw [e] at hput
   have SH8 := Aside0.mk hput
   have QH8 := Aside0.mk (QHas.grownInt (QH6.out.below (below_drew (Below.refl _ _))) (blk_drew HCP.out) hg8)
   have HB8 := Aside0.mk (below_grown (below_drew HB6.out) hg8 HBP.out (Nat.le_trans BL.out HB6.out.size))
   have HK8 := Aside0.mk (Kept.of_grown hg8 HK6.out.drew (fun y hy => .inl (.inr (Option.some.inj hy).symm)))
   have K48 := Aside0.mk (blk_grownInt (blk_drew K46.out) (blk_drew HCP.out) (by decide) hg8)
   clear hput e hR8 hg8 hz8
   refine hK.out _ _ ?_
   clear hK K
   refine done_ (by kernel_rfl) ?_
   go_wp2
   go_roundg (L - (i + 1))
   case measure => exact NX.out.1
   case rel => exact ⟨i + 1, vi, by simp, ⟨rfl, NX.out.2.1⟩, SH8, ⟨by rw [HAE.out]; exact QH8.out⟩, HB8, HK8, AT, K48⟩
  have d6 : decide (cost < k) = false := decide_eq_false hk1
  have e : updC c x h k = k := by rw [HUP.out, if_neg (by omega)]
  have e : ahP c x p (i + 1) = ahP c x p i := by unfold ahP; rw [ahC_same c x p i AI.out (by rw [← HD.out.1, ← HD.out.2.1]; exact e)]
  have HPE := Aside0.mk e
  clear hk0 hk1 e
  go_wp2
  go_roundg (L - (i + 1))
  case measure => exact NX.out.1
  case rel => exact ⟨i + 1, vi, by simp, ⟨rfl, NX.out.2.1⟩, ⟨by rw [HPE.out, ← HE.out.1]; exact SH6.out⟩, ⟨by rw [HAE.out]; exact QH6.out⟩, HB6, HK6, AT, K46⟩

end Go.Proofs.YtiagfjbngpbejaaDoor.Pure
namespace Go.Proofs.YtiagfjbngpbejaaDoor.Pure
set_option linter.unusedVariables false
set_option linter.unusedSimpArgs false
open Go Go.RowKit Go.Proofs.YtiagfjbngpbejaaDoor.PFnExactSingBest Go.Proofs.YtiagfjbngpbejaaDoorW.PrintWords Go.Proofs.YtiagfjbngpbejaaDoorW.PrintLast Go.Proofs.YtiagfjbngpbejaaDoorW.PrintMore

def stepRow (h h2 c2 : List Int) : Nat → List Int
 | 0 => List.replicate h.length (-1)
 | j + 1 => (List.range h.length).map (fun i => updC (c2.getD j 0) (h2.getD j 0) (h.getD i 0) ((stepRow h h2 c2 j).getD i 0))
def finC : List (List Int) → List Int
 | [] => []
 | h :: [] => List.replicate h.length 0
 | h :: h2 :: tl => stepRow h h2 (finC (h2 :: tl)) h2.length
def costAt (hs : List (List Int)) (t j i : Nat) : List Int := if t ≤ i then finC (hs.drop i) else if i + 1 = t then stepRow (hs.getD i []) (hs.getD t []) (finC (hs.drop t)) j else List.replicate (hs.getD i []).length (-1)
def rowQ (t : Nat) (j n : Nat) : List (Int × Int) := (List.range n).map (fun i => ((t : Int), ((j + i : Nat) : Int)))
def queAt (hs : List (List Int)) (t j : Nat) : List (Int × Int) := rowQ t j ((hs.getD t []).length - j) ++ (if j = 0 ∨ t = 0 then [] else rowQ (t - 1) 0 (hs.getD (t - 1) []).length)
def Rows (hs : List (List Int)) (rs : List SRow) (f : Nat → List Int) : Prop := rs.length = hs.length ∧ ∀ (i : Nat) (r : SRow), rs[i]? = some r → r.hx = hs.getD i [] ∧ r.cs = f i
def PInv (hs : List (List Int)) (rs : List SRow) (xs : List (Int × Int)) (t j : Nat) : Prop := t < hs.length ∧ j < (hs.getD t []).length ∧ Rows hs rs (costAt hs t j) ∧ xs = queAt hs t j
def PFin (hs : List (List Int)) (rs : List SRow) : Prop := Rows hs rs (fun i => finC (hs.drop i))
def singM (hs : List (List Int)) (t j : Nat) : Nat := t * 8 + ((hs.getD t []).length - j)
theorem stepRow_len (h h2 c2 : List Int) : ∀ j, (stepRow h h2 c2 j).length = h.length
 | 0 => by simp [stepRow]
 | j + 1 => by simp [stepRow]
theorem stepRow_zero (h h2 c2 : List Int) (i : Nat) (hi : i < h.length) : (stepRow h h2 c2 0).getD i 0 = -1 := by
 rw [List.getD_eq_getElem?_getD, stepRow, List.getElem?_replicate, if_pos hi]
 rfl
theorem stepRow_succ (h h2 c2 : List Int) (j i : Nat) (hi : i < h.length) : (stepRow h h2 c2 (j + 1)).getD i 0 = updC (c2.getD j 0) (h2.getD j 0) (h.getD i 0) ((stepRow h h2 c2 j).getD i 0) := by
 rw [List.getD_eq_getElem?_getD, stepRow, List.getElem?_map, List.getElem?_range hi]
 rfl
theorem updC_bound {c x h k b : Int} (hc : 0 ≤ c ∧ c ≤ b) (hk : k < 0 ∨ (0 ≤ k ∧ k ≤ b + 1)) : 0 ≤ updC c x h k ∧ updC c x h k ≤ b + 1 := by
 unfold updC
 split <;> split <;> omega
theorem stepRow_bound (h h2 c2 : List Int) (b : Int) : ∀ j, (∀ i, i < j → 0 ≤ c2.getD i 0 ∧ c2.getD i 0 ≤ b) → ∀ i, i < h.length → (j = 0 ∧ (stepRow h h2 c2 j).getD i 0 = -1) ∨ (0 ≤ (stepRow h h2 c2 j).getD i 0 ∧ (stepRow h h2 c2 j).getD i 0 ≤ b + 1)
 | 0, _, i, hi => .inl ⟨rfl, stepRow_zero h h2 c2 i hi⟩
 | j + 1, hb, i, hi => by
  refine .inr ?_
  rw [stepRow_succ h h2 c2 j i hi]
  refine updC_bound (hb j (by omega)) ?_
  rcases stepRow_bound h h2 c2 b j (fun i hi => hb i (by omega)) i hi with ⟨_, h1⟩ | h1
  ·
   exact .inl (by omega)
  ·
   exact .inr h1
theorem finC_len : ∀ (hs : List (List Int)) (h : List Int), (finC (h :: hs)).length = h.length
 | [], h => by simp [finC]
 | h2 :: tl, h => by simp [finC, stepRow_len]
theorem finC_bound : ∀ (hs : List (List Int)), (∀ h ∈ hs, h ≠ []) → ∀ h, (∀ i, i < h.length → 0 ≤ (finC (h :: hs)).getD i 0 ∧ (finC (h :: hs)).getD i 0 ≤ (hs.length : Int))
 | [], _, h, i, hi => by
  have e : (finC (h :: [])).getD i 0 = 0 := by
   rw [List.getD_eq_getElem?_getD, finC, List.getElem?_replicate, if_pos hi]
   rfl
  rw [e]
  simp
 | h2 :: tl, hne, h, i, hi => by
  have h2n : 0 < h2.length := List.length_pos_iff.2 (hne h2 (by simp))
  have ih := finC_bound tl (fun x hx => hne x (by simp [hx])) h2
  have := stepRow_bound h h2 (finC (h2 :: tl)) (tl.length : Int) h2.length (fun i hi => ih i hi) i hi
  rw [show finC (h :: h2 :: tl) = stepRow h h2 (finC (h2 :: tl)) h2.length from rfl]
  simp only [List.length_cons, Int.natCast_add, Int.natCast_one]
  rcases this with ⟨h0, _⟩ | h0
  ·
   omega
  ·
   exact h0
theorem drop_cons {α : Type} (hs : List α) (d : α) (t : Nat) (ht : t < hs.length) : hs.drop t = hs.getD t d :: hs.drop (t + 1) := by
 rw [List.getD_eq_getElem?_getD, List.getElem?_eq_getElem ht]
 exact List.drop_eq_getElem_cons ht
theorem finC_at (hs : List (List Int)) (hne : ∀ h ∈ hs, h ≠ []) (t : Nat) (ht : t < hs.length) : (finC (hs.drop t)).length = (hs.getD t []).length ∧ ∀ j, j < (hs.getD t []).length → 0 ≤ (finC (hs.drop t)).getD j 0 ∧ (finC (hs.drop t)).getD j 0 ≤ (hs.length : Int) := by
 rw [drop_cons hs [] t ht]
 refine ⟨finC_len _ _, fun j hj => ?_⟩
 have h := finC_bound (hs.drop (t + 1)) (fun x hx => hne x (List.mem_of_mem_drop hx)) (hs.getD t []) j hj
 have : (hs.drop (t + 1)).length ≤ hs.length := by rw [List.length_drop]; omega
 omega
theorem finC_step (hs : List (List Int)) (t : Nat) (ht : t + 1 < hs.length) : finC (hs.drop t) = stepRow (hs.getD t []) (hs.getD (t + 1) []) (finC (hs.drop (t + 1))) (hs.getD (t + 1) []).length := by
 rw [drop_cons hs [] t (by omega), drop_cons hs [] (t + 1) ht]
 rfl
theorem rowQ_cons (t j n : Nat) : rowQ t j (n + 1) = ((t : Int), (j : Int)) :: rowQ t (j + 1) n := by
 unfold rowQ
 rw [List.range_succ_eq_map, List.map_cons, List.map_map]
 congr 1
 refine List.map_congr_left (fun i _ => ?_)
 simp only [Function.comp]
 congr 2
 omega
theorem ahQ_neg (t : Nat) (p : SRow) : ∀ n, (∀ i, i < n → p.cs.getD i 0 < 0) → ahQ t p n = rowQ t 0 n
 | 0, _ => rfl
 | n + 1, h => by
  unfold ahQ
  rw [ahQ_neg t p n (fun i hi => h i (by omega)), if_pos (h n (by omega))]
  unfold rowQ
  rw [List.range_succ, List.map_append]
  simp
theorem ahQ_pos (t : Nat) (p : SRow) : ∀ n, (∀ i, i < n → 0 ≤ p.cs.getD i 0) → ahQ t p n = []
 | 0, _ => rfl
 | n + 1, h => by
  unfold ahQ
  rw [ahQ_pos t p n (fun i hi => h i (by omega)), if_neg (by have := h n (by omega); omega)]
  rfl
theorem ahC_full (c2 h2 : List Int) (h : List Int) (j : Nat) (p : SRow) (h1 : p.hx = h) (hc : p.cs = stepRow h h2 c2 j) : ahC (c2.getD j 0) (h2.getD j 0) p p.hx.length = stepRow h h2 c2 (j + 1) := by
 unfold ahC
 rw [stepRow, h1, hc]
 refine List.map_congr_left (fun i hi => ?_)
 rw [if_pos (List.mem_range.1 hi)]
theorem PInv.head {hs : List (List Int)} {rs : List SRow} {xs : List (Int × Int)} {a : Int × Int} {t j : Nat} (h : PInv hs rs (a :: xs) t j) : a = ((t : Int), (j : Int)) ∧ xs = rowQ t (j + 1) ((hs.getD t []).length - (j + 1)) ++ (if j = 0 ∨ t = 0 then [] else rowQ (t - 1) 0 (hs.getD (t - 1) []).length) := by
 obtain ⟨_, hj, _, hx⟩ := h
 unfold queAt at hx
 rw [show (hs.getD t []).length - j = ((hs.getD t []).length - (j + 1)) + 1 by omega, rowQ_cons] at hx
 injection hx with h1 h2
 exact ⟨h1, h2⟩
theorem costAt_hi {hs : List (List Int)} {t j i : Nat} (h : t ≤ i) : costAt hs t j i = finC (hs.drop i) := if_pos h
theorem costAt_mid {hs : List (List Int)} {t j i : Nat} (h : i + 1 = t) : costAt hs t j i = stepRow (hs.getD i []) (hs.getD t []) (finC (hs.drop t)) j := by
 unfold costAt
 rw [if_neg (by omega), if_pos h]
theorem costAt_lo {hs : List (List Int)} {t j i : Nat} (h : i + 1 < t) : costAt hs t j i = List.replicate (hs.getD i []).length (-1) := by
 unfold costAt
 rw [if_neg (by omega), if_neg (by omega)]
theorem Rows.congr {hs : List (List Int)} {rs : List SRow} {f g : Nat → List Int} (h : Rows hs rs f) (hfg : ∀ i, i < hs.length → f i = g i) : Rows hs rs g :=
 ⟨h.1, fun i r hr => ⟨(h.2 i r hr).1, by rw [(h.2 i r hr).2]; exact hfg i (by rw [← h.1]; exact (List.getElem?_eq_some_iff.1 hr).1)⟩⟩
/-- From the last place of a row to the first one of the row ahead. -/
theorem costAt_turn {hs : List (List Int)} {t : Nat} (ht : t + 1 < hs.length) (i : Nat) : costAt hs (t + 1) (hs.getD (t + 1) []).length i = costAt hs t 0 i := by
 rcases Nat.lt_or_ge t i with h | h
 ·
  rw [costAt_hi (by omega), costAt_hi (by omega)]
 ·
  rcases Nat.eq_or_lt_of_le h with h | h
  ·
   subst h
   rw [costAt_mid rfl, costAt_hi (Nat.le_refl _), finC_step hs i ht]
  ·
   rw [costAt_lo (by omega)]
   rcases Nat.eq_or_lt_of_le (show i + 1 ≤ t by omega) with h2 | h2
   ·
    rw [costAt_mid h2]
    rfl
   ·
    rw [costAt_lo h2]
/-- A place of the first row. -/
theorem PInv_zero {hs : List (List Int)} {rs : List SRow} {xs : List (Int × Int)} {a : Int × Int} {j : Nat} (h : PInv hs rs (a :: xs) 0 j) : (xs = [] ∧ PFin hs rs) ∨ (PInv hs rs xs 0 (j + 1) ∧ singM hs 0 (j + 1) < singM hs 0 j) := by
 have hh := h.head
 obtain ⟨ht, hj, hr, _⟩ := h
 have hr2 : ∀ j2, Rows hs rs (costAt hs 0 j2) := fun j2 => hr.congr (fun i _ => by rw [costAt_hi (Nat.zero_le _), costAt_hi (Nat.zero_le _)])
 have hxs := hh.2
 rw [if_pos (.inr rfl), List.append_nil] at hxs
 by_cases e : j + 1 < (hs.getD 0 []).length
 ·
  refine .inr ⟨⟨ht, e, hr2 _, ?_⟩, ?_⟩
  ·
   rw [hxs]
   unfold queAt
   rw [if_pos (.inr rfl), List.append_nil]
  ·
   unfold singM
   omega
 ·
  refine .inl ⟨?_, hr.congr (fun i _ => costAt_hi (Nat.zero_le _))⟩
  rw [hxs, show (hs.getD 0 []).length - (j + 1) = 0 by omega]
  rfl
/-- A place of a later row: what 'ahead' makes of the row ahead of it. -/
theorem PInv_succ {hs : List (List Int)} (hne : ∀ h ∈ hs, h ≠ []) (h7 : ∀ h ∈ hs, h.length ≤ 7) {rs : List SRow} {xs : List (Int × Int)} {a : Int × Int} {t j : Nat} (h : PInv hs rs (a :: xs) (t + 1) j) {r p : SRow} (hr : rs[t + 1]? = some r) (hp : rs[t]? = some p) :
 (0 ≤ r.cs.getD j 0 ∧ r.cs.getD j 0 ≤ (hs.length : Int)) ∧ ∃ t2 j2, PInv hs (rs.set t (ahP (r.cs.getD j 0) (r.hx.getD j 0) p p.hx.length)) (xs ++ ahQ t p p.hx.length) t2 j2 ∧ singM hs t2 j2 < singM hs (t + 1) j := by
 have hh := h.head
 obtain ⟨ht, hj, hR, _⟩ := h
 obtain ⟨r1, r2⟩ := hR.2 _ _ hr
 obtain ⟨p1, p2⟩ := hR.2 _ _ hp
 rw [costAt_hi (Nat.le_refl _)] at r2
 rw [costAt_mid rfl] at p2
 have hmem : hs.getD t [] ∈ hs := by
  rw [List.getD_eq_getElem?_getD, List.getElem?_eq_getElem (show t < hs.length by omega)]
  exact List.getElem_mem _
 have hpn : 0 < (hs.getD t []).length := List.length_pos_iff.2 (hne _ hmem)
 have hp7 := h7 _ hmem
 have hb := (finC_at hs hne (t + 1) ht).2
 have hset : ahP (r.cs.getD j 0) (r.hx.getD j 0) p p.hx.length = { p with cs := stepRow (hs.getD t []) (hs.getD (t + 1) []) (finC (hs.drop (t + 1))) (j + 1) } := by
  unfold ahP
  rw [r1, r2, ahC_full (finC (hs.drop (t + 1))) (hs.getD (t + 1) []) (hs.getD t []) j p p1 p2]
 have hrows : Rows hs (rs.set t (ahP (r.cs.getD j 0) (r.hx.getD j 0) p p.hx.length)) (costAt hs (t + 1) (j + 1)) := by
  rw [hset]
  refine ⟨by rw [List.length_set]; exact hR.1, fun i x hx => ?_⟩
  rcases set_row hx with ⟨rfl, rfl⟩ | ⟨hi, hx⟩
  ·
   exact ⟨p1, by rw [costAt_mid rfl]⟩
  ·
   obtain ⟨x1, x2⟩ := hR.2 i x hx
   refine ⟨x1, x2.trans ?_⟩
   rcases Nat.lt_or_ge t i with h | h
   ·
    rw [costAt_hi (by omega), costAt_hi (by omega)]
   ·
    rw [costAt_lo (by omega), costAt_lo (by omega)]
 have hq : xs ++ ahQ t p p.hx.length = rowQ (t + 1) (j + 1) ((hs.getD (t + 1) []).length - (j + 1)) ++ rowQ t 0 (hs.getD t []).length := by
  rw [hh.2, p1]
  by_cases hj0 : j = 0
  ·
   subst hj0
   rw [if_pos (.inl rfl), List.append_nil, ahQ_neg t p _ (fun i hi => by rw [p2, stepRow_zero _ _ _ i hi]; omega)]
  ·
   rw [if_neg (by omega), Nat.add_sub_cancel, List.append_assoc, ahQ_pos t p _ (fun i hi => ?_), List.append_nil]
   rw [p2]
   rcases stepRow_bound (hs.getD t []) (hs.getD (t + 1) []) (finC (hs.drop (t + 1))) (hs.length : Int) j (fun i hi => hb i (by omega)) i hi with ⟨h0, _⟩ | h0
   ·
    exact absurd h0 hj0
   ·
    exact h0.1
 refine ⟨by rw [r2]; exact hb j hj, ?_⟩
 by_cases e : j + 1 < (hs.getD (t + 1) []).length
 ·
  refine ⟨t + 1, j + 1, ⟨ht, e, hrows, ?_⟩, by unfold singM; omega⟩
  rw [hq]
  unfold queAt
  rw [if_neg (by omega), Nat.add_sub_cancel]
 ·
  have ej : j + 1 = (hs.getD (t + 1) []).length := by omega
  refine ⟨t, 0, ⟨by omega, hpn, ?_, ?_⟩, by unfold singM; omega⟩
  ·
   rw [ej] at hrows
   exact hrows.congr (fun i _ => costAt_turn ht i)
  ·
   rw [hq, ← ej, Nat.sub_self]
   unfold queAt
   rw [if_pos (.inl rfl), List.append_nil, Nat.sub_zero]
   rfl
theorem PInv.ne {hs : List (List Int)} {rs : List SRow} {xs : List (Int × Int)} {t j : Nat} (h : PInv hs rs xs t j) : ∃ ys, xs = ((t : Int), (j : Int)) :: ys := by
 obtain ⟨_, hj, _, hx⟩ := h
 unfold queAt at hx
 rw [show (hs.getD t []).length - j = ((hs.getD t []).length - (j + 1)) + 1 by omega, rowQ_cons] at hx
 exact ⟨_, hx⟩
theorem PInv.qlen {hs : List (List Int)} (h7 : ∀ h ∈ hs, h.length ≤ 7) {rs : List SRow} {xs : List (Int × Int)} {t j : Nat} (h : PInv hs rs xs t j) : xs.length ≤ 14 := by
 obtain ⟨ht, hj, _, hx⟩ := h
 have l7 : ∀ i, (hs.getD i []).length ≤ 7 := fun i => by
  rw [List.getD_eq_getElem?_getD]
  rcases Nat.lt_or_ge i hs.length with hi | hi
  ·
   rw [List.getElem?_eq_getElem hi]
   exact h7 _ (List.getElem_mem _)
  ·
   rw [List.getElem?_eq_none hi]
   simp
 have h1 := l7 t
 have h2 := l7 (t - 1)
 rw [hx]
 unfold queAt rowQ
 rw [List.length_append, List.length_map, List.length_range]
 split
 ·
  rw [List.length_nil]
  omega
 ·
  rw [List.length_map, List.length_range]
  omega

end Go.Proofs.YtiagfjbngpbejaaDoor.Pure
namespace Go.Proofs.YtiagfjbngpbejaaDoor.Pure
set_option linter.unusedVariables false
set_option linter.unusedSimpArgs false
open Go Go.RowKit Go.Proofs.YtiagfjbngpbejaaDoor.PFnExactSingBest Go.Proofs.YtiagfjbngpbejaaDoorW.PrintWords Go.Proofs.YtiagfjbngpbejaaDoorW.PrintLast Go.Proofs.YtiagfjbngpbejaaDoorW.PrintMore

structure SBld (W : World) (B gs : Nat) (tH tC vH vC : Value) (LH LC : List (List Value)) (rs : List SRow) : Prop where
 base : B ≤ gs
 top : W.heap[gs]? = some (.cells #[tH, tC] 60 (0, 0))
 rH : (Kd.raw 1).R 26 W B (fun _ => True) vH LH
 rC : (Kd.raw 1).R 26 W B (fun _ => True) vC LC
 ne : NeRow vH vC
 rows : ∀ (i : Nat) (r : SRow), rs[i]? = some r → r.cs.length = r.hx.length ∧ 0 < r.hx.length ∧ RowAt W B r.hb r.hv r.hx ∧ RowAt W B r.cb r.cv r.cs
 apart : ∀ (i j : Nat) (r r' : SRow), rs[i]? = some r → rs[j]? = some r' → r.hb ≠ r'.cb ∧ (r.cb = r'.cb → i = j)
theorem infoSl : (Tryd.prog.info? 26).map (fun i => (i.zero, i.size, i.bytes)) = some (some (.slice none 0 0), 1, 24) := by kernel_rfl
section
variable {W W' : World} {B gs : Nat} {tH tC vH vC : Value} {LH LC : List (List Value)} {rs : List SRow}
theorem SBld.below (h : SBld W B gs tH tC vH vC LH LC rs) (hb : Below W.heap.size W W') : SBld W' B gs tH tC vH vC LH LC rs :=
 ⟨h.base, blk_below h.top hb, Kd.R_below h.rH hb, Kd.R_below h.rC hb, h.ne, fun i r hr => ⟨(h.rows i r hr).1, (h.rows i r hr).2.1, (h.rows i r hr).2.2.1.below hb, (h.rows i r hr).2.2.2.below hb⟩, h.apart⟩
theorem SBld.blks (h : SBld W B gs tH tC vH vC LH LC rs) (i : Nat) (r : SRow) (hr : rs[i]? = some r) : (∃ cells : Array Value, W.heap[r.hb]? = some (.cells cells 3 (0, 0))) ∧ ∃ cells : Array Value, W.heap[r.cb]? = some (.cells cells 3 (0, 0)) := by
 obtain ⟨a1, a2, a3, a4⟩ := h.rows i r hr
 exact ⟨(RowAt.blk a3 a2).2, (RowAt.blk a4 (by omega)).2⟩
theorem SBld.lt (h : SBld W B gs tH tC vH vC LH LC rs) (i : Nat) (r : SRow) (hr : rs[i]? = some r) : r.hb < W.heap.size ∧ r.cb < W.heap.size := by
 obtain ⟨⟨_, h1⟩, ⟨_, h2⟩⟩ := h.blks i r hr
 exact ⟨blk_lt h1, blk_lt h2⟩
theorem raw_apart {v u : Value} {LV LU : List (List Value)} (hU : (Kd.raw 1).R 26 W B (fun _ => True) u LU) (hne : NeRow v u) (hg : W.grownBy W' v.ownBlock) : (Kd.raw 1).R 26 W' B (fun _ => True) u LU :=
 Kd.R_mono (Kd.R_grown (Kd.R_tight rfl hU) hg (fun k hk e => hne k e.symm hk.symm)) (fun _ _ => trivial)
theorem SBld.rowsG (h : SBld W B gs tH tC vH vC LH LC rs) {g : Option Nat} (hg : W.grownBy W' g) (hty : ∀ (k : Nat) (cells : Array Value), W.heap[k]? = some (.cells cells 3 (0, 0)) → some k ≠ g) : ∀ (i : Nat) (r : SRow), rs[i]? = some r → r.cs.length = r.hx.length ∧ 0 < r.hx.length ∧ RowAt W' B r.hb r.hv r.hx ∧ RowAt W' B r.cb r.cv r.cs := by
 intro i r hr
 obtain ⟨⟨c1, h1⟩, ⟨c2, h2⟩⟩ := h.blks i r hr
 obtain ⟨a1, a2, a3, a4⟩ := h.rows i r hr
 exact ⟨a1, a2, a3.grown hg (hty _ _ h1), a4.grown hg (hty _ _ h2)⟩
theorem SBld.appH (h : SBld W B gs tH tC vH vC LH LC rs) {v : Value} {x : List Value} (hR : (Kd.raw 1).R 26 W' B (fun _ => True) v (LH ++ [x])) (hg : W.grownBy W' vH.ownBlock) (hat : v.ownBlock = vH.ownBlock ∨ ∃ b, v.ownBlock = some b ∧ W.heap.size ≤ b) : SBld W' B gs tH tC v vC (LH ++ [x]) LC rs := by
 obtain ⟨inner, ho⟩ := Kd.R_own h.rC
 exact ⟨h.base, blk_grown h.top hg (Kd.R_ne h.rH h.top (by decide)), hR, raw_apart (LV := LH) h.rC h.ne hg, ne_append h.ne hat ho, h.rowsG hg (fun k cells hk => Kd.R_ne h.rH hk (by decide)), h.apart⟩
theorem SBld.appC (h : SBld W B gs tH tC vH vC LH LC rs) {v : Value} {x : List Value} (hR : (Kd.raw 1).R 26 W' B (fun _ => True) v (LC ++ [x])) (hg : W.grownBy W' vC.ownBlock) (hat : v.ownBlock = vC.ownBlock ∨ ∃ b, v.ownBlock = some b ∧ W.heap.size ≤ b) : SBld W' B gs tH tC vH v LH (LC ++ [x]) rs := by
 obtain ⟨inner, ho⟩ := Kd.R_own h.rH
 exact ⟨h.base, blk_grown h.top hg (Kd.R_ne h.rC h.top (by decide)), raw_apart (LV := LC) h.rH (ne_symm h.ne) hg, hR, ne_append' h.ne hat ho, h.rowsG hg (fun k cells hk => Kd.R_ne h.rC hk (by decide)), h.apart⟩
theorem SBld.setTop (h : SBld W B gs tH tC vH vC LH LC rs) {uH uC : Value} (hb : W'.heap[gs]? = some (.cells #[uH, uC] 60 (0, 0))) (hg : W.grownBy W' (some gs)) : SBld W' B gs uH uC vH vC LH LC rs := by
 have nH : some gs ≠ vH.ownBlock := Kd.R_ne h.rH h.top (by decide)
 have nC : some gs ≠ vC.ownBlock := Kd.R_ne h.rC h.top (by decide)
 refine ⟨h.base, hb, Kd.R_mono (Kd.R_grown (Kd.R_tight rfl h.rH) hg (fun k hk e => nH (e.symm.trans hk))) (fun _ _ => trivial), Kd.R_mono (Kd.R_grown (Kd.R_tight rfl h.rC) hg (fun k hk e => nC (e.symm.trans hk))) (fun _ _ => trivial), h.ne, h.rowsG hg (fun k cells hk e => ?_), h.apart⟩
 have e := Option.some.inj e
 subst e
 have h1 := h.top
 rw [hk] at h1
 injection h1 with h1
 injection h1 with _ h1
 revert h1
 decide
theorem SBld.addRow (h : SBld W B gs tH tC vH vC LH LC rs) (r : SRow) (h1 : r.cs.length = r.hx.length) (h2 : 0 < r.hx.length) (h3 : RowAt W B r.hb r.hv r.hx) (h4 : RowAt W B r.cb r.cv r.cs) {N : Nat} (hN : ∀ (i : Nat) (r' : SRow), rs[i]? = some r' → r'.hb < N ∧ r'.cb < N) (hh : N ≤ r.hb) (hc : N ≤ r.cb) (hne : r.hb ≠ r.cb) : SBld W B gs tH tC vH vC LH LC (rs ++ [r]) := by
 have split : ∀ (i : Nat) (x : SRow), (rs ++ [r])[i]? = some x → rs[i]? = some x ∨ (i = rs.length ∧ x = r) := by
  intro i x hx
  rcases Nat.lt_or_ge i rs.length with hi | hi
  ·
   rw [List.getElem?_append_left hi] at hx
   exact .inl hx
  ·
   rw [List.getElem?_append_right hi] at hx
   have : i - rs.length = 0 := by
    rcases Nat.eq_zero_or_pos (i - rs.length) with h0 | h0
    ·
     exact h0
    ·
     rw [List.getElem?_eq_none (by simp; omega)] at hx
     cases hx
   rw [this] at hx
   exact .inr ⟨by omega, (Option.some.inj hx).symm⟩
 refine ⟨h.base, h.top, h.rH, h.rC, h.ne, fun i x hx => ?_, fun i j x y hx hy => ?_⟩
 ·
  rcases split i x hx with hx | ⟨_, rfl⟩
  ·
   exact h.rows i x hx
  ·
   exact ⟨h1, h2, h3, h4⟩
 ·
  rcases split i x hx with hx2 | ⟨ei, rfl⟩ <;> rcases split j y hy with hy2 | ⟨ej, rfl⟩
  ·
   exact h.apart i j x y hx2 hy2
  ·
   exact ⟨by have := (hN i x hx2).1; omega, fun e => by have := (hN i x hx2).2; omega⟩
  ·
   exact ⟨by have := (hN j y hy2).2; omega, fun e => by have := (hN j y hy2).2; omega⟩
  ·
   exact ⟨hne, fun _ => by omega⟩
theorem raw_row {v : Value} {f : SRow → Value} (h : (Kd.raw 1).R 26 W B (fun _ => True) v (rs.map (fun r => [f r]))) (hn : 0 < rs.length) : ∃ b c, v = .slice (some ⟨b, 0, none⟩) rs.length c ∧ ∃ cells : Array Value, W.heap[b]? = some (.cells cells 26 (0, 0)) ∧ ∀ (i : Nat) (r : SRow), rs[i]? = some r → cells[i]? = some (f r) := by
 obtain ⟨b, c, rfl, _, _, cells, hc⟩ := Kd.R_form h (by rw [List.length_map]; exact hn)
 refine ⟨b, c, by rw [List.length_map], cells, hc, fun i r hr => ?_⟩
 obtain ⟨ad, ea, hcc⟩ := (Kd.R_reads' h).2.2.2.2 (by rw [List.length_map]; exact hn)
 obtain rfl := Option.some.inj ea
 obtain ⟨cs, hcl, hK, hx⟩ := hcc i [f r] (by rw [List.getElem?_map, hr]; rfl)
 have e : cs = [f r] := hK.1
 subst e
 have := hx 0 _ rfl
 rw [show (Kd.raw 1).sz = 1 from rfl, Nat.mul_one, Nat.add_zero, Addr.add_lit, Nat.zero_add, blk_cell hc] at this
 exact this
theorem SBld.has (h : SBld W B gs vH vC vH vC (rs.map (fun r => [r.hv])) (rs.map (fun r => [r.cv])) rs) (hn : 0 < rs.length) : ∃ σ : Sg, σ.gs = gs ∧ SHas W B σ rs := by
 obtain ⟨bH, cH, rfl, cellsH, h1, h2⟩ := raw_row h.rH hn
 obtain ⟨bC, cC, rfl, cellsC, h3, h4⟩ := raw_row h.rC hn
 exact ⟨⟨gs, bH, cH, bC, cC⟩, rfl, h.base, h.top, ⟨cellsH, cellsC, h1, h3, fun i r hr => ⟨h2 i r hr, h4 i r hr⟩⟩, h.rows, h.apart⟩
end

end Go.Proofs.YtiagfjbngpbejaaDoor.Pure
