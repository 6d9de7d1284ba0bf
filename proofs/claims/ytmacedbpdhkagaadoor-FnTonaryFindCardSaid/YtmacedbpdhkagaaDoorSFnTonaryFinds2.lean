/- Lemmas for the law FnTonaryFind. -/
import Derived.Sort.Walk0
import Derived.Lib.Strings
import Derived.BigRegion
import Derived.Deep.Slices
import Derived.Laws.CopyOwn
import Derived.Test.YtmacedbpdhkagaaDoorSFnTonaryFinds1
namespace Go.Proofs.YtmacedbpdhkagaaDoor.PFnTonaryFind
open Go.RowKit Go.Proofs.YtmacedbpdhkagaaDoorW.PrintWords Go.Proofs.YtmacedbpdhkagaaDoorW.PrintLast Go.Proofs.YtmacedbpdhkagaaDoorW.PrintMore
attribute [local go_sem] max2_int min2_int max_two min_two max_three min_three max_four min_four   -- for this text's walks alone
set_option linter.unusedVariables false
set_option linter.unusedSimpArgs false

def impl_MelodyValid.l0 : Nat → List (S90) → Int → Int → Option (Bool)
 | 0, _, _, _ => none
 | k + 1, x8, x9, x10 => if x10 < x9 then (if 0 ≤ x10 then (if x10 < (x8.length : Int) then ((impl_Tone_valid.f ((rd_T90 x8 x10).f0) ((rd_T90 x8 x10).f1)).bind fun t193 => (if t193 = true then (impl_MelodyValid.l0 k x8 x9 (wrap64 (x10 + 1))) else (some false))) else (none)) else (none)) else (some true)
def impl_MelodyValid.f (k : Nat) (l0 : List (S90)) : Option (Bool) := if (l0.length : Int) > 24 then (some false) else (impl_MelodyValid.l0 k l0 (l0.length : Int) 0)
set_option maxHeartbeats 8000000 in
set_option maxRecDepth 100000 in
theorem impl_MelodyValid.calls (k : Nat) (A0 : Option Addr) (c0 : Nat) (l0 : List (S90)) (r : Bool) (w : World) (hr0 : Kd.C k90 w A0 l0.length l0) (hc0 : l0.length ≤ c0) (h : impl_MelodyValid.f k l0 = some r) :
 Calls Tryd.prog 70 #[.slice A0 l0.length c0] w fun e w' => e = .returned (.bool r) ∧ Below w.heap.size w w' := by
 have hu90 := Tryd.underlying90; have HR0 := Z_.mk hr0; have HC0 := Z_.mk hc0; clear hr0 hc0; have HB := Z_.mk (Below.refl w.heap.size w); have H : (if (l0.length : Int) > 24 then (some false) else (impl_MelodyValid.l0 k l0 (l0.length : Int) 0)) = some r := h; clear h; by_cases c2 : (l0.length : Int) > 24
 ·
  rw [if_pos c2] at H; have c2b0 : decide (24 < (l0.length : Int)) = true := decide_eq_true c2; have c2b1 : decide (24 < l0.length) = true := decide_eq_true (by omega); clear c2; obtain rfl := Option.some.inj H; go_enter Tryd.func70, Tryd.ntmps70
  go_wp2; go_ret
  exact ⟨by first | rfl | (simp [zn_, zm_] <;> rfl) | (simp [*, zn_, zm_] <;> rfl), by repeat (first | exact HB.out | apply zc_ | apply za_ | apply zb_)⟩
 ·
  rw [if_neg c2] at H; have c2b0 : decide (24 < (l0.length : Int)) = false := decide_eq_false c2; have c2b1 : decide (24 < l0.length) = false := decide_eq_false (by omega); clear c2; have H' := Z_.mk H; clear H; go_enter Tryd.func70, Tryd.ntmps70
  go_wp2; go_loopg [10] k (fun kq v10 w' => ∃ (x10_1 : Int), v10 = .int .i64 x10_1 ∧ Z_ (impl_MelodyValid.l0 kq l0 (l0.length : Int) x10_1 = some r) ∧ Z_ (kq ≤ k) ∧ Z_ (Below w.heap.size w w'))
  case atStart => exact ⟨(0), (by first | rfl | (simp; done) | (simp [*]; done)), H', ⟨Nat.le_refl _⟩, ⟨by repeat (first | exact HB.out | apply zc_ | apply za_ | apply zb_)⟩⟩
  case round =>
   clear H'; try clear c2
   try clear c2b0
   try clear c2b1
   try clear p2
   obtain ⟨x10_1, rfl, HA, HK1, HB⟩ := hrel; cases gk with
   | zero => exact absurd HA.out (by simp [impl_MelodyValid.l0])
   | succ k1 =>
    have H := HA.out; clear HA; simp only [impl_MelodyValid.l0] at H; by_cases c3 : x10_1 < (l0.length : Int)
    ·
     rw [if_pos c3] at H; have c3b0 : decide (x10_1 < (l0.length : Int)) = true := decide_eq_true c3; clear c3; by_cases c4 : 0 ≤ x10_1
     ·
      rw [if_pos c4] at H; have c4b0 : decide (0 ≤ x10_1) = true := decide_eq_true c4; clear c4; by_cases c5 : x10_1 < (l0.length : Int)
      ·
       rw [if_pos c5] at H; have c5b0 : decide (x10_1 < (l0.length : Int)) = true := decide_eq_true c5; clear c5; replace H := Option.bind_eq_some_iff.mp H; obtain ⟨t193, A60, H⟩ := H; replace H : (if t193 = true then (impl_MelodyValid.l0 k1 l0 (l0.length : Int) (wrap64 (x10_1 + 1))) else (some false)) = some r := H; have A6 := Z_.mk A60; clear A60; by_cases c7 : t193 = true
       ·
        subst c7; have H1 : (impl_MelodyValid.l0 k1 l0 (l0.length : Int) (wrap64 (x10_1 + 1))) = some r := by rw [if_pos rfl] at H; exact H
        clear H; have H := H1; clear H1; have H' := Z_.mk H; clear H; have p191 : 0 ≤ (x10_1 : Int) := of_decide_eq_true (by first | (with_reducible assumption) | assumption); have q191 : x10_1 < (l0.length : Int) := of_decide_eq_true (by first | (with_reducible assumption) | assumption); obtain ⟨ad191, e191, hx191_0, hx191_1⟩ := at_T90 HR0.out x10_1 p191 q191; cases e191; replace hx191_0 := (HB.out.cell (bl_ w _ hx191_0)).trans hx191_0; replace hx191_1 := (HB.out.cell (bl_ w _ hx191_1)).trans hx191_1; replace p191 := eq_true p191; replace q191 := eq_true q191; go_wp2_with (first | ((with_reducible refine zr_ (N := 4) rfl ?_); refine box_event ?hg (N := 4) ?hd (cs := #[.int .i64 0, .bool false]) (t := 90) ?hr ?_; (case hd => rfl); (case hg => rfl); (case hr => first | (go_simp; done) | (go_simp; rfl)); intro gb192 hg w8 hbox hb; have n0_ := Z_.mk (ze_ (by repeat (first | exact HB.out | apply zc_ | apply za_ | apply zb_)) hb); have n1_ := Z_.mk (hbox); have n2_ := Z_.mk ((by rw [hg]; exact (zj_ (by repeat (first | exact HB.out | apply zc_ | apply za_ | apply zb_))) : w.heap.size ≤ gb192)); have n3_ := Z_.mk ((by rw [hg]; exact (zj_ (by repeat (first | exact HB.out | apply zc_ | apply za_ | apply zb_))) : w.heap.size ≤ gb192)); clear HB; have HB := n0_; have BK192 := n1_; have GW192 := n2_; have GE192 := n3_; clear n0_ n1_ n2_ n3_; clear hb hbox hg; have hcz9_0 : w8.cell? ⟨gb192, 0, none⟩ = some (.int .i64 0) := (zg_ BK192.out 0).trans rfl; have hcz9_1 : w8.cell? ⟨gb192, 1, none⟩ = some (.bool false) := (zg_ BK192.out 1).trans rfl; have hfz9_0 := zi_ BK192.out 0; have hfz9_1 := zi_ BK192.out 1) | ((with_reducible refine zp_ (f := 96) rfl ?_); refine goesL_ (some 15) rfl rfl Tryd.func96 (by kernel_rfl) rfl #[.agg #[.int .i64 ((rd_T90 l0 x10_1).f0), .bool ((rd_T90 l0 x10_1).f1)]] rfl (by (try simp only [List.map_toArray, List.map_cons, List.map_nil]); first | done | rfl | (simp only [List.length_drop, List.length_take]; rfl)) ?_; (with_reducible refine (impl_Tone_valid.calls ((rd_T90 l0 x10_1).f0) ((rd_T90 l0 x10_1).f1) true _ A6.out).mono ?_); rintro e w10 ⟨rfl, hb⟩; refine ⟨_, rfl, ?_⟩; have n0_ := Z_.mk (zq_ (g := gb192) (o := .cells #[.int .i64 ((rd_T90 l0 x10_1).f0), .bool ((rd_T90 l0 x10_1).f1)] 90 (0, 0)) (by (with_reducible repeat (first | refine zf_ ?_ _ | refine zh_ ?_ | refine blk_alloc ?_ _)); refine blk_put (cs := #[.int .i64 ((rd_T90 l0 x10_1).f0), .bool false]) ?_ 1 _ rfl; (with_reducible repeat (first | refine zf_ ?_ _ | refine zh_ ?_ | refine blk_alloc ?_ _)); refine blk_put (cs := #[.int .i64 0, .bool false]) ?_ 0 _ rfl; (with_reducible repeat (first | refine zf_ ?_ _ | refine zh_ ?_ | refine blk_alloc ?_ _)); exact BK192.out) hb); have n1_ := Z_.mk (ze_ (by repeat (first | exact HB.out | apply zc_ | apply za_ | apply zb_ | refine zd_ ?_ GE192.out)) hb); clear BK192; clear HB; have BK192 := n0_; have HB := n1_; clear n0_ n1_))
        go_roundg k1
        case measure => have := HK1.out; omega
        case rel => exact ⟨(wrap64 (x10_1 + 1)), (by first | rfl | (simp; done) | (simp [*]; done)), H', ⟨by have := HK1.out; omega⟩, ⟨by repeat (first | exact HB.out | apply zc_ | apply za_ | apply zb_ | refine zd_ ?_ GE192.out)⟩⟩
       ·
        replace c7 := Bool.eq_false_iff.mpr c7; subst c7; have H1 : (some false) = some r := by rw [if_neg (show ¬ (false = true) by decide)] at H; exact H
        clear H; have H := H1; clear H1; obtain rfl := Option.some.inj H; have p191 : 0 ≤ (x10_1 : Int) := of_decide_eq_true (by first | (with_reducible assumption) | assumption); have q191 : x10_1 < (l0.length : Int) := of_decide_eq_true (by first | (with_reducible assumption) | assumption); obtain ⟨ad191, e191, hx191_0, hx191_1⟩ := at_T90 HR0.out x10_1 p191 q191; cases e191; replace hx191_0 := (HB.out.cell (bl_ w _ hx191_0)).trans hx191_0; replace hx191_1 := (HB.out.cell (bl_ w _ hx191_1)).trans hx191_1; replace p191 := eq_true p191; replace q191 := eq_true q191; go_wp2_with (first | ((with_reducible refine zr_ (N := 4) rfl ?_); refine box_event ?hg (N := 4) ?hd (cs := #[.int .i64 0, .bool false]) (t := 90) ?hr ?_; (case hd => rfl); (case hg => rfl); (case hr => first | (go_simp; done) | (go_simp; rfl)); intro gb192 hg w11 hbox hb; have n0_ := Z_.mk (ze_ (by repeat (first | exact HB.out | apply zc_ | apply za_ | apply zb_)) hb); have n1_ := Z_.mk (hbox); have n2_ := Z_.mk ((by rw [hg]; exact (zj_ (by repeat (first | exact HB.out | apply zc_ | apply za_ | apply zb_))) : w.heap.size ≤ gb192)); have n3_ := Z_.mk ((by rw [hg]; exact (zj_ (by repeat (first | exact HB.out | apply zc_ | apply za_ | apply zb_))) : w.heap.size ≤ gb192)); clear HB; have HB := n0_; have BK192 := n1_; have GW192 := n2_; have GE192 := n3_; clear n0_ n1_ n2_ n3_; clear hb hbox hg; have hcz12_0 : w11.cell? ⟨gb192, 0, none⟩ = some (.int .i64 0) := (zg_ BK192.out 0).trans rfl; have hcz12_1 : w11.cell? ⟨gb192, 1, none⟩ = some (.bool false) := (zg_ BK192.out 1).trans rfl; have hfz12_0 := zi_ BK192.out 0; have hfz12_1 := zi_ BK192.out 1) | ((with_reducible refine zp_ (f := 96) rfl ?_); refine goesL_ (some 15) rfl rfl Tryd.func96 (by kernel_rfl) rfl #[.agg #[.int .i64 ((rd_T90 l0 x10_1).f0), .bool ((rd_T90 l0 x10_1).f1)]] rfl (by (try simp only [List.map_toArray, List.map_cons, List.map_nil]); first | done | rfl | (simp only [List.length_drop, List.length_take]; rfl)) ?_; (with_reducible refine (impl_Tone_valid.calls ((rd_T90 l0 x10_1).f0) ((rd_T90 l0 x10_1).f1) false _ A6.out).mono ?_); rintro e w13 ⟨rfl, hb⟩; refine ⟨_, rfl, ?_⟩; have n0_ := Z_.mk (zq_ (g := gb192) (o := .cells #[.int .i64 ((rd_T90 l0 x10_1).f0), .bool ((rd_T90 l0 x10_1).f1)] 90 (0, 0)) (by (with_reducible repeat (first | refine zf_ ?_ _ | refine zh_ ?_ | refine blk_alloc ?_ _)); refine blk_put (cs := #[.int .i64 ((rd_T90 l0 x10_1).f0), .bool false]) ?_ 1 _ rfl; (with_reducible repeat (first | refine zf_ ?_ _ | refine zh_ ?_ | refine blk_alloc ?_ _)); refine blk_put (cs := #[.int .i64 0, .bool false]) ?_ 0 _ rfl; (with_reducible repeat (first | refine zf_ ?_ _ | refine zh_ ?_ | refine blk_alloc ?_ _)); exact BK192.out) hb); have n1_ := Z_.mk (ze_ (by repeat (first | exact HB.out | apply zc_ | apply za_ | apply zb_ | refine zd_ ?_ GE192.out)) hb); clear BK192; clear HB; have BK192 := n0_; have HB := n1_; clear n0_ n1_))
        go_ret
        exact ⟨by first | rfl | (simp [zn_, zm_] <;> rfl) | (simp [*, zn_, zm_] <;> rfl), by repeat (first | exact HB.out | apply zc_ | apply za_ | apply zb_ | refine zd_ ?_ GE192.out)⟩
      ·
       rw [if_neg c5] at H; exact absurd H (by simp)
     ·
      rw [if_neg c4] at H; exact absurd H (by simp)
    ·
     rw [if_neg c3] at H; have c3b0 : decide (x10_1 < (l0.length : Int)) = false := decide_eq_false c3; clear c3; obtain rfl := Option.some.inj H; go_wp2; go_ret
     exact ⟨by first | rfl | (simp [zn_, zm_] <;> rfl) | (simp [*, zn_, zm_] <;> rfl), by repeat (first | exact HB.out | apply zc_ | apply za_ | apply zb_)⟩

end Go.Proofs.YtmacedbpdhkagaaDoor.PFnTonaryFind
namespace Go.Proofs.YtmacedbpdhkagaaDoor.PFnTonaryFind
open Go.RowKit Go.Proofs.YtmacedbpdhkagaaDoorW.PrintWords Go.Proofs.YtmacedbpdhkagaaDoorW.PrintLast Go.Proofs.YtmacedbpdhkagaaDoorW.PrintMore
attribute [local go_sem] max2_int min2_int max_two min_two max_three min_three max_four min_four   -- for this text's walks alone
set_option linter.unusedVariables false
set_option linter.unusedSimpArgs false

def impl_equalNumbers.l0 : Nat → List Int → List Int → Int → Int → Option (Bool)
 | 0, _, _, _, _ => none
 | k + 1, x1, x12, x13, x14 => if x14 < x13 then (if 0 ≤ x14 then (if x14 < (x12.length : Int) then (if x14 < (x1.length : Int) then (if (rd x12 x14) = (rd x1 x14) then (impl_equalNumbers.l0 k x1 x12 x13 (wrap64 (x14 + 1))) else (some false)) else (none)) else (none)) else (none)) else (some true)
def impl_equalNumbers.f (k : Nat) (l0 : List Int) (l1 : List Int) : Option (Bool) := if (l0.length : Int) = (l1.length : Int) then (impl_equalNumbers.l0 k l1 l0 (l0.length : Int) 0) else (some false)
set_option maxHeartbeats 8000000 in
set_option maxRecDepth 100000 in
theorem impl_equalNumbers.calls (k : Nat) (A0 : Option Addr) (c0 : Nat) (l0 : List Int) (A1 : Option Addr) (c1 : Nat) (l1 : List Int) (r : Bool) (w : World) (hr0 : Kd.C (Kd.int .i64) w A0 l0.length l0) (hc0 : l0.length ≤ c0) (hr1 : Kd.C (Kd.int .i64) w A1 l1.length l1) (hc1 : l1.length ≤ c1) (h : impl_equalNumbers.f k l0 l1 = some r) :
 Calls Tryd.prog 76 #[.slice A0 l0.length c0, .slice A1 l1.length c1] w fun e w' => e = .returned (.bool r) ∧ Drawn0 w w' := by
 have HR0 := Z_.mk hr0; have HC0 := Z_.mk hc0; clear hr0 hc0; have HR1 := Z_.mk hr1; have HC1 := Z_.mk hc1; clear hr1 hc1; have H : (if (l0.length : Int) = (l1.length : Int) then (impl_equalNumbers.l0 k l1 l0 (l0.length : Int) 0) else (some false)) = some r := h; clear h; by_cases c3 : (l0.length : Int) = (l1.length : Int)
 ·
  rw [if_pos c3] at H; have c3b0 : ((l0.length : Int) == (l1.length : Int)) = true := beq_iff_eq.mpr c3; have c3b1 : ((l0.length : Int) != (l1.length : Int)) = false := bne_eq_false_iff_eq.mpr c3; have c3b2 : (l0.length == l1.length) = true := by first | simpa using c3 | (simp at c3 ⊢; omega)
  clear c3; have H' := Z_.mk H; clear H; go_enter Tryd.func76, Tryd.ntmps76
  go_wp2; go_loopg [14] k (fun kq v14 w' => ∃ (x14_1 : Int), v14 = .int .i64 x14_1 ∧ Z_ (impl_equalNumbers.l0 kq l1 l0 (l0.length : Int) x14_1 = some r) ∧ Z_ (kq ≤ k) ∧ Drawn0 w w')
  case atStart => exact ⟨(0), (by first | rfl | (simp; done) | (simp [*]; done)), H', ⟨Nat.le_refl _⟩, by repeat (first | exact Drawn0.refl _ | apply Drawn0.step)⟩
  case round =>
   clear H'; try clear c1
   try clear p2
   try clear c3
   try clear c3b0
   try clear c3b1
   try clear c3b2
   obtain ⟨x14_1, rfl, HA, HK1, ⟨m1, rfl⟩⟩ := hrel; cases gk with
   | zero => exact absurd HA.out (by simp [impl_equalNumbers.l0])
   | succ k1 =>
    have H := HA.out; clear HA; simp only [impl_equalNumbers.l0] at H; by_cases c4 : x14_1 < (l0.length : Int)
    ·
     rw [if_pos c4] at H; have c4b0 : decide (x14_1 < (l0.length : Int)) = true := decide_eq_true c4; clear c4; by_cases c5 : 0 ≤ x14_1
     ·
      rw [if_pos c5] at H; have c5b0 : decide (0 ≤ x14_1) = true := decide_eq_true c5; clear c5; by_cases c6 : x14_1 < (l0.length : Int)
      ·
       rw [if_pos c6] at H; have c6b0 : decide (x14_1 < (l0.length : Int)) = true := decide_eq_true c6; clear c6; by_cases c7 : x14_1 < (l1.length : Int)
       ·
        rw [if_pos c7] at H; have c7b0 : decide (x14_1 < (l1.length : Int)) = true := decide_eq_true c7; clear c7; by_cases c8 : (rd l0 x14_1) = (rd l1 x14_1)
        ·
         rw [if_pos c8] at H; have c8b0 : ((rd l0 x14_1) == (rd l1 x14_1)) = true := beq_iff_eq.mpr c8; have c8b1 : ((rd l0 x14_1) != (rd l1 x14_1)) = false := bne_eq_false_iff_eq.mpr c8; clear c8; have H' := Z_.mk H; clear H; have p206 : 0 ≤ (x14_1 : Int) := of_decide_eq_true (by first | (with_reducible assumption) | assumption); have q206 : x14_1 < (l0.length : Int) := of_decide_eq_true (by first | (with_reducible assumption) | assumption); obtain ⟨ad206, e206, hx206_0⟩ := Kd.at_int HR0.out x14_1 p206 q206; cases e206; replace p206 := eq_true p206; replace q206 := eq_true q206; have p207 : 0 ≤ (x14_1 : Int) := of_decide_eq_true (by first | (with_reducible assumption) | assumption); have q207 : x14_1 < (l1.length : Int) := of_decide_eq_true (by first | (with_reducible assumption) | assumption); obtain ⟨ad207, e207, hx207_0⟩ := Kd.at_int HR1.out x14_1 p207 q207; cases e207; replace p207 := eq_true p207; replace q207 := eq_true q207; go_wp2; go_roundg k1
         case measure => have := HK1.out; omega
         case rel => exact ⟨(wrap64 (x14_1 + 1)), (by first | rfl | (simp; done) | (simp [*]; done)), H', ⟨by have := HK1.out; omega⟩, by repeat (first | exact Drawn0.refl _ | apply Drawn0.step)⟩
        ·
         rw [if_neg c8] at H; have c8b0 : ((rd l0 x14_1) == (rd l1 x14_1)) = false := beq_eq_false_iff_ne.mpr c8; have c8b1 : ((rd l0 x14_1) != (rd l1 x14_1)) = true := bne_iff_ne.mpr c8; obtain rfl := Option.some.inj H; have p206 : 0 ≤ (x14_1 : Int) := of_decide_eq_true (by first | (with_reducible assumption) | assumption); have q206 : x14_1 < (l0.length : Int) := of_decide_eq_true (by first | (with_reducible assumption) | assumption); obtain ⟨ad206, e206, hx206_0⟩ := Kd.at_int HR0.out x14_1 p206 q206; cases e206; replace p206 := eq_true p206; replace q206 := eq_true q206; have p207 : 0 ≤ (x14_1 : Int) := of_decide_eq_true (by first | (with_reducible assumption) | assumption); have q207 : x14_1 < (l1.length : Int) := of_decide_eq_true (by first | (with_reducible assumption) | assumption); obtain ⟨ad207, e207, hx207_0⟩ := Kd.at_int HR1.out x14_1 p207 q207; cases e207; replace p207 := eq_true p207; replace q207 := eq_true q207; go_wp2; go_ret
         exact ⟨by first | rfl | (simp; done) | (simp [*]; done), by repeat (first | exact Drawn0.refl _ | apply Drawn0.step)⟩
       ·
        rw [if_neg c7] at H; exact absurd H (by simp)
      ·
       rw [if_neg c6] at H; exact absurd H (by simp)
     ·
      rw [if_neg c5] at H; exact absurd H (by simp)
    ·
     rw [if_neg c4] at H; have c4b0 : decide (x14_1 < (l0.length : Int)) = false := decide_eq_false c4; clear c4; obtain rfl := Option.some.inj H; go_wp2; go_ret
     exact ⟨by first | rfl | (simp; done) | (simp [*]; done), by repeat (first | exact Drawn0.refl _ | apply Drawn0.step)⟩
 ·
  rw [if_neg c3] at H; have c3b0 : ((l0.length : Int) == (l1.length : Int)) = false := beq_eq_false_iff_ne.mpr c3; have c3b1 : ((l0.length : Int) != (l1.length : Int)) = true := bne_iff_ne.mpr c3; have c3b2 : (l0.length == l1.length) = false := by first | simpa using c3 | (simp at c3 ⊢; omega)
  obtain rfl := Option.some.inj H; go_enter Tryd.func76, Tryd.ntmps76
  go_wp2; go_ret
  exact ⟨by first | rfl | (simp; done) | (simp [*]; done), by repeat (first | exact Drawn0.refl _ | apply Drawn0.step)⟩

end Go.Proofs.YtmacedbpdhkagaaDoor.PFnTonaryFind
namespace Go.Proofs.YtmacedbpdhkagaaDoor.PFnTonaryFind
open Go.RowKit Go.Proofs.YtmacedbpdhkagaaDoorW.PrintWords Go.Proofs.YtmacedbpdhkagaaDoorW.PrintLast Go.Proofs.YtmacedbpdhkagaaDoorW.PrintMore
attribute [local go_sem] max2_int min2_int max_two min_two max_three min_three max_four min_four   -- for this text's walks alone
set_option linter.unusedVariables false
set_option linter.unusedSimpArgs false

def impl_ToneSteps.f (a0_0 : Int) (a0_1 : Bool) (a1_0 : Int) (a1_1 : Bool) : Option (Int × Bool) := (impl_Tone_valid.f a0_0 a0_1).bind fun t215 => (if t215 = true then ((impl_Tone_valid.f a1_0 a1_1).bind fun t216 => (if t216 = true then (some (wrap64 (a1_0 - a0_0), true)) else (some (0, false)))) else (some (0, false)))
set_option maxHeartbeats 8000000 in
set_option maxRecDepth 100000 in
theorem impl_ToneSteps.calls (a0_0 : Int) (a0_1 : Bool) (a1_0 : Int) (a1_1 : Bool) (r1 : Int) (r2 : Bool) (w : World) (h : impl_ToneSteps.f a0_0 a0_1 a1_0 a1_1 = some (r1, r2)) :
 Calls Tryd.prog 104 #[.agg #[.int .i64 a0_0, .bool a0_1], .agg #[.int .i64 a1_0, .bool a1_1]] w fun e w' => e = .returned (.tuple #[.int .i64 r1, .bool r2]) ∧ Below w.heap.size w w' := by
 have hu90 := Tryd.underlying90; have HB := Z_.mk (Below.refl w.heap.size w); have H : ((impl_Tone_valid.f a0_0 a0_1).bind fun t215 => (if t215 = true then ((impl_Tone_valid.f a1_0 a1_1).bind fun t216 => (if t216 = true then (some (wrap64 (a1_0 - a0_0), true)) else (some (0, false)))) else (some (0, false)))) = some (r1, r2) := h; clear h; replace H := Option.bind_eq_some_iff.mp H; obtain ⟨t215, A30, H⟩ := H; replace H : (if t215 = true then ((impl_Tone_valid.f a1_0 a1_1).bind fun t216 => (if t216 = true then (some (wrap64 (a1_0 - a0_0), true)) else (some (0, false)))) else (some (0, false))) = some (r1, r2) := H; have A3 := Z_.mk A30; clear A30; by_cases c4 : t215 = true
 ·
  subst c4; have H1 : ((impl_Tone_valid.f a1_0 a1_1).bind fun t216 => (if t216 = true then (some (wrap64 (a1_0 - a0_0), true)) else (some (0, false)))) = some (r1, r2) := by rw [if_pos rfl] at H; exact H
  clear H; have H := H1; clear H1; replace H := Option.bind_eq_some_iff.mp H; obtain ⟨t216, A50, H⟩ := H; replace H : (if t216 = true then (some (wrap64 (a1_0 - a0_0), true)) else (some (0, false))) = some (r1, r2) := H; have A5 := Z_.mk A50; clear A50; by_cases c6 : t216 = true
  ·
   subst c6; have H1 : (some (wrap64 (a1_0 - a0_0), true)) = some (r1, r2) := by rw [if_pos rfl] at H; exact H
   clear H; have H := H1; clear H1; simp only [Option.some.injEq, Prod.mk.injEq] at H; obtain ⟨rfl, rfl⟩ := H; go_enter Tryd.func104, Tryd.ntmps104
   go_wp2_with (first | ((with_reducible refine zr_ (N := 2) rfl ?_); refine box_event ?hg (N := 2) ?hd (cs := #[.int .i64 a0_0, .bool a0_1]) (t := 90) ?hr ?_; (case hd => rfl); (case hg => rfl); (case hr => first | (go_simp; done) | (go_simp; rfl)); intro gb213 hg w7 hbox hb; have n0_ := Z_.mk (ze_ (by repeat (first | exact HB.out | apply zc_ | apply za_ | apply zb_)) hb); have n1_ := Z_.mk (hbox); have n2_ := Z_.mk ((by rw [hg]; exact (zj_ (by repeat (first | exact HB.out | apply zc_ | apply za_ | apply zb_))) : w.heap.size ≤ gb213)); have n3_ := Z_.mk ((by rw [hg]; exact (zj_ (by repeat (first | exact HB.out | apply zc_ | apply za_ | apply zb_))) : w.heap.size ≤ gb213)); clear HB; have HB := n0_; have BK213 := n1_; have GW213 := n2_; have GE213 := n3_; clear n0_ n1_ n2_ n3_; clear hb hbox hg) | ((with_reducible refine zr_ (N := 3) rfl ?_); refine box_event ?hg (N := 3) ?hd (cs := #[.int .i64 a1_0, .bool a1_1]) (t := 90) ?hr ?_; (case hd => rfl); (case hg => rfl); (case hr => first | (go_simp; done) | (go_simp; rfl)); intro gb214 hg w8 hbox hb; have n0_ := Z_.mk (zq_ (g := gb213) (o := .cells #[.int .i64 a0_0, .bool a0_1] 90 (0, 0)) (by (with_reducible repeat (first | refine zf_ ?_ _ | refine zh_ ?_ | refine blk_alloc ?_ _)); exact BK213.out) hb); have n1_ := Z_.mk (ze_ (by repeat (first | exact HB.out | apply zc_ | apply za_ | apply zb_ | refine zd_ ?_ GE213.out)) hb); have n2_ := Z_.mk (hbox); have n3_ := Z_.mk ((by rw [hg]; exact (zj_ (by repeat (first | exact HB.out | apply zc_ | apply za_ | apply zb_ | refine zd_ ?_ GE213.out))) : w.heap.size ≤ gb214)); have n4_ := Z_.mk ((by rw [hg]; exact (zj_ (by repeat (first | exact HB.out | apply zc_ | apply za_ | apply zb_ | refine zd_ ?_ GE213.out))) : w.heap.size ≤ gb214)); have n5_ := Z_.mk ((by rw [hg]; exact Nat.ne_of_lt (blk_lt (g := gb213) (o := .cells #[.int .i64 a0_0, .bool a0_1] 90 (0, 0)) (by (with_reducible repeat (first | refine zf_ ?_ _ | refine zh_ ?_ | refine blk_alloc ?_ _)); exact BK213.out)) : gb213 ≠ gb214)); have n6_ := Z_.mk ((by rw [hg]; exact Nat.ne_of_gt (blk_lt (g := gb213) (o := .cells #[.int .i64 a0_0, .bool a0_1] 90 (0, 0)) (by (with_reducible repeat (first | refine zf_ ?_ _ | refine zh_ ?_ | refine blk_alloc ?_ _)); exact BK213.out)) : gb214 ≠ gb213)); clear BK213; clear HB; have BK213 := n0_; have HB := n1_; have BK214 := n2_; have GW214 := n3_; have GE214 := n4_; have NB213_214 := n5_; have NB214_213 := n6_; clear n0_ n1_ n2_ n3_ n4_ n5_ n6_; clear hb hbox hg; have hnb9 := NB213_214.out; have hnc9 := NB214_213.out; have hcz10_0 : w8.cell? ⟨gb213, 0, none⟩ = some (.int .i64 a0_0) := (zg_ BK213.out 0).trans rfl; have hcz10_1 : w8.cell? ⟨gb213, 1, none⟩ = some (.bool a0_1) := (zg_ BK213.out 1).trans rfl; have hfz10_0 := zi_ BK213.out 0; have hfz10_1 := zi_ BK213.out 1) | ((with_reducible refine zp_ (f := 96) rfl ?_); refine goesL_ (some 7) rfl rfl Tryd.func96 (by kernel_rfl) rfl #[.agg #[.int .i64 a0_0, .bool a0_1]] rfl (by (try simp only [List.map_toArray, List.map_cons, List.map_nil]); first | done | rfl | (simp only [List.length_drop, List.length_take]; rfl)) ?_; (with_reducible refine (impl_Tone_valid.calls a0_0 a0_1 true _ A3.out).mono ?_); rintro e w11 ⟨rfl, hb⟩; refine ⟨_, rfl, ?_⟩; have n0_ := Z_.mk (zq_ (g := gb213) (o := .cells #[.int .i64 a0_0, .bool a0_1] 90 (0, 0)) (by (with_reducible repeat (first | refine zf_ ?_ _ | refine zh_ ?_ | refine blk_alloc ?_ _)); exact BK213.out) hb); have n1_ := Z_.mk (zq_ (g := gb214) (o := .cells #[.int .i64 a1_0, .bool a1_1] 90 (0, 0)) (by (with_reducible repeat (first | refine zf_ ?_ _ | refine zh_ ?_ | refine blk_alloc ?_ _)); exact BK214.out) hb); have n2_ := Z_.mk (ze_ (by repeat (first | exact HB.out | apply zc_ | apply za_ | apply zb_ | refine zd_ ?_ GE213.out | refine zd_ ?_ GE214.out)) hb); clear BK213; clear BK214; clear HB; have BK213 := n0_; have BK214 := n1_; have HB := n2_; clear n0_ n1_ n2_; have hcz12_0 : w11.cell? ⟨gb214, 0, none⟩ = some (.int .i64 a1_0) := (zg_ BK214.out 0).trans rfl; have hcz12_1 : w11.cell? ⟨gb214, 1, none⟩ = some (.bool a1_1) := (zg_ BK214.out 1).trans rfl; have hfz12_0 := zi_ BK214.out 0; have hfz12_1 := zi_ BK214.out 1) | (go_at_call 96; (with_reducible refine (impl_Tone_valid.calls a1_0 a1_1 true _ A5.out).mono ?_); rintro e w13 ⟨rfl, hb⟩; have n0_ := Z_.mk (zq_ (g := gb213) (o := .cells #[.int .i64 a0_0, .bool a0_1] 90 (0, 0)) (by (with_reducible repeat (first | refine zf_ ?_ _ | refine zh_ ?_ | refine blk_alloc ?_ _)); exact BK213.out) hb); have n1_ := Z_.mk (zq_ (g := gb214) (o := .cells #[.int .i64 a1_0, .bool a1_1] 90 (0, 0)) (by (with_reducible repeat (first | refine zf_ ?_ _ | refine zh_ ?_ | refine blk_alloc ?_ _)); exact BK214.out) hb); have n2_ := Z_.mk (ze_ (by repeat (first | exact HB.out | apply zc_ | apply za_ | apply zb_ | refine zd_ ?_ GE213.out | refine zd_ ?_ GE214.out)) hb); clear BK213; clear BK214; clear HB; have BK213 := n0_; have BK214 := n1_; have HB := n2_; clear n0_ n1_ n2_; have hcz14_0 : w13.cell? ⟨gb214, 0, none⟩ = some (.int .i64 a1_0) := (zg_ BK214.out 0).trans rfl; have hcz14_1 : w13.cell? ⟨gb214, 1, none⟩ = some (.bool a1_1) := (zg_ BK214.out 1).trans rfl; have hfz14_0 := zi_ BK214.out 0; have hfz14_1 := zi_ BK214.out 1; have hcz15_0 : w13.cell? ⟨gb213, 0, none⟩ = some (.int .i64 a0_0) := (zg_ BK213.out 0).trans rfl; have hcz15_1 : w13.cell? ⟨gb213, 1, none⟩ = some (.bool a0_1) := (zg_ BK213.out 1).trans rfl; have hfz15_0 := zi_ BK213.out 0; have hfz15_1 := zi_ BK213.out 1))
   go_ret2
   exact ⟨by first | rfl | (simp [zn_, zm_] <;> rfl) | (simp [*, zn_, zm_] <;> rfl), by repeat (first | exact HB.out | apply zc_ | apply za_ | apply zb_ | refine zd_ ?_ GE213.out | refine zd_ ?_ GE214.out)⟩
  ·
   replace c6 := Bool.eq_false_iff.mpr c6; subst c6; have H1 : (some (0, false)) = some (r1, r2) := by rw [if_neg (show ¬ (false = true) by decide)] at H; exact H
   clear H; have H := H1; clear H1; simp only [Option.some.injEq, Prod.mk.injEq] at H; obtain ⟨rfl, rfl⟩ := H; go_enter Tryd.func104, Tryd.ntmps104
   go_wp2_with (first | ((with_reducible refine zr_ (N := 2) rfl ?_); refine box_event ?hg (N := 2) ?hd (cs := #[.int .i64 a0_0, .bool a0_1]) (t := 90) ?hr ?_; (case hd => rfl); (case hg => rfl); (case hr => first | (go_simp; done) | (go_simp; rfl)); intro gb213 hg w16 hbox hb; have n0_ := Z_.mk (ze_ (by repeat (first | exact HB.out | apply zc_ | apply za_ | apply zb_)) hb); have n1_ := Z_.mk (hbox); have n2_ := Z_.mk ((by rw [hg]; exact (zj_ (by repeat (first | exact HB.out | apply zc_ | apply za_ | apply zb_))) : w.heap.size ≤ gb213)); have n3_ := Z_.mk ((by rw [hg]; exact (zj_ (by repeat (first | exact HB.out | apply zc_ | apply za_ | apply zb_))) : w.heap.size ≤ gb213)); clear HB; have HB := n0_; have BK213 := n1_; have GW213 := n2_; have GE213 := n3_; clear n0_ n1_ n2_ n3_; clear hb hbox hg) | ((with_reducible refine zr_ (N := 3) rfl ?_); refine box_event ?hg (N := 3) ?hd (cs := #[.int .i64 a1_0, .bool a1_1]) (t := 90) ?hr ?_; (case hd => rfl); (case hg => rfl); (case hr => first | (go_simp; done) | (go_simp; rfl)); intro gb214 hg w17 hbox hb; have n0_ := Z_.mk (zq_ (g := gb213) (o := .cells #[.int .i64 a0_0, .bool a0_1] 90 (0, 0)) (by (with_reducible repeat (first | refine zf_ ?_ _ | refine zh_ ?_ | refine blk_alloc ?_ _)); exact BK213.out) hb); have n1_ := Z_.mk (ze_ (by repeat (first | exact HB.out | apply zc_ | apply za_ | apply zb_ | refine zd_ ?_ GE213.out)) hb); have n2_ := Z_.mk (hbox); have n3_ := Z_.mk ((by rw [hg]; exact (zj_ (by repeat (first | exact HB.out | apply zc_ | apply za_ | apply zb_ | refine zd_ ?_ GE213.out))) : w.heap.size ≤ gb214)); have n4_ := Z_.mk ((by rw [hg]; exact (zj_ (by repeat (first | exact HB.out | apply zc_ | apply za_ | apply zb_ | refine zd_ ?_ GE213.out))) : w.heap.size ≤ gb214)); have n5_ := Z_.mk ((by rw [hg]; exact Nat.ne_of_lt (blk_lt (g := gb213) (o := .cells #[.int .i64 a0_0, .bool a0_1] 90 (0, 0)) (by (with_reducible repeat (first | refine zf_ ?_ _ | refine zh_ ?_ | refine blk_alloc ?_ _)); exact BK213.out)) : gb213 ≠ gb214)); have n6_ := Z_.mk ((by rw [hg]; exact Nat.ne_of_gt (blk_lt (g := gb213) (o := .cells #[.int .i64 a0_0, .bool a0_1] 90 (0, 0)) (by (with_reducible repeat (first | refine zf_ ?_ _ | refine zh_ ?_ | refine blk_alloc ?_ _)); exact BK213.out)) : gb214 ≠ gb213)); clear BK213; clear HB; have BK213 := n0_; have HB := n1_; have BK214 := n2_; have GW214 := n3_; have GE214 := n4_; have NB213_214 := n5_; have NB214_213 := n6_; clear n0_ n1_ n2_ n3_ n4_ n5_ n6_; clear hb hbox hg; have hnb18 := NB213_214.out; have hnc18 := NB214_213.out; have hcz19_0 : w17.cell? ⟨gb213, 0, none⟩ = some (.int .i64 a0_0) := (zg_ BK213.out 0).trans rfl; have hcz19_1 : w17.cell? ⟨gb213, 1, none⟩ = some (.bool a0_1) := (zg_ BK213.out 1).trans rfl; have hfz19_0 := zi_ BK213.out 0; have hfz19_1 := zi_ BK213.out 1) | ((with_reducible refine zp_ (f := 96) rfl ?_); refine goesL_ (some 7) rfl rfl Tryd.func96 (by kernel_rfl) rfl #[.agg #[.int .i64 a0_0, .bool a0_1]] rfl (by (try simp only [List.map_toArray, List.map_cons, List.map_nil]); first | done | rfl | (simp only [List.length_drop, List.length_take]; rfl)) ?_; (with_reducible refine (impl_Tone_valid.calls a0_0 a0_1 true _ A3.out).mono ?_); rintro e w20 ⟨rfl, hb⟩; refine ⟨_, rfl, ?_⟩; have n0_ := Z_.mk (zq_ (g := gb213) (o := .cells #[.int .i64 a0_0, .bool a0_1] 90 (0, 0)) (by (with_reducible repeat (first | refine zf_ ?_ _ | refine zh_ ?_ | refine blk_alloc ?_ _)); exact BK213.out) hb); have n1_ := Z_.mk (zq_ (g := gb214) (o := .cells #[.int .i64 a1_0, .bool a1_1] 90 (0, 0)) (by (with_reducible repeat (first | refine zf_ ?_ _ | refine zh_ ?_ | refine blk_alloc ?_ _)); exact BK214.out) hb); have n2_ := Z_.mk (ze_ (by repeat (first | exact HB.out | apply zc_ | apply za_ | apply zb_ | refine zd_ ?_ GE213.out | refine zd_ ?_ GE214.out)) hb); clear BK213; clear BK214; clear HB; have BK213 := n0_; have BK214 := n1_; have HB := n2_; clear n0_ n1_ n2_; have hcz21_0 : w20.cell? ⟨gb214, 0, none⟩ = some (.int .i64 a1_0) := (zg_ BK214.out 0).trans rfl; have hcz21_1 : w20.cell? ⟨gb214, 1, none⟩ = some (.bool a1_1) := (zg_ BK214.out 1).trans rfl; have hfz21_0 := zi_ BK214.out 0; have hfz21_1 := zi_ BK214.out 1) | (go_at_call 96; (with_reducible refine (impl_Tone_valid.calls a1_0 a1_1 false _ A5.out).mono ?_); rintro e w22 ⟨rfl, hb⟩; have n0_ := Z_.mk (zq_ (g := gb213) (o := .cells #[.int .i64 a0_0, .bool a0_1] 90 (0, 0)) (by (with_reducible repeat (first | refine zf_ ?_ _ | refine zh_ ?_ | refine blk_alloc ?_ _)); exact BK213.out) hb); have n1_ := Z_.mk (zq_ (g := gb214) (o := .cells #[.int .i64 a1_0, .bool a1_1] 90 (0, 0)) (by (with_reducible repeat (first | refine zf_ ?_ _ | refine zh_ ?_ | refine blk_alloc ?_ _)); exact BK214.out) hb); have n2_ := Z_.mk (ze_ (by repeat (first | exact HB.out | apply zc_ | apply za_ | apply zb_ | refine zd_ ?_ GE213.out | refine zd_ ?_ GE214.out)) hb); clear BK213; clear BK214; clear HB; have BK213 := n0_; have BK214 := n1_; have HB := n2_; clear n0_ n1_ n2_))
   go_ret2
   exact ⟨by first | rfl | (simp [zn_, zm_] <;> rfl) | (simp [*, zn_, zm_] <;> rfl), by repeat (first | exact HB.out | apply zc_ | apply za_ | apply zb_ | refine zd_ ?_ GE213.out | refine zd_ ?_ GE214.out)⟩
 ·
  replace c4 := Bool.eq_false_iff.mpr c4; subst c4; have H1 : (some (0, false)) = some (r1, r2) := by rw [if_neg (show ¬ (false = true) by decide)] at H; exact H
  clear H; have H := H1; clear H1; simp only [Option.some.injEq, Prod.mk.injEq] at H; obtain ⟨rfl, rfl⟩ := H; go_enter Tryd.func104, Tryd.ntmps104
  go_wp2_with (first | ((with_reducible refine zr_ (N := 2) rfl ?_); refine box_event ?hg (N := 2) ?hd (cs := #[.int .i64 a0_0, .bool a0_1]) (t := 90) ?hr ?_; (case hd => rfl); (case hg => rfl); (case hr => first | (go_simp; done) | (go_simp; rfl)); intro gb213 hg w23 hbox hb; have n0_ := Z_.mk (ze_ (by repeat (first | exact HB.out | apply zc_ | apply za_ | apply zb_)) hb); have n1_ := Z_.mk (hbox); have n2_ := Z_.mk ((by rw [hg]; exact (zj_ (by repeat (first | exact HB.out | apply zc_ | apply za_ | apply zb_))) : w.heap.size ≤ gb213)); have n3_ := Z_.mk ((by rw [hg]; exact (zj_ (by repeat (first | exact HB.out | apply zc_ | apply za_ | apply zb_))) : w.heap.size ≤ gb213)); clear HB; have HB := n0_; have BK213 := n1_; have GW213 := n2_; have GE213 := n3_; clear n0_ n1_ n2_ n3_; clear hb hbox hg) | ((with_reducible refine zr_ (N := 3) rfl ?_); refine box_event ?hg (N := 3) ?hd (cs := #[.int .i64 a1_0, .bool a1_1]) (t := 90) ?hr ?_; (case hd => rfl); (case hg => rfl); (case hr => first | (go_simp; done) | (go_simp; rfl)); intro gb214 hg w24 hbox hb; have n0_ := Z_.mk (zq_ (g := gb213) (o := .cells #[.int .i64 a0_0, .bool a0_1] 90 (0, 0)) (by (with_reducible repeat (first | refine zf_ ?_ _ | refine zh_ ?_ | refine blk_alloc ?_ _)); exact BK213.out) hb); have n1_ := Z_.mk (ze_ (by repeat (first | exact HB.out | apply zc_ | apply za_ | apply zb_ | refine zd_ ?_ GE213.out)) hb); have n2_ := Z_.mk (hbox); have n3_ := Z_.mk ((by rw [hg]; exact (zj_ (by repeat (first | exact HB.out | apply zc_ | apply za_ | apply zb_ | refine zd_ ?_ GE213.out))) : w.heap.size ≤ gb214)); have n4_ := Z_.mk ((by rw [hg]; exact (zj_ (by repeat (first | exact HB.out | apply zc_ | apply za_ | apply zb_ | refine zd_ ?_ GE213.out))) : w.heap.size ≤ gb214)); have n5_ := Z_.mk ((by rw [hg]; exact Nat.ne_of_lt (blk_lt (g := gb213) (o := .cells #[.int .i64 a0_0, .bool a0_1] 90 (0, 0)) (by (with_reducible repeat (first | refine zf_ ?_ _ | refine zh_ ?_ | refine blk_alloc ?_ _)); exact BK213.out)) : gb213 ≠ gb214)); have n6_ := Z_.mk ((by rw [hg]; exact Nat.ne_of_gt (blk_lt (g := gb213) (o := .cells #[.int .i64 a0_0, .bool a0_1] 90 (0, 0)) (by (with_reducible repeat (first | refine zf_ ?_ _ | refine zh_ ?_ | refine blk_alloc ?_ _)); exact BK213.out)) : gb214 ≠ gb213)); clear BK213; clear HB; have BK213 := n0_; have HB := n1_; have BK214 := n2_; have GW214 := n3_; have GE214 := n4_; have NB213_214 := n5_; have NB214_213 := n6_; clear n0_ n1_ n2_ n3_ n4_ n5_ n6_; clear hb hbox hg; have hnb25 := NB213_214.out; have hnc25 := NB214_213.out; have hcz26_0 : w24.cell? ⟨gb213, 0, none⟩ = some (.int .i64 a0_0) := (zg_ BK213.out 0).trans rfl; have hcz26_1 : w24.cell? ⟨gb213, 1, none⟩ = some (.bool a0_1) := (zg_ BK213.out 1).trans rfl; have hfz26_0 := zi_ BK213.out 0; have hfz26_1 := zi_ BK213.out 1) | ((with_reducible refine zp_ (f := 96) rfl ?_); refine goesL_ (some 7) rfl rfl Tryd.func96 (by kernel_rfl) rfl #[.agg #[.int .i64 a0_0, .bool a0_1]] rfl (by (try simp only [List.map_toArray, List.map_cons, List.map_nil]); first | done | rfl | (simp only [List.length_drop, List.length_take]; rfl)) ?_; (with_reducible refine (impl_Tone_valid.calls a0_0 a0_1 false _ A3.out).mono ?_); rintro e w27 ⟨rfl, hb⟩; refine ⟨_, rfl, ?_⟩; have n0_ := Z_.mk (zq_ (g := gb213) (o := .cells #[.int .i64 a0_0, .bool a0_1] 90 (0, 0)) (by (with_reducible repeat (first | refine zf_ ?_ _ | refine zh_ ?_ | refine blk_alloc ?_ _)); exact BK213.out) hb); have n1_ := Z_.mk (zq_ (g := gb214) (o := .cells #[.int .i64 a1_0, .bool a1_1] 90 (0, 0)) (by (with_reducible repeat (first | refine zf_ ?_ _ | refine zh_ ?_ | refine blk_alloc ?_ _)); exact BK214.out) hb); have n2_ := Z_.mk (ze_ (by repeat (first | exact HB.out | apply zc_ | apply za_ | apply zb_ | refine zd_ ?_ GE213.out | refine zd_ ?_ GE214.out)) hb); clear BK213; clear BK214; clear HB; have BK213 := n0_; have BK214 := n1_; have HB := n2_; clear n0_ n1_ n2_))
  go_ret2
  exact ⟨by first | rfl | (simp [zn_, zm_] <;> rfl) | (simp [*, zn_, zm_] <;> rfl), by repeat (first | exact HB.out | apply zc_ | apply za_ | apply zb_ | refine zd_ ?_ GE213.out | refine zd_ ?_ GE214.out)⟩

end Go.Proofs.YtmacedbpdhkagaaDoor.PFnTonaryFind
namespace Go.Proofs.YtmacedbpdhkagaaDoor.PFnTonaryFind
open Go.RowKit Go.Proofs.YtmacedbpdhkagaaDoorW.PrintWords Go.Proofs.YtmacedbpdhkagaaDoorW.PrintLast Go.Proofs.YtmacedbpdhkagaaDoorW.PrintMore
attribute [local go_sem] max2_int min2_int max_two min_two max_three min_three max_four min_four   -- for this text's walks alone
set_option linter.unusedVariables false
set_option linter.unusedSimpArgs false

def impl_ToneAbove.j0 : Nat → Int → Bool → Bool → Int → Bool → Option (Int × Bool × Bool)
 | 0, _, _, _, _, _ => none
 | k + 1, x1, x2, x19, x446000, x446001 => if x19 = true then (some (0, false, false)) else ((impl_Tone_valid.f (wrap64 (x446000 + x1)) x2).bind fun t449 => (if t449 = true then (some (wrap64 (x446000 + x1), x2, true)) else (some (0, false, false))))
def impl_ToneAbove.f (k : Nat) (a0_0 : Int) (a0_1 : Bool) (a1 : Int) (a2 : Bool) : Option (Int × Bool × Bool) := (impl_Tone_valid.f a0_0 a0_1).bind fun t447 => (if t447 = true then (if a1 < (-20) then (impl_ToneAbove.j0 k a1 a2 true a0_0 a0_1) else (impl_ToneAbove.j0 k a1 a2 (decide (a1 > 20)) a0_0 a0_1)) else (impl_ToneAbove.j0 k a1 a2 true a0_0 a0_1))
set_option maxHeartbeats 8000000 in
set_option maxRecDepth 100000 in
theorem impl_ToneAbove.calls (k : Nat) (a0_0 : Int) (a0_1 : Bool) (a1 : Int) (a2 : Bool) (r1 : Int) (r2 : Bool) (r3 : Bool) (w : World) (h : impl_ToneAbove.f k a0_0 a0_1 a1 a2 = some (r1, r2, r3)) :
 Calls Tryd.prog 79 #[.agg #[.int .i64 a0_0, .bool a0_1], .int .i64 a1, .bool a2] w fun e w' => e = .returned (.tuple #[.agg #[.int .i64 r1, .bool r2], .bool r3]) ∧ Below w.heap.size w w' := by
 have hu90 := Tryd.underlying90; have HB := Z_.mk (Below.refl w.heap.size w); have H : ((impl_Tone_valid.f a0_0 a0_1).bind fun t447 => (if t447 = true then (if a1 < (-20) then (impl_ToneAbove.j0 k a1 a2 true a0_0 a0_1) else (impl_ToneAbove.j0 k a1 a2 (decide (a1 > 20)) a0_0 a0_1)) else (impl_ToneAbove.j0 k a1 a2 true a0_0 a0_1))) = some (r1, r2, r3) := h; clear h; have HC4 := Z_.mk H; clear H; go_enter Tryd.func79, Tryd.ntmps79
 go_upto_region 1 with (first | ((with_reducible refine zr_ (N := 3) rfl ?_); refine box_event ?hg (N := 3) ?hd (cs := #[.int .i64 a0_0, .bool a0_1]) (t := 90) ?hr ?_; (case hd => rfl); (case hg => rfl); (case hr => first | (go_simp; done) | (go_simp; rfl)); intro gb445 hg w5 hbox hb; have n0_ := Z_.mk (ze_ (by repeat (first | exact HB.out | apply zc_ | apply za_ | apply zb_)) hb); have n1_ := Z_.mk (hbox); have n2_ := Z_.mk ((by rw [hg]; exact (zj_ (by repeat (first | exact HB.out | apply zc_ | apply za_ | apply zb_))) : w.heap.size ≤ gb445)); have n3_ := Z_.mk ((by rw [hg]; exact (zj_ (by repeat (first | exact HB.out | apply zc_ | apply za_ | apply zb_))) : w.heap.size ≤ gb445)); clear HB; have HB := n0_; have BK445 := n1_; have GW445 := n2_; have GE445 := n3_; clear n0_ n1_ n2_ n3_; clear hb hbox hg) | ((with_reducible refine zr_ (N := 6) rfl ?_); refine box_event ?hg (N := 6) ?hd (cs := #[.int .i64 0, .bool false]) (t := 90) ?hr ?_; (case hd => rfl); (case hg => rfl); (case hr => first | (go_simp; done) | (go_simp; rfl)); intro gb446 hg w6 hbox hb; have n0_ := Z_.mk (zq_ (g := gb445) (o := .cells #[.int .i64 a0_0, .bool a0_1] 90 (0, 0)) (by (with_reducible repeat (first | refine zf_ ?_ _ | refine zh_ ?_ | refine blk_alloc ?_ _)); exact BK445.out) hb); have n1_ := Z_.mk (ze_ (by repeat (first | exact HB.out | apply zc_ | apply za_ | apply zb_ | refine zd_ ?_ GE445.out)) hb); have n2_ := Z_.mk (hbox); have n3_ := Z_.mk ((by rw [hg]; exact (zj_ (by repeat (first | exact HB.out | apply zc_ | apply za_ | apply zb_ | refine zd_ ?_ GE445.out))) : w.heap.size ≤ gb446)); have n4_ := Z_.mk ((by rw [hg]; exact (zj_ (by repeat (first | exact HB.out | apply zc_ | apply za_ | apply zb_ | refine zd_ ?_ GE445.out))) : w.heap.size ≤ gb446)); have n5_ := Z_.mk ((by rw [hg]; exact Nat.ne_of_lt (blk_lt (g := gb445) (o := .cells #[.int .i64 a0_0, .bool a0_1] 90 (0, 0)) (by (with_reducible repeat (first | refine zf_ ?_ _ | refine zh_ ?_ | refine blk_alloc ?_ _)); exact BK445.out)) : gb445 ≠ gb446)); have n6_ := Z_.mk ((by rw [hg]; exact Nat.ne_of_gt (blk_lt (g := gb445) (o := .cells #[.int .i64 a0_0, .bool a0_1] 90 (0, 0)) (by (with_reducible repeat (first | refine zf_ ?_ _ | refine zh_ ?_ | refine blk_alloc ?_ _)); exact BK445.out)) : gb446 ≠ gb445)); clear BK445; clear HB; have BK445 := n0_; have HB := n1_; have BK446 := n2_; have GW446 := n3_; have GE446 := n4_; have NB445_446 := n5_; have NB446_445 := n6_; clear n0_ n1_ n2_ n3_ n4_ n5_ n6_; clear hb hbox hg))
 (try simp only [Act.put, y1_, y2_, y3_])
 go_cut [19] (fun v19 wc => ∃ (kq : Nat) (x19_3 : Bool), v19 = .bool x19_3 ∧ Z_ (impl_ToneAbove.j0 kq a1 a2 x19_3 a0_0 a0_1 = some (r1, r2, r3)) ∧ Z_ (kq ≤ k) ∧ Z_ (wc.heap[gb445]? = some (.cells #[.int .i64 a0_0, .bool a0_1] 90 (0, 0))) ∧ Z_ (wc.heap[gb446]? = some (.cells #[.int .i64 0, .bool false] 90 (0, 0))) ∧ Z_ (Below w.heap.size w wc))
 case first =>
  have H := HC4.out; clear HC4; replace H := Option.bind_eq_some_iff.mp H; obtain ⟨t447, A70, H⟩ := H; replace H : (if t447 = true then (if a1 < (-20) then (impl_ToneAbove.j0 k a1 a2 true a0_0 a0_1) else (impl_ToneAbove.j0 k a1 a2 (decide (a1 > 20)) a0_0 a0_1)) else (impl_ToneAbove.j0 k a1 a2 true a0_0 a0_1)) = some (r1, r2, r3) := H; have A7 := Z_.mk A70; clear A70; by_cases c8 : t447 = true
  ·
   subst c8; have H1 : (if a1 < (-20) then (impl_ToneAbove.j0 k a1 a2 true a0_0 a0_1) else (impl_ToneAbove.j0 k a1 a2 (decide (a1 > 20)) a0_0 a0_1)) = some (r1, r2, r3) := by rw [if_pos rfl] at H; exact H
   clear H; have H := H1; clear H1; by_cases c9 : a1 < (-20)
   ·
    rw [if_pos c9] at H; have c9b0 : decide (a1 < (-20)) = true := decide_eq_true c9; clear c9; (first | rw [c9b0] | (simp only [i64_w, i32_w]; rw [c9b0]) | skip)
    have H' := Z_.mk H; clear H; have hnb10 := NB445_446.out; have hnc10 := NB446_445.out; have hcz11_0 : w6.cell? ⟨gb445, 0, none⟩ = some (.int .i64 a0_0) := (zg_ BK445.out 0).trans rfl; have hcz11_1 : w6.cell? ⟨gb445, 1, none⟩ = some (.bool a0_1) := (zg_ BK445.out 1).trans rfl; have hfz11_0 := zi_ BK445.out 0; have hfz11_1 := zi_ BK445.out 1; go_wp2_with (first | ((with_reducible refine zp_ (f := 96) rfl ?_); refine goesL_ (some 10) rfl rfl Tryd.func96 (by kernel_rfl) rfl #[.agg #[.int .i64 a0_0, .bool a0_1]] rfl (by (try simp only [List.map_toArray, List.map_cons, List.map_nil]); first | done | rfl | (simp only [List.length_drop, List.length_take]; rfl)) ?_; (with_reducible refine (impl_Tone_valid.calls a0_0 a0_1 true _ A7.out).mono ?_); rintro e w12 ⟨rfl, hb⟩; refine ⟨_, rfl, ?_⟩; have n0_ := Z_.mk (zq_ (g := gb445) (o := .cells #[.int .i64 a0_0, .bool a0_1] 90 (0, 0)) (by (with_reducible repeat (first | refine zf_ ?_ _ | refine zh_ ?_ | refine blk_alloc ?_ _)); exact BK445.out) hb); have n1_ := Z_.mk (zq_ (g := gb446) (o := .cells #[.int .i64 0, .bool false] 90 (0, 0)) (by (with_reducible repeat (first | refine zf_ ?_ _ | refine zh_ ?_ | refine blk_alloc ?_ _)); exact BK446.out) hb); have n2_ := Z_.mk (ze_ (by repeat (first | exact HB.out | apply zc_ | apply za_ | apply zb_ | refine zd_ ?_ GE445.out | refine zd_ ?_ GE446.out)) hb); clear BK445; clear BK446; clear HB; have BK445 := n0_; have BK446 := n1_; have HB := n2_; clear n0_ n1_ n2_))
    go_meet
    case rel => exact ⟨_, (true), (by first | rfl | (simp; done) | (simp [*]; done)), H', ⟨by first | omega | exact Nat.le_refl _⟩, ⟨by (with_reducible repeat (first | refine zf_ ?_ _ | refine zh_ ?_ | refine blk_alloc ?_ _)); exact BK445.out⟩, ⟨by (with_reducible repeat (first | refine zf_ ?_ _ | refine zh_ ?_ | refine blk_alloc ?_ _)); exact BK446.out⟩, ⟨by repeat (first | exact HB.out | apply zc_ | apply za_ | apply zb_ | refine zd_ ?_ GE445.out | refine zd_ ?_ GE446.out)⟩⟩
   ·
    rw [if_neg c9] at H; have c9b0 : decide (a1 < (-20)) = false := decide_eq_false c9; clear c9; (first | rw [c9b0] | (simp only [i64_w, i32_w]; rw [c9b0]) | skip)
    have H' := Z_.mk H; clear H; have hnb13 := NB445_446.out; have hnc13 := NB446_445.out; have hcz14_0 : w6.cell? ⟨gb445, 0, none⟩ = some (.int .i64 a0_0) := (zg_ BK445.out 0).trans rfl; have hcz14_1 : w6.cell? ⟨gb445, 1, none⟩ = some (.bool a0_1) := (zg_ BK445.out 1).trans rfl; have hfz14_0 := zi_ BK445.out 0; have hfz14_1 := zi_ BK445.out 1; go_wp2_with (first | ((with_reducible refine zp_ (f := 96) rfl ?_); refine goesL_ (some 10) rfl rfl Tryd.func96 (by kernel_rfl) rfl #[.agg #[.int .i64 a0_0, .bool a0_1]] rfl (by (try simp only [List.map_toArray, List.map_cons, List.map_nil]); first | done | rfl | (simp only [List.length_drop, List.length_take]; rfl)) ?_; (with_reducible refine (impl_Tone_valid.calls a0_0 a0_1 true _ A7.out).mono ?_); rintro e w15 ⟨rfl, hb⟩; refine ⟨_, rfl, ?_⟩; have n0_ := Z_.mk (zq_ (g := gb445) (o := .cells #[.int .i64 a0_0, .bool a0_1] 90 (0, 0)) (by (with_reducible repeat (first | refine zf_ ?_ _ | refine zh_ ?_ | refine blk_alloc ?_ _)); exact BK445.out) hb); have n1_ := Z_.mk (zq_ (g := gb446) (o := .cells #[.int .i64 0, .bool false] 90 (0, 0)) (by (with_reducible repeat (first | refine zf_ ?_ _ | refine zh_ ?_ | refine blk_alloc ?_ _)); exact BK446.out) hb); have n2_ := Z_.mk (ze_ (by repeat (first | exact HB.out | apply zc_ | apply za_ | apply zb_ | refine zd_ ?_ GE445.out | refine zd_ ?_ GE446.out)) hb); clear BK445; clear BK446; clear HB; have BK445 := n0_; have BK446 := n1_; have HB := n2_; clear n0_ n1_ n2_))
    go_meet
    case rel => exact ⟨_, (decide (a1 > 20)), (by first | rfl | (simp; done) | (simp [*]; done)), H', ⟨by first | omega | exact Nat.le_refl _⟩, ⟨by (with_reducible repeat (first | refine zf_ ?_ _ | refine zh_ ?_ | refine blk_alloc ?_ _)); exact BK445.out⟩, ⟨by (with_reducible repeat (first | refine zf_ ?_ _ | refine zh_ ?_ | refine blk_alloc ?_ _)); exact BK446.out⟩, ⟨by repeat (first | exact HB.out | apply zc_ | apply za_ | apply zb_ | refine zd_ ?_ GE445.out | refine zd_ ?_ GE446.out)⟩⟩
  ·
   replace c8 := Bool.eq_false_iff.mpr c8; subst c8; have H1 : (impl_ToneAbove.j0 k a1 a2 true a0_0 a0_1) = some (r1, r2, r3) := by rw [if_neg (show ¬ (false = true) by decide)] at H; exact H
   clear H; have H := H1; clear H1; have H' := Z_.mk H; clear H; have hnb16 := NB445_446.out; have hnc16 := NB446_445.out; have hcz17_0 : w6.cell? ⟨gb445, 0, none⟩ = some (.int .i64 a0_0) := (zg_ BK445.out 0).trans rfl; have hcz17_1 : w6.cell? ⟨gb445, 1, none⟩ = some (.bool a0_1) := (zg_ BK445.out 1).trans rfl; have hfz17_0 := zi_ BK445.out 0; have hfz17_1 := zi_ BK445.out 1; go_wp2_with (first | ((with_reducible refine zp_ (f := 96) rfl ?_); refine goesL_ (some 10) rfl rfl Tryd.func96 (by kernel_rfl) rfl #[.agg #[.int .i64 a0_0, .bool a0_1]] rfl (by (try simp only [List.map_toArray, List.map_cons, List.map_nil]); first | done | rfl | (simp only [List.length_drop, List.length_take]; rfl)) ?_; (with_reducible refine (impl_Tone_valid.calls a0_0 a0_1 false _ A7.out).mono ?_); rintro e w18 ⟨rfl, hb⟩; refine ⟨_, rfl, ?_⟩; have n0_ := Z_.mk (zq_ (g := gb445) (o := .cells #[.int .i64 a0_0, .bool a0_1] 90 (0, 0)) (by (with_reducible repeat (first | refine zf_ ?_ _ | refine zh_ ?_ | refine blk_alloc ?_ _)); exact BK445.out) hb); have n1_ := Z_.mk (zq_ (g := gb446) (o := .cells #[.int .i64 0, .bool false] 90 (0, 0)) (by (with_reducible repeat (first | refine zf_ ?_ _ | refine zh_ ?_ | refine blk_alloc ?_ _)); exact BK446.out) hb); have n2_ := Z_.mk (ze_ (by repeat (first | exact HB.out | apply zc_ | apply za_ | apply zb_ | refine zd_ ?_ GE445.out | refine zd_ ?_ GE446.out)) hb); clear BK445; clear BK446; clear HB; have BK445 := n0_; have BK446 := n1_; have HB := n2_; clear n0_ n1_ n2_))
   go_meet
   case rel => exact ⟨_, (true), (by first | rfl | (simp; done) | (simp [*]; done)), H', ⟨by first | omega | exact Nat.le_refl _⟩, ⟨by (with_reducible repeat (first | refine zf_ ?_ _ | refine zh_ ?_ | refine blk_alloc ?_ _)); exact BK445.out⟩, ⟨by (with_reducible repeat (first | refine zf_ ?_ _ | refine zh_ ?_ | refine blk_alloc ?_ _)); exact BK446.out⟩, ⟨by repeat (first | exact HB.out | apply zc_ | apply za_ | apply zb_ | refine zd_ ?_ GE445.out | refine zd_ ?_ GE446.out)⟩⟩
 case rest =>
  clear HC4; try clear c1
  try clear p2
  try clear c7
  try clear c8
  try clear c9
  try clear c9b0
  try clear c10
  try clear c13
  try clear c16
  try clear hcz11_0
  try clear hcz11_1
  try clear hcz14_0
  try clear hcz14_1
  try clear hcz17_0
  try clear hcz17_1
  try clear hfz11_0
  try clear hfz11_1
  try clear hfz14_0
  try clear hfz14_1
  try clear hfz17_0
  try clear hfz17_1
  obtain ⟨kq, x19_3, rfl, HA, HJ3, BK445, BK446, HB⟩ := hcut; cases kq with
  | zero => exact absurd HA.out (by simp [impl_ToneAbove.j0])
  | succ kj3 =>
   have H := HA.out; clear HA; simp only [impl_ToneAbove.j0] at H; by_cases c19 : x19_3 = true
   ·
    subst c19; have H1 : (some (0, false, false)) = some (r1, r2, r3) := by rw [if_pos rfl] at H; exact H
    clear H; have H := H1; clear H1; simp only [Option.some.injEq, Prod.mk.injEq] at H; obtain ⟨rfl, rfl, rfl⟩ := H; have hnb20 := NB446_445.out; have hnc20 := NB445_446.out; have hcz21_0 : wc.cell? ⟨gb446, 0, none⟩ = some (.int .i64 0) := (zg_ BK446.out 0).trans rfl; have hcz21_1 : wc.cell? ⟨gb446, 1, none⟩ = some (.bool false) := (zg_ BK446.out 1).trans rfl; have hfz21_0 := zi_ BK446.out 0; have hfz21_1 := zi_ BK446.out 1; go_wp2; refine bodyPost_ret (results_ct rfl _ _ gb446 90 #[.int .i64 0, .bool false] (0, 0) _ rfl (by (with_reducible repeat (first | refine zf_ ?_ _ | refine zh_ ?_ | refine blk_alloc ?_ _)); refine blk_put (cs := #[.int .i64 0, .bool false]) ?_ 1 _ rfl; (with_reducible repeat (first | refine zf_ ?_ _ | refine zh_ ?_ | refine blk_alloc ?_ _)); refine blk_put (cs := #[.int .i64 0, .bool false]) ?_ 0 _ rfl; (with_reducible repeat (first | refine zf_ ?_ _ | refine zh_ ?_ | refine blk_alloc ?_ _)); exact BK446.out) Tryd.underlying90 rfl (by kernel_rfl)) rfl ?_; exact ⟨by first | rfl | (simp [zn_, zm_] <;> rfl) | (simp [*, zn_, zm_] <;> rfl), by repeat (first | exact HB.out | apply zc_ | apply za_ | apply zb_ | refine zd_ ?_ GE445.out | refine zd_ ?_ GE446.out)⟩
   ·
    replace c19 := Bool.eq_false_iff.mpr c19; subst c19; have H1 : ((impl_Tone_valid.f (wrap64 (a0_0 + a1)) a2).bind fun t449 => (if t449 = true then (some (wrap64 (a0_0 + a1), a2, true)) else (some (0, false, false)))) = some (r1, r2, r3) := by rw [if_neg (show ¬ (false = true) by decide)] at H; exact H
    clear H; have H := H1; clear H1; replace H := Option.bind_eq_some_iff.mp H; obtain ⟨t449, A220, H⟩ := H; replace H : (if t449 = true then (some (wrap64 (a0_0 + a1), a2, true)) else (some (0, false, false))) = some (r1, r2, r3) := H; have A22 := Z_.mk A220; clear A220; by_cases c23 : t449 = true
    ·
     subst c23; have H1 : (some (wrap64 (a0_0 + a1), a2, true)) = some (r1, r2, r3) := by rw [if_pos rfl] at H; exact H
     clear H; have H := H1; clear H1; simp only [Option.some.injEq, Prod.mk.injEq] at H; obtain ⟨rfl, rfl, rfl⟩ := H; have hnb24 := NB445_446.out; have hnc24 := NB446_445.out; have hcz25_0 : wc.cell? ⟨gb445, 0, none⟩ = some (.int .i64 a0_0) := (zg_ BK445.out 0).trans rfl; have hcz25_1 : wc.cell? ⟨gb445, 1, none⟩ = some (.bool a0_1) := (zg_ BK445.out 1).trans rfl; have hfz25_0 := zi_ BK445.out 0; have hfz25_1 := zi_ BK445.out 1; go_wp2_with (first | ((with_reducible refine zr_ (N := 8) rfl ?_); refine box_event ?hg (N := 8) ?hd (cs := #[.int .i64 0, .bool false]) (t := 90) ?hr ?_; (case hd => rfl); (case hg => rfl); (case hr => first | (go_simp; done) | (go_simp; rfl)); intro gb448 hg w26 hbox hb; have n0_ := Z_.mk (zq_ (g := gb445) (o := .cells #[.int .i64 a0_0, .bool a0_1] 90 (0, 0)) (by (with_reducible repeat (first | refine zf_ ?_ _ | refine zh_ ?_ | refine blk_alloc ?_ _)); exact BK445.out) hb); have n1_ := Z_.mk (zq_ (g := gb446) (o := .cells #[.int .i64 0, .bool false] 90 (0, 0)) (by (with_reducible repeat (first | refine zf_ ?_ _ | refine zh_ ?_ | refine blk_alloc ?_ _)); exact BK446.out) hb); have n2_ := Z_.mk (ze_ (by repeat (first | exact HB.out | apply zc_ | apply za_ | apply zb_ | refine zd_ ?_ GE445.out | refine zd_ ?_ GE446.out)) hb); have n3_ := Z_.mk (hbox); have n4_ := Z_.mk ((by rw [hg]; exact (zj_ (by repeat (first | exact HB.out | apply zc_ | apply za_ | apply zb_ | refine zd_ ?_ GE445.out | refine zd_ ?_ GE446.out))) : w.heap.size ≤ gb448)); have n5_ := Z_.mk ((by rw [hg]; exact (zj_ (by repeat (first | exact HB.out | apply zc_ | apply za_ | apply zb_ | refine zd_ ?_ GE445.out | refine zd_ ?_ GE446.out))) : w.heap.size ≤ gb448)); have n6_ := Z_.mk ((by rw [hg]; exact Nat.ne_of_lt (blk_lt (g := gb445) (o := .cells #[.int .i64 a0_0, .bool a0_1] 90 (0, 0)) (by (with_reducible repeat (first | refine zf_ ?_ _ | refine zh_ ?_ | refine blk_alloc ?_ _)); exact BK445.out)) : gb445 ≠ gb448)); have n7_ := Z_.mk ((by rw [hg]; exact Nat.ne_of_gt (blk_lt (g := gb445) (o := .cells #[.int .i64 a0_0, .bool a0_1] 90 (0, 0)) (by (with_reducible repeat (first | refine zf_ ?_ _ | refine zh_ ?_ | refine blk_alloc ?_ _)); exact BK445.out)) : gb448 ≠ gb445)); have n8_ := Z_.mk ((by rw [hg]; exact Nat.ne_of_lt (blk_lt (g := gb446) (o := .cells #[.int .i64 0, .bool false] 90 (0, 0)) (by (with_reducible repeat (first | refine zf_ ?_ _ | refine zh_ ?_ | refine blk_alloc ?_ _)); exact BK446.out)) : gb446 ≠ gb448)); have n9_ := Z_.mk ((by rw [hg]; exact Nat.ne_of_gt (blk_lt (g := gb446) (o := .cells #[.int .i64 0, .bool false] 90 (0, 0)) (by (with_reducible repeat (first | refine zf_ ?_ _ | refine zh_ ?_ | refine blk_alloc ?_ _)); exact BK446.out)) : gb448 ≠ gb446)); clear BK445; clear BK446; clear HB; have BK445 := n0_; have BK446 := n1_; have HB := n2_; have BK448 := n3_; have GW448 := n4_; have GE448 := n5_; have NB445_448 := n6_; have NB448_445 := n7_; have NB446_448 := n8_; have NB448_446 := n9_; clear n0_ n1_ n2_ n3_ n4_ n5_ n6_ n7_ n8_ n9_; clear hb hbox hg; have hnb27 := NB448_445.out; have hnc27 := NB445_448.out; have hnb28 := NB448_446.out; have hnc28 := NB446_448.out; have hcz29_0 : w26.cell? ⟨gb448, 0, none⟩ = some (.int .i64 0) := (zg_ BK448.out 0).trans rfl; have hcz29_1 : w26.cell? ⟨gb448, 1, none⟩ = some (.bool false) := (zg_ BK448.out 1).trans rfl; have hfz29_0 := zi_ BK448.out 0; have hfz29_1 := zi_ BK448.out 1) | ((with_reducible refine zp_ (f := 96) rfl ?_); refine goesL_ (some 28) rfl rfl Tryd.func96 (by kernel_rfl) rfl #[.agg #[.int .i64 (wrap64 (a0_0 + a1)), .bool a2]] rfl (by (try simp only [List.map_toArray, List.map_cons, List.map_nil]); first | done | rfl | (simp only [List.length_drop, List.length_take]; rfl)) ?_; (with_reducible refine (impl_Tone_valid.calls (wrap64 (a0_0 + a1)) a2 true _ A22.out).mono ?_); rintro e w30 ⟨rfl, hb⟩; refine ⟨_, rfl, ?_⟩; have n0_ := Z_.mk (zq_ (g := gb445) (o := .cells #[.int .i64 a0_0, .bool a0_1] 90 (0, 0)) (by (with_reducible repeat (first | refine zf_ ?_ _ | refine zh_ ?_ | refine blk_alloc ?_ _)); refine blk_far ?_ NB445_448.out _; (with_reducible repeat (first | refine zf_ ?_ _ | refine zh_ ?_ | refine blk_alloc ?_ _)); refine blk_far ?_ NB445_448.out _; (with_reducible repeat (first | refine zf_ ?_ _ | refine zh_ ?_ | refine blk_alloc ?_ _)); exact BK445.out) hb); have n1_ := Z_.mk (zq_ (g := gb446) (o := .cells #[.int .i64 0, .bool false] 90 (0, 0)) (by (with_reducible repeat (first | refine zf_ ?_ _ | refine zh_ ?_ | refine blk_alloc ?_ _)); refine blk_far ?_ NB446_448.out _; (with_reducible repeat (first | refine zf_ ?_ _ | refine zh_ ?_ | refine blk_alloc ?_ _)); refine blk_far ?_ NB446_448.out _; (with_reducible repeat (first | refine zf_ ?_ _ | refine zh_ ?_ | refine blk_alloc ?_ _)); exact BK446.out) hb); have n2_ := Z_.mk (zq_ (g := gb448) (o := .cells #[.int .i64 (wrap64 (a0_0 + a1)), .bool a2] 90 (0, 0)) (by (with_reducible repeat (first | refine zf_ ?_ _ | refine zh_ ?_ | refine blk_alloc ?_ _)); refine blk_put (cs := #[.int .i64 (wrap64 (a0_0 + a1)), .bool false]) ?_ 1 _ rfl; (with_reducible repeat (first | refine zf_ ?_ _ | refine zh_ ?_ | refine blk_alloc ?_ _)); refine blk_put (cs := #[.int .i64 0, .bool false]) ?_ 0 _ rfl; (with_reducible repeat (first | refine zf_ ?_ _ | refine zh_ ?_ | refine blk_alloc ?_ _)); exact BK448.out) hb); have n3_ := Z_.mk (ze_ (by repeat (first | exact HB.out | apply zc_ | apply za_ | apply zb_ | refine zd_ ?_ GE445.out | refine zd_ ?_ GE446.out | refine zd_ ?_ GE448.out)) hb); clear BK445; clear BK446; clear BK448; clear HB; have BK445 := n0_; have BK446 := n1_; have BK448 := n2_; have HB := n3_; clear n0_ n1_ n2_ n3_; have hcz31_0 : w30.cell? ⟨gb448, 0, none⟩ = some (.int .i64 (wrap64 (a0_0 + a1))) := (zg_ BK448.out 0).trans rfl; have hcz31_1 : w30.cell? ⟨gb448, 1, none⟩ = some (.bool a2) := (zg_ BK448.out 1).trans rfl; have hfz31_0 := zi_ BK448.out 0; have hfz31_1 := zi_ BK448.out 1; have hcz32_0 : w30.cell? ⟨gb446, 0, none⟩ = some (.int .i64 0) := (zg_ BK446.out 0).trans rfl; have hcz32_1 : w30.cell? ⟨gb446, 1, none⟩ = some (.bool false) := (zg_ BK446.out 1).trans rfl; have hfz32_0 := zi_ BK446.out 0; have hfz32_1 := zi_ BK446.out 1))
     refine bodyPost_ret (results_ct rfl _ _ gb446 90 #[.int .i64 (wrap64 (a0_0 + a1)), .bool a2] (0, 0) _ rfl (by (with_reducible repeat (first | refine zf_ ?_ _ | refine zh_ ?_ | refine blk_alloc ?_ _)); refine blk_put (cs := #[.int .i64 (wrap64 (a0_0 + a1)), .bool false]) ?_ 1 _ rfl; (with_reducible repeat (first | refine zf_ ?_ _ | refine zh_ ?_ | refine blk_alloc ?_ _)); refine blk_put (cs := #[.int .i64 0, .bool false]) ?_ 0 _ rfl; (with_reducible repeat (first | refine zf_ ?_ _ | refine zh_ ?_ | refine blk_alloc ?_ _)); exact BK446.out) Tryd.underlying90 rfl (by kernel_rfl)) rfl ?_; exact ⟨by first | rfl | (simp [zn_, zm_] <;> rfl) | (simp [*, zn_, zm_] <;> rfl), by repeat (first | exact HB.out | apply zc_ | apply za_ | apply zb_ | refine zd_ ?_ GE445.out | refine zd_ ?_ GE446.out | refine zd_ ?_ GE448.out)⟩
    ·
     replace c23 := Bool.eq_false_iff.mpr c23; subst c23; have H1 : (some (0, false, false)) = some (r1, r2, r3) := by rw [if_neg (show ¬ (false = true) by decide)] at H; exact H
     clear H; have H := H1; clear H1; simp only [Option.some.injEq, Prod.mk.injEq] at H; obtain ⟨rfl, rfl, rfl⟩ := H; have hnb33 := NB445_446.out; have hnc33 := NB446_445.out; have hcz34_0 : wc.cell? ⟨gb445, 0, none⟩ = some (.int .i64 a0_0) := (zg_ BK445.out 0).trans rfl; have hcz34_1 : wc.cell? ⟨gb445, 1, none⟩ = some (.bool a0_1) := (zg_ BK445.out 1).trans rfl; have hfz34_0 := zi_ BK445.out 0; have hfz34_1 := zi_ BK445.out 1; go_wp2_with (first | ((with_reducible refine zr_ (N := 8) rfl ?_); refine box_event ?hg (N := 8) ?hd (cs := #[.int .i64 0, .bool false]) (t := 90) ?hr ?_; (case hd => rfl); (case hg => rfl); (case hr => first | (go_simp; done) | (go_simp; rfl)); intro gb448 hg w35 hbox hb; have n0_ := Z_.mk (zq_ (g := gb445) (o := .cells #[.int .i64 a0_0, .bool a0_1] 90 (0, 0)) (by (with_reducible repeat (first | refine zf_ ?_ _ | refine zh_ ?_ | refine blk_alloc ?_ _)); exact BK445.out) hb); have n1_ := Z_.mk (zq_ (g := gb446) (o := .cells #[.int .i64 0, .bool false] 90 (0, 0)) (by (with_reducible repeat (first | refine zf_ ?_ _ | refine zh_ ?_ | refine blk_alloc ?_ _)); exact BK446.out) hb); have n2_ := Z_.mk (ze_ (by repeat (first | exact HB.out | apply zc_ | apply za_ | apply zb_ | refine zd_ ?_ GE445.out | refine zd_ ?_ GE446.out)) hb); have n3_ := Z_.mk (hbox); have n4_ := Z_.mk ((by rw [hg]; exact (zj_ (by repeat (first | exact HB.out | apply zc_ | apply za_ | apply zb_ | refine zd_ ?_ GE445.out | refine zd_ ?_ GE446.out))) : w.heap.size ≤ gb448)); have n5_ := Z_.mk ((by rw [hg]; exact (zj_ (by repeat (first | exact HB.out | apply zc_ | apply za_ | apply zb_ | refine zd_ ?_ GE445.out | refine zd_ ?_ GE446.out))) : w.heap.size ≤ gb448)); have n6_ := Z_.mk ((by rw [hg]; exact Nat.ne_of_lt (blk_lt (g := gb445) (o := .cells #[.int .i64 a0_0, .bool a0_1] 90 (0, 0)) (by (with_reducible repeat (first | refine zf_ ?_ _ | refine zh_ ?_ | refine blk_alloc ?_ _)); exact BK445.out)) : gb445 ≠ gb448)); have n7_ := Z_.mk ((by rw [hg]; exact Nat.ne_of_gt (blk_lt (g := gb445) (o := .cells #[.int .i64 a0_0, .bool a0_1] 90 (0, 0)) (by (with_reducible repeat (first | refine zf_ ?_ _ | refine zh_ ?_ | refine blk_alloc ?_ _)); exact BK445.out)) : gb448 ≠ gb445)); have n8_ := Z_.mk ((by rw [hg]; exact Nat.ne_of_lt (blk_lt (g := gb446) (o := .cells #[.int .i64 0, .bool false] 90 (0, 0)) (by (with_reducible repeat (first | refine zf_ ?_ _ | refine zh_ ?_ | refine blk_alloc ?_ _)); exact BK446.out)) : gb446 ≠ gb448)); have n9_ := Z_.mk ((by rw [hg]; exact Nat.ne_of_gt (blk_lt (g := gb446) (o := .cells #[.int .i64 0, .bool false] 90 (0, 0)) (by (with_reducible repeat (first | refine zf_ ?_ _ | refine zh_ ?_ | refine blk_alloc ?_ _)); exact BK446.out)) : gb448 ≠ gb446)); clear BK445; clear BK446; clear HB; have BK445 := n0_; have BK446 := n1_; have HB := n2_; have BK448 := n3_; have GW448 := n4_; have GE448 := n5_; have NB445_448 := n6_; have NB448_445 := n7_; have NB446_448 := n8_; have NB448_446 := n9_; clear n0_ n1_ n2_ n3_ n4_ n5_ n6_ n7_ n8_ n9_; clear hb hbox hg; have hnb36 := NB448_445.out; have hnc36 := NB445_448.out; have hnb37 := NB448_446.out; have hnc37 := NB446_448.out; have hcz38_0 : w35.cell? ⟨gb448, 0, none⟩ = some (.int .i64 0) := (zg_ BK448.out 0).trans rfl; have hcz38_1 : w35.cell? ⟨gb448, 1, none⟩ = some (.bool false) := (zg_ BK448.out 1).trans rfl; have hfz38_0 := zi_ BK448.out 0; have hfz38_1 := zi_ BK448.out 1) | ((with_reducible refine zp_ (f := 96) rfl ?_); refine goesL_ (some 28) rfl rfl Tryd.func96 (by kernel_rfl) rfl #[.agg #[.int .i64 (wrap64 (a0_0 + a1)), .bool a2]] rfl (by (try simp only [List.map_toArray, List.map_cons, List.map_nil]); first | done | rfl | (simp only [List.length_drop, List.length_take]; rfl)) ?_; (with_reducible refine (impl_Tone_valid.calls (wrap64 (a0_0 + a1)) a2 false _ A22.out).mono ?_); rintro e w39 ⟨rfl, hb⟩; refine ⟨_, rfl, ?_⟩; have n0_ := Z_.mk (zq_ (g := gb445) (o := .cells #[.int .i64 a0_0, .bool a0_1] 90 (0, 0)) (by (with_reducible repeat (first | refine zf_ ?_ _ | refine zh_ ?_ | refine blk_alloc ?_ _)); refine blk_far ?_ NB445_448.out _; (with_reducible repeat (first | refine zf_ ?_ _ | refine zh_ ?_ | refine blk_alloc ?_ _)); refine blk_far ?_ NB445_448.out _; (with_reducible repeat (first | refine zf_ ?_ _ | refine zh_ ?_ | refine blk_alloc ?_ _)); exact BK445.out) hb); have n1_ := Z_.mk (zq_ (g := gb446) (o := .cells #[.int .i64 0, .bool false] 90 (0, 0)) (by (with_reducible repeat (first | refine zf_ ?_ _ | refine zh_ ?_ | refine blk_alloc ?_ _)); refine blk_far ?_ NB446_448.out _; (with_reducible repeat (first | refine zf_ ?_ _ | refine zh_ ?_ | refine blk_alloc ?_ _)); refine blk_far ?_ NB446_448.out _; (with_reducible repeat (first | refine zf_ ?_ _ | refine zh_ ?_ | refine blk_alloc ?_ _)); exact BK446.out) hb); have n2_ := Z_.mk (zq_ (g := gb448) (o := .cells #[.int .i64 (wrap64 (a0_0 + a1)), .bool a2] 90 (0, 0)) (by (with_reducible repeat (first | refine zf_ ?_ _ | refine zh_ ?_ | refine blk_alloc ?_ _)); refine blk_put (cs := #[.int .i64 (wrap64 (a0_0 + a1)), .bool false]) ?_ 1 _ rfl; (with_reducible repeat (first | refine zf_ ?_ _ | refine zh_ ?_ | refine blk_alloc ?_ _)); refine blk_put (cs := #[.int .i64 0, .bool false]) ?_ 0 _ rfl; (with_reducible repeat (first | refine zf_ ?_ _ | refine zh_ ?_ | refine blk_alloc ?_ _)); exact BK448.out) hb); have n3_ := Z_.mk (ze_ (by repeat (first | exact HB.out | apply zc_ | apply za_ | apply zb_ | refine zd_ ?_ GE445.out | refine zd_ ?_ GE446.out | refine zd_ ?_ GE448.out)) hb); clear BK445; clear BK446; clear BK448; clear HB; have BK445 := n0_; have BK446 := n1_; have BK448 := n2_; have HB := n3_; clear n0_ n1_ n2_ n3_; have hcz40_0 : w39.cell? ⟨gb446, 0, none⟩ = some (.int .i64 0) := (zg_ BK446.out 0).trans rfl; have hcz40_1 : w39.cell? ⟨gb446, 1, none⟩ = some (.bool false) := (zg_ BK446.out 1).trans rfl; have hfz40_0 := zi_ BK446.out 0; have hfz40_1 := zi_ BK446.out 1))
     refine bodyPost_ret (results_ct rfl _ _ gb446 90 #[.int .i64 0, .bool false] (0, 0) _ rfl (by (with_reducible repeat (first | refine zf_ ?_ _ | refine zh_ ?_ | refine blk_alloc ?_ _)); refine blk_put (cs := #[.int .i64 0, .bool false]) ?_ 1 _ rfl; (with_reducible repeat (first | refine zf_ ?_ _ | refine zh_ ?_ | refine blk_alloc ?_ _)); refine blk_put (cs := #[.int .i64 0, .bool false]) ?_ 0 _ rfl; (with_reducible repeat (first | refine zf_ ?_ _ | refine zh_ ?_ | refine blk_alloc ?_ _)); exact BK446.out) Tryd.underlying90 rfl (by kernel_rfl)) rfl ?_; exact ⟨by first | rfl | (simp [zn_, zm_] <;> rfl) | (simp [*, zn_, zm_] <;> rfl), by repeat (first | exact HB.out | apply zc_ | apply za_ | apply zb_ | refine zd_ ?_ GE445.out | refine zd_ ?_ GE446.out | refine zd_ ?_ GE448.out)⟩

end Go.Proofs.YtmacedbpdhkagaaDoor.PFnTonaryFind
namespace Go.Proofs.YtmacedbpdhkagaaDoor.Pure
set_option linter.unusedVariables false
set_option linter.unusedSimpArgs false
open Go Go.RowKit Go.Proofs.YtmacedbpdhkagaaDoor.PFnTonaryFind Go.Proofs.YtmacedbpdhkagaaDoorW.PrintWords Go.Proofs.YtmacedbpdhkagaaDoorW.PrintLast Go.Proofs.YtmacedbpdhkagaaDoorW.PrintMore

theorem Ev.succ {α : Type} {g : Nat → Option α} {r : α} (h : Ev (fun k => g (k + 1)) r) : Ev g r := Ev.step (fun _ => rfl) h
theorem Ev.pos {α : Type} {c : Prop} [Decidable c] {f g : Nat → Option α} {r : α} (hc : c) (h : Ev f r) : Ev (fun k => if c then f k else g k) r := by
 simp only [if_pos hc]; exact h
theorem Ev.neg {α : Type} {c : Prop} [Decidable c] {f g : Nat → Option α} {r : α} (hc : ¬ c) (h : Ev g r) : Ev (fun k => if c then f k else g k) r := by
 simp only [if_neg hc]; exact h
theorem Ev.conb {α β : Type} {x : Option α} {a : α} {f : Nat → α → Option β} {r : β} (hx : x = some a) (h : Ev (fun n => f n a) r) : Ev (fun n => x.bind (f n)) r := by subst hx; exact h
theorem Ev.eqr {α : Type} {g : Nat → Option α} {r r' : α} (h : Ev g r) (e : r = r') : Ev g r' := e ▸ h
/-- A loop over the places of a list, from the front. -/
theorem Ev.over {α ρ σ : Type} (d : α) (xs : List α) (L : Nat → σ → Int → Option ρ) (F : σ → List α → ρ) (I : Nat → σ → Prop)
 (hend : ∀ s, I xs.length s → Ev (fun k => L k s (xs.length : Int)) (F s []))
 (hstep : ∀ s (i : Nat) rest, I i s → i < xs.length → xs.drop i = xs.getD i d :: rest → (∀ s', I (i + 1) s' → Ev (fun k => L k s' ((i : Int) + 1)) (F s' rest)) → Ev (fun k => L k s (i : Int)) (F s (xs.getD i d :: rest))) :
 ∀ (i : Nat) (s : σ), i ≤ xs.length → I i s → Ev (fun k => L k s (i : Int)) (F s (xs.drop i)) := by
 intro i s hi hI
 obtain ⟨n, hn⟩ : ∃ n, n = xs.length - i := ⟨_, rfl⟩
 induction n generalizing i s with
 | zero =>
  have e : i = xs.length := by omega
  subst e
  rw [List.drop_length]
  exact hend s hI
 | succ n ih =>
  have hlt : i < xs.length := by omega
  have e : xs.drop i = xs.getD i d :: xs.drop (i + 1) := by
   rw [List.drop_eq_getElem_cons hlt, List.getD_eq_getElem?_getD, List.getElem?_eq_getElem hlt]; rfl
  rw [e]
  refine hstep s i _ hI hlt e (fun s' hs' => ?_)
  have := ih (i + 1) s' (by omega) hs' (by omega)
  simpa using this
theorem w64 {x : Int} (h : -9223372036854775808 ≤ x) (h' : x ≤ 9223372036854775807) : wrap64 x = x := by unfold wrap64; omega
theorem xor_bd (x y : Int) (hx : 0 ≤ x) (hx' : x < 4611686018427387904) (hy : 0 ≤ y) (hy' : y < 4611686018427387904) : 0 ≤ Go.bits .xor .i64 x y := by
 obtain ⟨a, rfl⟩ := Int.eq_ofNat_of_zero_le hx
 obtain ⟨b, rfl⟩ := Int.eq_ofNat_of_zero_le hy
 have ha : a < 2 ^ 62 := by omega
 have hb : b < 2 ^ 62 := by omega
 have hc : a ^^^ b < 2 ^ 62 := Nat.xor_lt_two_pow ha hb
 have ha' : a % 2 ^ IntKind.i64.bits = a := Nat.mod_eq_of_lt (Nat.lt_of_lt_of_le ha (by decide))
 have hb' : b % 2 ^ IntKind.i64.bits = b := Nat.mod_eq_of_lt (Nat.lt_of_lt_of_le hb (by decide))
 have e : Go.bits .xor .i64 (a : Int) (b : Int) = ((a ^^^ b : Nat) : Int) := by
  simp only [Go.bits, BitVec.ofInt_natCast, BitVec.toNat_xor, BitVec.toNat_ofNat, ha', hb']
  rw [Go.IntKind.wrap_i64]; omega
 rw [e]; omega
theorem mx_le (a b : Int) : a ≤ mx a b ∧ b ≤ mx a b ∧ (mx a b = a ∨ mx a b = b) := by unfold mx; split <;> omega
/-- From some number of rounds on there is an answer, and it is such a one. -/
def Evx {α : Type} (g : Nat → Option α) (P : α → Prop) : Prop := ∃ r, Ev g r ∧ P r
theorem Evx.now {α : Type} {P : α → Prop} {r : α} (h : P r) : Evx (fun _ => some r) P := ⟨r, Ev.now r, h⟩
theorem Evx.mono {α : Type} {g : Nat → Option α} {P Q : α → Prop} (h : Evx g P) (hPQ : ∀ r, P r → Q r) : Evx g Q := by
 obtain ⟨r, h, hP⟩ := h; exact ⟨r, h, hPQ r hP⟩
theorem Evx.bind {α β : Type} {g : Nat → Option α} {f : Nat → α → Option β} {P : α → Prop} {Q : β → Prop} (h : Evx g P) (k : ∀ a, P a → Evx (fun n => f n a) Q) : Evx (fun n => (g n).bind (f n)) Q := by
 obtain ⟨a, h, hP⟩ := h
 obtain ⟨r, h', hQ⟩ := k a hP
 exact ⟨r, Ev.bind h h', hQ⟩
theorem Evx.succ {α : Type} {g : Nat → Option α} {P : α → Prop} (h : Evx (fun k => g (k + 1)) P) : Evx g P := by
 obtain ⟨r, h, hP⟩ := h; exact ⟨r, Ev.succ h, hP⟩
theorem Evx.pos {α : Type} {c : Prop} [Decidable c] {f g : Nat → Option α} {P : α → Prop} (hc : c) (h : Evx f P) : Evx (fun k => if c then f k else g k) P := by
 simp only [if_pos hc]; exact h
theorem Evx.neg {α : Type} {c : Prop} [Decidable c] {f g : Nat → Option α} {P : α → Prop} (hc : ¬ c) (h : Evx g P) : Evx (fun k => if c then f k else g k) P := by
 simp only [if_neg hc]; exact h
theorem Evx.ite {α : Type} {c : Prop} [Decidable c] {f g : Nat → Option α} {P : α → Prop} (h : c → Evx f P) (h' : ¬ c → Evx g P) : Evx (fun k => if c then f k else g k) P := by
 by_cases hc : c
 ·
  exact Evx.pos hc (h hc)
 ·
  exact Evx.neg hc (h' hc)
theorem Evx.someb {α β : Type} {a : α} {f : Nat → α → Option β} {P : β → Prop} (h : Evx (fun n => f n a) P) : Evx (fun n => (some a).bind (f n)) P := h
theorem Evx.conb {α β : Type} {x : Option α} {a : α} {f : Nat → α → Option β} {P : β → Prop} (hx : x = some a) (h : Evx (fun n => f n a) P) : Evx (fun n => x.bind (f n)) P := by subst hx; exact h
theorem Evx.bind1 {α β : Type} {g : Nat → Option α} {f : Nat → α → Option β} {a : α} {Q : β → Prop} (h : Ev g a) (k : Evx (fun n => f n a) Q) : Evx (fun n => (g n).bind (f n)) Q := by
 obtain ⟨r, h', hQ⟩ := k
 exact ⟨r, Ev.bind h h', hQ⟩
theorem rd_bd {s : List Int} (hs : ∀ x ∈ s, 0 ≤ x ∧ x ≤ 255) (i : Int) : 0 ≤ rd s i ∧ rd s i ≤ 255 := by
 unfold rd
 rw [List.getD_eq_getElem?_getD]
 cases h : s[i.toNat]? with
 | none => simp
 | some v => exact hs v (List.mem_of_getElem? h)
def toneOk (t : S90) : Bool := decide (0 ≤ t.f0 ∧ t.f0 ≤ 20) && (!t.f1 || Int.tmod t.f0 7 == 2)
def melOk (m : List S90) : Bool := decide (m.length ≤ 24) && m.all toneOk
theorem melOk_len {m : List S90} (h : melOk m = true) : m.length ≤ 24 := by
 unfold melOk at h; simp at h; exact h.1
theorem impl_Tone_valid_eq (a : Int) (b : Bool) : impl_Tone_valid.f a b = some (toneOk ⟨a, b⟩) := by
 unfold impl_Tone_valid.f toneOk
 by_cases h : a ≥ 0
 ·
  by_cases h' : a ≤ 20
  ·
   cases b
   ·
    simp [h, h']
   ·
    simp [h, h']
  ·
   simp [h, h']
 ·
  have : ¬ (0 ≤ a) := h
  simp [this]

theorem impl_MelodyValid_ev (m : List S90) : Ev (fun k => impl_MelodyValid.f k m) (melOk m) := by
 unfold impl_MelodyValid.f
 by_cases h : (m.length : Int) > 24
 ·
  refine Ev.eqr (Ev.pos h (Ev.now _)) ?_
  unfold melOk
  rw [decide_eq_false (by omega)]; rfl
 ·
  refine Ev.eqr (Ev.neg h (r := m.all toneOk) ?_) (by unfold melOk; rw [decide_eq_true (by omega)]; rfl)
  have := Ev.over z90 m (fun k (_ : Unit) i => impl_MelodyValid.l0 k m m.length i) (fun _ l => l.all toneOk) (fun _ _ => True) (by
   intro s _
   refine Ev.succ ?_
   simp only [impl_MelodyValid.l0]
   exact Ev.neg (by omega) (Ev.now _)) (by
   intro s i rest _ hi _ ih
   refine Ev.succ ?_
   simp only [impl_MelodyValid.l0]
   refine Ev.pos (by omega) (Ev.pos (by omega) (Ev.pos (by omega) (Ev.conb (impl_Tone_valid_eq _ _) ?_)))
   show Ev _ (toneOk (rd_T90 m i) && _)
   cases ht : toneOk (rd_T90 m i)
   ·
    exact Ev.neg (by simp [ht]) (Ev.now _)
   ·
    refine Ev.pos (by simp [ht]) ?_
    rw [w64 (by omega) (by omega)]
    simpa using ih () trivial) 0 () (Nat.zero_le _) trivial
  simpa using this

def mRow (mode : Int) : Int × Int × Int × Int :=
 if mode = 1 then (4, 8, 3, 12) else if mode = 2 then (4, 6, 0, 9) else if mode = 3 then (5, 10, 4, 13) else if mode = 4 then (5, 8, 1, 10) else if mode = 5 then (6, 10, 5, 14) else if mode = 6 then (6, 8, 2, 11) else if mode = 7 then (7, 11, 6, 15) else (7, 10, 3, 12)
def mOk (mode : Int) : Bool := decide (1 ≤ mode ∧ mode ≤ 8)
theorem mOk_cases {mode : Int} (h : mOk mode = true) : mode = 1 ∨ mode = 2 ∨ mode = 3 ∨ mode = 4 ∨ mode = 5 ∨ mode = 6 ∨ mode = 7 ∨ mode = 8 := by
 unfold mOk at h; simp at h; omega
def mlo : Int → List S90 → Int
 | a, [] => a
 | a, x :: xs => mlo (mn a x.f0) xs
def mhi : Int → List S90 → Int
 | a, [] => a
 | a, x :: xs => mhi (mx a x.f0) xs
def mSome (m : List S90) : Bool := melOk m && decide (0 < m.length)
def mIn (m : List S90) (mode : Int) : Bool :=
 mSome m && (mOk mode && ((rd_T90 m ((m.length : Int) - 1)).f0 == (mRow mode).1 && (!(rd_T90 m ((m.length : Int) - 1)).f1 && (decide ((mRow mode).2.2.1 ≤ mlo (rd_T90 m 0).f0 m) && decide (mhi (rd_T90 m 0).f0 m ≤ (mRow mode).2.2.2)))))
def mUp (m : List S90) : Nat → List Int
 | 0 => []
 | n + 1 => if mIn m ((n : Int) + 1) = true then mUp m n ++ [(n : Int) + 1] else mUp m n
def lowB (l : List UInt8) : Bool := l.all fun c => decide (97 ≤ c.toNat ∧ c.toNat ≤ 122)
def entOk (e : S38) : Bool := mOk e.f1 && (decide (1 ≤ e.f0.size ∧ e.f0.size ≤ 10) && (lowB e.f0.data.toList && (decide (1 ≤ e.f2.length ∧ e.f2.length ≤ 8) && melOk e.f2)))
def nmLt (a b : ByteArray) : Bool := Op.bytesLess a.toList b.toList
def befE (p e : S38) : Bool := if p.f1 < e.f1 then true else if p.f1 = e.f1 then nmLt p.f0 e.f0 else false
def tOkFrom : Option S38 → List S38 → Bool
 | _, [] => true
 | none, e :: es => entOk e && tOkFrom (some e) es
 | some p, e :: es => entOk e && (befE p e && tOkFrom (some e) es)
def tonOk (L : List S38) : Bool := decide (L.length ≤ 20) && tOkFrom none L
def prevOf (L : List S38) (i : Nat) : Option S38 := if i = 0 then none else some (rd_T38 L ((i : Int) - 1))
theorem nmLt_tot (a b : ByteArray) : (Op.bytesLess a.toList b.toList || a.toList == b.toList) = !nmLt b a := by
 unfold nmLt
 rw [bytesLess_eq, bytesLess_eq]
 by_cases h1 : a.toList < b.toList
 ·
  have h2 : ¬ b.toList < a.toList := fun h => List.lt_asymm h1 h
  simp [h1, h2]
 ·
  by_cases h2 : b.toList < a.toList
  ·
   have h3 : ¬ a.toList = b.toList := fun e => by rw [e] at h2; exact List.lt_irrefl _ h2
   simp [h1, h2, h3]
  ·
   have h3 : a.toList = b.toList := by
    exact List.le_antisymm (List.not_lt.1 h2) (List.not_lt.1 h1)
   rw [h3]
   simp [List.lt_irrefl]

def lhL : List Int := [0, 2, 4, 5, 7, 9, 10]
def lh (x : Int) : Int := lhL.getD (Int.tmod x 7).toNat 0
def hgt (t : S90) : Int := if t.f1 = true then lh t.f0 + 12 * Int.tdiv t.f0 7 - 1 else lh t.f0 + 12 * Int.tdiv t.f0 7
theorem toneOk_bd {t : S90} (h : toneOk t = true) : 0 ≤ t.f0 ∧ t.f0 ≤ 20 := by unfold toneOk at h; simp at h; exact h.1
theorem lh_bd (x : Int) : 0 ≤ lh x ∧ lh x ≤ 10 := by
 unfold lh
 generalize (Int.tmod x 7).toNat = n
 match n with
 | 0 => decide
 | 1 => decide
 | 2 => decide
 | 3 => decide
 | 4 => decide
 | 5 => decide
 | 6 => decide
 | n + 7 =>
  have : lhL.getD (n + 7) 0 = 0 := rfl
  rw [this]; decide
theorem mod7 {x : Int} (h : 0 ≤ x) : 0 ≤ Int.tmod x 7 ∧ Int.tmod x 7 < 7 := ⟨Int.tmod_nonneg _ h, Int.tmod_lt_of_pos _ (by decide)⟩
theorem div7 {x : Int} (h : 0 ≤ x) (h' : x ≤ 20) : 0 ≤ Int.tdiv x 7 ∧ Int.tdiv x 7 ≤ 2 := by
 rw [Int.tdiv_eq_ediv_of_nonneg h]; omega
theorem hgt_bd {t : S90} (h : toneOk t = true) : -1 ≤ hgt t ∧ hgt t ≤ 34 := by
 have h1 := toneOk_bd h
 have h2 := lh_bd t.f0
 have h3 := div7 h1.1 h1.2
 unfold hgt
 split <;> omega
def mvT (t : S90) (k : Int) (s : Bool) : S90 := ⟨t.f0 + k, s⟩
def mvGood (k semis : Int) (t : S90) (s : Bool) : Bool := toneOk (mvT t k s) && decide (hgt (mvT t k s) - hgt t = semis)
def mvAll (k semis : Int) : List S90 → Option (List S90)
 | [] => some []
 | t :: ts => if mvGood k semis t false = true then (mvAll k semis ts).map (mvT t k false :: ·) else if mvGood k semis t true = true then (mvAll k semis ts).map (mvT t k true :: ·) else none
def movedP (k semis : Int) (m : List S90) : List S90 × Bool := match mvAll k semis m with
 | some l => (l, true)
 | none => ([], false)
def mmTry (m : List S90) (k : Int) (s : Bool) : Bool := toneOk (mvT (rd_T90 m 0) k s) && (movedP k (hgt (mvT (rd_T90 m 0) k s) - hgt (rd_T90 m 0)) m).2
def mmOf (m : List S90) (k : Int) (s : Bool) : List S90 := (movedP k (hgt (mvT (rd_T90 m 0) k s) - hgt (rd_T90 m 0)) m).1
def mmove (m : List S90) (k : Int) : List S90 × Bool :=
 if melOk m = true then (if m.length = 0 then ([], true) else if -20 ≤ k ∧ k ≤ 20 then (if mmTry m k false = true then (mmOf m k false, true) else if mmTry m k true = true then (mmOf m k true, true) else ([], false)) else ([], false)) else ([], false)
theorem mvAll_len (k semis : Int) : ∀ (m l : List S90), mvAll k semis m = some l → l.length = m.length
 | [], l, h => by cases h; rfl
 | t :: ts, l, h => by
  simp only [mvAll] at h
  split at h
  ·
   obtain ⟨l', h1, rfl⟩ := Option.map_eq_some_iff.1 h
   simp [mvAll_len k semis ts l' h1]
  ·
   split at h
   ·
    obtain ⟨l', h1, rfl⟩ := Option.map_eq_some_iff.1 h
    simp [mvAll_len k semis ts l' h1]
   ·
    cases h
theorem movedP_len (k semis : Int) (m : List S90) : (movedP k semis m).1.length ≤ m.length := by
 unfold movedP
 cases h : mvAll k semis m with
 | none => exact Nat.zero_le _
 | some l => exact Nat.le_of_eq (mvAll_len k semis m l h)
theorem mmove_len (m : List S90) (k : Int) : (mmove m k).1.length ≤ 24 := by
 unfold mmove
 split
 ·
  rename_i h
  have := melOk_len h
  split
  ·
   exact Nat.zero_le _
  ·
   split
   ·
    split
    ·
     exact Nat.le_trans (movedP_len _ _ _) this
    ·
     split
     ·
      exact Nat.le_trans (movedP_len _ _ _) this
     ·
      exact Nat.zero_le _
   ·
    exact Nat.zero_le _
 ·
  exact Nat.zero_le _

theorem impl_equalNumbers_ev (a b : List Int) (hl : a.length ≤ 1000000000000) : Ev (fun k => impl_equalNumbers.f k a b) (a == b) := by
 unfold impl_equalNumbers.f
 by_cases hlen : (a.length : Int) = (b.length : Int)
 ·
  refine Ev.pos hlen ?_
  have := Ev.over (0 : Int) a (fun k (_ : Unit) i => impl_equalNumbers.l0 k b a a.length i) (fun _ rest => rest == b.drop (a.length - rest.length)) (fun _ _ => True) (by
   intro s _
   refine Ev.succ ?_
   simp only [impl_equalNumbers.l0]
   refine Ev.eqr (Ev.neg (by omega) (Ev.now _)) ?_
   have : b.drop a.length = [] := List.drop_eq_nil_of_le (by omega)
   simp [this]) (by
   intro s i rest _ hi hdr ih
   have hrl : rest.length + 1 + i = a.length := by
    have := congrArg List.length hdr
    simp at this; omega
   refine Ev.succ ?_
   simp only [impl_equalNumbers.l0]
   rw [w64 (by omega) (by omega)]
   refine Ev.pos (by omega) (Ev.pos (by omega) (Ev.pos (by omega) (Ev.pos (by omega) ?_)))
   have hra : rd a (i : Int) = a.getD i 0 := rfl
   have hrb : rd b (i : Int) = b.getD i 0 := rfl
   rw [hra, hrb]
   have e2 : a.length - (a.getD i 0 :: rest).length = i := by simp; omega
   have e1 : a.length - rest.length = i + 1 := by omega
   have e3 : b.drop i = b.getD i 0 :: b.drop (i + 1) := by
    rw [List.drop_eq_getElem_cons (by omega), List.getD_eq_getElem?_getD, List.getElem?_eq_getElem (by omega)]; rfl
   rw [e2, e3]
   have ih := ih () trivial
   rw [e1] at ih
   by_cases h : a.getD i 0 = b.getD i 0
   ·
    refine Ev.pos h (Ev.eqr ih ?_)
    rw [h, Bool.eq_iff_iff]; simp
   ·
    refine Ev.neg h (Ev.eqr (Ev.now _) ?_)
    symm; rw [beq_eq_false_iff_ne]; intro hc; exact h (List.cons.inj hc).1) 0 () (Nat.zero_le _) trivial
  simpa using this
 ·
  refine Ev.neg hlen (Ev.eqr (Ev.now _) ?_)
  symm; rw [beq_eq_false_iff_ne]; rintro rfl; exact hlen rfl

def Lk (w : World) (B : Nat) : Value → List S90 → Prop
 | v, [] => v = .pointer none
 | v, x :: xs => ∃ b nx, v = .pointer (some ⟨b, 0, none⟩) ∧ B ≤ b ∧ w.heap[b]? = some (.cells #[.int .i64 x.f0, .bool x.f1, nx] 125 (0, 0)) ∧ Lk w B nx xs
theorem Lk.below {w w' : World} {B : Nat} (hb : Below w.heap.size w w') : ∀ {xs : List S90} {v : Value}, Lk w B v xs → Lk w' B v xs
 | [], _, h => h
 | x :: xs, _, ⟨b, nx, h1, h2, h3, h4⟩ => ⟨b, nx, h1, h2, (hb.block _ (blk_lt h3)).trans h3, Lk.below hb h4⟩
theorem Lk.ptr {w : World} {B : Nat} : ∀ {xs : List S90} {v : Value}, Lk w B v xs → ∃ p, v = .pointer p
 | [], _, h => ⟨_, h⟩
 | x :: xs, _, ⟨b, nx, h1, _⟩ => ⟨_, h1⟩
set_option maxHeartbeats 4000000 in
set_option maxRecDepth 100000 in
theorem impl_linked_calls (m : List S90) (A0 : Option Addr) (c0 : Nat) (w : World) (hr0 : Kd.C k90 w A0 m.length m) (hc0 : m.length ≤ c0) (hm : m.length ≤ 1000000000000) :
 Calls Tryd.prog 105 #[.slice A0 m.length c0] w fun e w' => ∃ v, e = .returned v ∧ Lk w' w.heap.size v m ∧ Below w.heap.size w w' := by
 have HR0 := Z_.mk hr0
 have HC0 := Z_.mk hc0
 clear hr0 hc0
 have hu := Tryd.underlying125
 have hu1 := Tryd.underlying90
 go_enter Tryd.func105, Tryd.ntmps105
 go_wp2
 go_loopg [3, 4] m.length (fun kq v3 v4 w' => ∃ (i : Int), v4 = .int .i64 i ∧ Z_ (kq = (i + 1).toNat ∧ -1 ≤ i ∧ i < (m.length : Int)) ∧ Z_ (Lk w' w.heap.size v3 (m.drop (i + 1).toNat)) ∧ Z_ (Below w.heap.size w w'))
 case atStart =>
  have e : ((m.length : Int) - 1 + 1).toNat = m.length := by omega
  have hL : Lk w w.heap.size (.pointer none) (m.drop ((m.length : Int) - 1 + 1).toNat) := by rw [e, List.drop_length]; rfl
  exact ⟨(m.length : Int) - 1, rfl, ⟨by omega, by omega, by omega⟩, ⟨hL⟩, ⟨by repeat (first | exact Below.refl _ _ | apply zc_ | apply za_ | apply zb_)⟩⟩
 case round =>
  obtain ⟨i, rfl, HX, HL, HB⟩ := hrel
  obtain ⟨hk, hi0, hi1⟩ := HX.out
  obtain ⟨p, rfl⟩ := HL.out.ptr
  by_cases h : 0 ≤ i
  ·
   have d1 : decide (0 ≤ i) = true := decide_eq_true h
   obtain ⟨ad, e1, ux0, ux1⟩ := at_T90 HR0.out i h hi1
   subst e1
   have hx0 := (HB.out.cell (bl_ w _ ux0)).trans ux0
   have hx1 := (HB.out.cell (bl_ w _ ux1)).trans ux1
   obtain ⟨X, hX⟩ : ∃ X, X = rd_T90 m i := ⟨_, rfl⟩
   rw [← hX] at hx0 hx1
   have hdr : Z_ (m.drop (i - 1 + 1).toNat = X :: m.drop (i + 1).toNat) := by
    have e0 : (i - 1 + 1).toNat = i.toNat := by omega
    have e1 : (i + 1).toNat = i.toNat + 1 := by omega
    refine ⟨?_⟩
    rw [e0, e1, List.drop_eq_getElem_cons (by omega), hX]
    unfold rd_T90
    rw [List.getD_eq_getElem?_getD, List.getElem?_eq_getElem (by omega)]; rfl
   have NX : Z_ ((i - 1 + 1).toNat < gk ∧ -1 ≤ i - 1 ∧ i - 1 < (m.length : Int)) := ⟨by omega, by omega, by omega⟩
   have j0 := eq_true h
   have j1 := eq_true hi1
   clear hX ux0 ux1 hk
   go_wp2_with ((with_reducible refine zr_ (N := 18) rfl ?_); refine box_event ?hg (N := 18) ?hd (cs := #[.int .i64 X.f0, .bool X.f1, .pointer p]) (t := 125) ?hr ?_; (case hd => rfl); (case hg => rfl); (case hr => first | (go_simp; done) | (go_simp; rfl)); intro gb hg w3 hbox hb3; have HBX := Z_.mk hbox; have HL3 := Z_.mk (HL.out.below hb3); have HB3 := Z_.mk (ze_ HB.out hb3); have GW := Z_.mk (show w.heap.size ≤ gb from (by rw [hg]; exact HB.out.size)); clear hg hbox hb3)
   go_roundg ((i - 1 + 1).toNat)
   case measure => exact NX.out.1
   case rel => exact ⟨i - 1, rfl, ⟨rfl, NX.out.2⟩, ⟨by rw [hdr.out]; exact ⟨gb, _, rfl, GW.out, HBX.out, HL3.out⟩⟩, HB3⟩
  ·
   have d1 : decide (0 ≤ i) = false := decide_eq_false h
   obtain rfl : i = -1 := by omega
   have HL' := HL.out
   go_wp2
   go_ret
   exact ⟨_, rfl, HL', HB.out⟩

def diffs (g : S90 → S90 → Int) : List S90 → List Int
 | [] => []
 | [_] => []
 | x :: y :: r => g x y :: diffs g (y :: r)
theorem diffs_len (g : S90 → S90 → Int) : ∀ m : List S90, (diffs g m).length = m.length - 1
 | [] => rfl
 | [_] => rfl
 | x :: y :: r => by
  have := diffs_len g (y :: r)
  simp only [diffs, List.length_cons] at this ⊢
  omega
def mdiffs (g : S90 → S90 → Int) (m : List S90) : List Int := if melOk m = true then diffs g m else []
theorem Lk.grown {w w1 : World} {B B' : Nat} {ok : Nat → Prop} {v0 : Value} {X : List Int} (hr : Kd.R (Kd.int .i64) 3 w B' ok v0 X) (hg : w.grownBy w1 v0.ownBlock) : ∀ {xs : List S90} {v : Value}, Lk w B v xs → Lk w1 B v xs
 | [], _, h => h
 | x :: xs, _, ⟨b, nx, h1, h2, h3, h4⟩ => ⟨b, nx, h1, h2, blk_grown h3 hg (Kd.R_ne hr h3 (by decide)), Lk.grown hr hg h4⟩
theorem melOk_all {m : List S90} (h : melOk m = true) : m.all toneOk = true := by
 unfold melOk at h; rw [Bool.and_eq_true] at h; exact h.2

end Go.Proofs.YtmacedbpdhkagaaDoor.Pure
namespace Go.Proofs.YtmacedbpdhkagaaDoor.Pure
set_option linter.unusedVariables false
set_option linter.unusedSimpArgs false
open Go Go.RowKit Go.Proofs.YtmacedbpdhkagaaDoor.PFnTonaryFind Go.Proofs.YtmacedbpdhkagaaDoorW.PrintWords Go.Proofs.YtmacedbpdhkagaaDoorW.PrintLast Go.Proofs.YtmacedbpdhkagaaDoorW.PrintMore

def hCells : Array Value := #[.int .i64 0, .int .i64 2, .int .i64 4, .int .i64 5, .int .i64 7, .int .i64 9, .int .i64 10]
def HTab (w : World) : Prop := ∃ t fz, w.heap[0]? = some (.cells hCells t fz)
theorem HTab.below {w w' : World} (h : HTab w) (hb : Below w.heap.size w w') : HTab w' := by
 obtain ⟨t, fz, h⟩ := h
 exact ⟨t, fz, (hb.block _ (blk_lt h)).trans h⟩
theorem HTab.at {w : World} (h : HTab w) (x : Int) (h0 : 0 ≤ x) : w.cell? ⟨0, (Int.tmod x 7).toNat, none⟩ = some (.int .i64 (lh x)) := by
 obtain ⟨t, fz, h⟩ := h
 refine (cell_of_row w _ _ hCells t fz h).trans ?_
 have := mod7 h0
 unfold lh
 obtain ⟨n, hn⟩ : ∃ n, n = (Int.tmod x 7).toNat := ⟨_, rfl⟩
 rw [← hn]
 have hn7 : n < 7 := by omega
 clear hn
 match n, hn7 with
 | 0, _ => rfl
 | 1, _ => rfl
 | 2, _ => rfl
 | 3, _ => rfl
 | 4, _ => rfl
 | 5, _ => rfl
 | 6, _ => rfl
set_option maxHeartbeats 4000000 in
set_option maxRecDepth 100000 in
theorem impl_height_calls (t : S90) (w : World) (ht : HTab w) (hok : toneOk t = true) :
 Calls Tryd.prog 81 #[.agg #[.int .i64 t.f0, .bool t.f1]] w fun e w' => e = .returned (.int .i64 (hgt t)) ∧ Below w.heap.size w w' := by
 have hu1 := Tryd.underlying90
 have hb := toneOk_bd hok
 have h4 := mod7 hb.1
 have h3 := div7 hb.1 hb.2
 have hl := lh_bd t.f0
 have HT := Z_.mk ht
 have e1 : wrap64 (Int.tdiv t.f0 7) = Int.tdiv t.f0 7 := w64 (by omega) (by omega)
 have e2 : wrap64 (12 * Int.tdiv t.f0 7) = 12 * Int.tdiv t.f0 7 := w64 (by omega) (by omega)
 have e3 : wrap64 (lh t.f0 + 12 * Int.tdiv t.f0 7) = lh t.f0 + 12 * Int.tdiv t.f0 7 := w64 (by omega) (by omega)
 have e4 : wrap64 (lh t.f0 + 12 * Int.tdiv t.f0 7 - 1) = lh t.f0 + 12 * Int.tdiv t.f0 7 - 1 := w64 (by omega) (by omega)
 have i1 := eq_true h4.1
 have i2 := eq_true h4.2
 cases hs : t.f1
 ·
  have eh : hgt t = lh t.f0 + 12 * Int.tdiv t.f0 7 := by unfold hgt; rw [hs]; rfl
  rw [eh]
  clear eh hok ht
  go_enter Tryd.func81, Tryd.ntmps81
  go_wp2_with ((with_reducible refine zr_ (N := 1) rfl ?_); refine box_event ?hg (N := 1) ?hd (cs := #[.int .i64 t.f0, .bool false]) (t := 90) ?hr ?_; (case hd => rfl); (case hg => rfl); (case hr => first | (go_simp; done) | (go_simp; rfl)); intro gb hg w3 hbox hb3; have HB3 := Z_.mk hb3; have hx0 : w3.cell? ⟨gb, 0, none⟩ = some (.int .i64 t.f0) := (zg_ hbox 0).trans rfl; have hx1 : w3.cell? ⟨gb, 1, none⟩ = some (.bool false) := (zg_ hbox 1).trans rfl; have hgl := (HT.out.below hb3).at t.f0 hb.1; clear hg hbox hb3)
  go_region
  all_goals
   go_wp2
   go_ret
   exact ⟨rfl, zb_ HB3.out⟩
 ·
  have eh : hgt t = lh t.f0 + 12 * Int.tdiv t.f0 7 - 1 := by unfold hgt; rw [hs]; rfl
  rw [eh]
  clear eh hok ht
  go_enter Tryd.func81, Tryd.ntmps81
  go_wp2_with ((with_reducible refine zr_ (N := 1) rfl ?_); refine box_event ?hg (N := 1) ?hd (cs := #[.int .i64 t.f0, .bool true]) (t := 90) ?hr ?_; (case hd => rfl); (case hg => rfl); (case hr => first | (go_simp; done) | (go_simp; rfl)); intro gb hg w3 hbox hb3; have HB3 := Z_.mk hb3; have hx0 : w3.cell? ⟨gb, 0, none⟩ = some (.int .i64 t.f0) := (zg_ hbox 0).trans rfl; have hx1 : w3.cell? ⟨gb, 1, none⟩ = some (.bool true) := (zg_ hbox 1).trans rfl; have hgl := (HT.out.below hb3).at t.f0 hb.1; clear hg hbox hb3)
  go_region
  all_goals
   go_wp2
   go_ret
   exact ⟨rfl, zb_ HB3.out⟩
theorem impl_ToneAbove_eq (t : S90) (a : Int) (s : Bool) (ht : toneOk t = true) (ha : -20 ≤ a ∧ a ≤ 20) : impl_ToneAbove.f 1 t.f0 t.f1 a s = some (if toneOk (mvT t a s) = true then (t.f0 + a, s, true) else (0, false, false)) := by
 have hb := toneOk_bd ht
 unfold impl_ToneAbove.f
 rw [impl_Tone_valid_eq]
 have e : (⟨t.f0, t.f1⟩ : S90) = t := rfl
 have d : decide (a > 20) = false := decide_eq_false (by omega)
 rw [e, ht, Option.bind_some, if_pos rfl, if_neg (by omega), d]
 simp only [impl_ToneAbove.j0]
 rw [if_neg (by simp), w64 (x := t.f0 + a) (by omega) (by omega), impl_Tone_valid_eq, Option.bind_some]
 show (if toneOk (mvT t a s) = true then _ else _) = _
 split <;> rfl

end Go.Proofs.YtmacedbpdhkagaaDoor.Pure
namespace Go.Proofs.YtmacedbpdhkagaaDoor.Pure
set_option linter.unusedVariables false
set_option linter.unusedSimpArgs false
open Go Go.RowKit Go.Proofs.YtmacedbpdhkagaaDoor.PFnTonaryFind Go.Proofs.YtmacedbpdhkagaaDoorW.PrintWords Go.Proofs.YtmacedbpdhkagaaDoorW.PrintLast Go.Proofs.YtmacedbpdhkagaaDoorW.PrintMore

def mvRes (k semis : Int) (X l : List S90) : List S90 × Bool := match mvAll k semis l with
 | some r => (X ++ r, true)
 | none => ([], false)
theorem mvRes_nil (k semis : Int) (X : List S90) : mvRes k semis X [] = (X, true) := by simp [mvRes, mvAll]
theorem mvRes_yes {k semis : Int} {X l : List S90} {x : S90} {b : Bool} (h : mvGood k semis x b = true) (h' : b = true → ¬ mvGood k semis x false = true) : mvRes k semis X (x :: l) = mvRes k semis (X ++ [mvT x k b]) l := by
 unfold mvRes
 simp only [mvAll]
 cases b
 ·
  rw [if_pos h]; cases mvAll k semis l <;> simp
 ·
  rw [if_neg (h' rfl), if_pos h]; cases mvAll k semis l <;> simp
theorem mvRes_no {k semis : Int} {X l : List S90} {x : S90} (h : ¬ mvGood k semis x true = true) (h' : ¬ mvGood k semis x false = true) : mvRes k semis X (x :: l) = ([], false) := by
 unfold mvRes
 simp only [mvAll]
 rw [if_neg h', if_neg h]
theorem movedP_res (k semis : Int) (m : List S90) : movedP k semis m = mvRes k semis [] m := by unfold movedP mvRes; cases mvAll k semis m <;> simp
theorem LkT.grown {w w1 : World} {B B' : Nat} {ok : Nat → Prop} {v0 : Value} {X : List S90} (hr : Kd.R k90 90 w B' ok v0 X) (hg : w.grownBy w1 v0.ownBlock) : ∀ {xs : List S90} {v : Value}, Lk w B v xs → Lk w1 B v xs
 | [], _, h => h
 | x :: xs, _, ⟨b, nx, h1, h2, h3, h4⟩ => ⟨b, nx, h1, h2, blk_grown h3 hg (Kd.R_ne hr h3 (by decide)), LkT.grown hr hg h4⟩
set_option maxHeartbeats 8000000 in
set_option maxRecDepth 100000 in
theorem impl_movedMelody_calls (m : List S90) (k semis : Int) (A0 : Option Addr) (c0 : Nat) (w : World) (ht : HTab w) (hr0 : Kd.C k90 w A0 m.length m) (hc0 : m.length ≤ c0) (hok : melOk m = true) (hk : -20 ≤ k ∧ k ≤ 20) :
 Calls Tryd.prog 80 #[.slice A0 m.length c0, .int .i64 k, .int .i64 semis] w fun e w' => ∃ v, e = .returned (.tuple #[v, .bool (movedP k semis m).2]) ∧ Kd.R k90 90 w' w.heap.size (fun _ => True) v (movedP k semis m).1 ∧ Below w.heap.size w w' := by
 have hu := Tryd.underlying125
 have hu1 := Tryd.underlying90
 have ix0 : ∀ w, (Instr.index 99 (.agg #[.bool false, .bool true]) (.int .i64 0)).run Tryd.prog w = .ok (.bool false) w := fun _ => by kernel_rfl
 have ix1 : ∀ w, (Instr.index 99 (.agg #[.bool false, .bool true]) (.int .i64 1)).run Tryd.prog w = .ok (.bool true) w := fun _ => by kernel_rfl
 have HT := Z_.mk ht
 have HR0 := Z_.mk hr0
 have HC0 := Z_.mk hc0
 have hall := melOk_all hok
 have hlen := melOk_len hok
 have HKK := Z_.mk hk
 obtain ⟨⟨R1, R2⟩, hR⟩ : ∃ R, R = movedP k semis m := ⟨_, rfl⟩
 rw [← hR]
 rw [movedP_res] at hR
 have HRR := Z_.mk hR.symm
 have HALL := Z_.mk (And.intro hall hlen)
 clear hr0 hc0 ht hR hok hall hk
 go_enter Tryd.func80, Tryd.ntmps80
 go_wp2_with (first
  | ((with_reducible refine zr_ (N := 15) rfl ?_); refine Kd.R_lit k90 _ 90 ?hg (N := 15) ?hd (xs := ([] : List S90)) (inner := []) (ok := fun _ => True) (okp := fun _ => True) ?hr (Reps.none _ _) (fun _ hk => hk) trivial (Below.refl _ _) (Nat.le_refl _) (by simp) ?_; (case hd => rfl); (case hg => rfl); (case hr => first | (go_simp; done) | (go_simp; rfl)); intro v1 w1 ho1 hb1 _ _; have HO1 := Z_.mk ho1; have HB1 := Z_.mk hb1; clear ho1 hb1)
  | (go_at_call 105; refine (impl_linked_calls m _ _ w1 (Kd.C_below HR0.out HB1.out) HC0.out (by omega)).mono ?_; rintro e w3 ⟨v3, rfl, hl3, hb3⟩; have HL3 := Z_.mk hl3; have HO3 := Z_.mk (Kd.R_below HO1.out hb3); have HB3 := Z_.mk (ze_ HB1.out hb3); clear hl3 hb3))
 go_loopg [8, 9] m.length (fun kq v8 v9 w' => ∃ (X : List S90) (l : List S90), Z_ (kq = l.length ∧ mvRes k semis X l = (R1, R2) ∧ l.all toneOk = true ∧ X.length + l.length ≤ 24) ∧ Z_ (Kd.R k90 90 w' w.heap.size (fun _ => True) v8 X) ∧ Z_ (Lk w' w1.heap.size v9 l) ∧ Z_ (Below w.heap.size w w'))
 case atStart => exact ⟨[], m, ⟨rfl, HRR.out, HALL.out.1, by simpa using HALL.out.2⟩, HO3, HL3, HB3⟩
 case round =>
  clear HO3 HL3 HB3
  obtain ⟨X, l, HX, HO, HL, HB⟩ := hrel
  cases l with
  | nil =>
   obtain rfl := HL.out
   obtain ⟨A5, c5, e5⟩ := Kd.R_slice HO.out
   subst e5
   have hXD := HX.out.2.1
   rw [mvRes_nil] at hXD
   cases hXD
   go_wp2
   go_ret2
   exact ⟨_, rfl, HO.out, HB.out⟩
  | cons x l =>
   obtain ⟨b, nx, e1, hbw, hbx, hnx⟩ := HL.out
   subst e1
   obtain ⟨p, rfl⟩ := hnx.ptr
   have NXM : Z_ (l.length < gk) := ⟨by have := HX.out.1; simp only [List.length_cons] at this; omega⟩
   have HBX := Z_.mk hbx
   have HNX := Z_.mk hnx
   have hxl := HX.out.2.2.1
   rw [List.all_cons, Bool.and_eq_true] at hxl
   have HXL := Z_.mk hxl
   clear hxl hbx hnx HL
   go_wp2
   go_loopg [8, 10, 25] 2 (fun kq v8 v10 v25 w' => ∃ (j : Int), v10 = .bool false ∧ v25 = .int .i64 j ∧ Z_ (kq = (2 - j).toNat ∧ 0 ≤ j ∧ j ≤ 2 ∧ (1 ≤ j → ¬ mvGood k semis x false = true) ∧ (2 ≤ j → ¬ mvGood k semis x true = true)) ∧ Z_ (Kd.R k90 90 w' w.heap.size (fun _ => True) v8 X) ∧ Z_ (w'.heap[b]? = some (.cells #[.int .i64 x.f0, .bool x.f1, .pointer p] 125 (0, 0))) ∧ Z_ (Lk w' w1.heap.size (.pointer p) l) ∧ Z_ (Below w.heap.size w w'))
   case atStart => exact ⟨0, rfl, rfl, ⟨rfl, by decide, by decide, by omega, by omega⟩, HO, HBX, HNX, HB⟩
   case round =>
    obtain ⟨j, rfl, rfl, HJ, HO2, HBX2, HNX2, HB2⟩ := hrel
    clear HO HBX HNX HB
    obtain ⟨hk, j0, j2, n0, n1⟩ := HJ.out
    by_cases h2 : j = 2
    ·
     subst h2
     have hR : (R1, R2) = ([], false) := HX.out.2.1.symm.trans (mvRes_no (n1 (by omega)) (n0 (by omega)))
     cases hR
     clear n0 n1 hk j0 j2
     go_wp2
     go_ret2
     exact ⟨_, rfl, Kd.R_nil _ _ _ _ _, HB2.out⟩
    have hj : j = 0 ∨ j = 1 := by omega
    have HY := Z_.mk (toneOk_bd HXL.out.1)
    rcases hj with rfl | rfl
    ·
     have N0 : Z_ True := ⟨trivial⟩
     have HK := Z_.mk hk
     clear n0 n1 hk j0 j2 h2 HJ
     obtain ⟨ok, hv⟩ : ∃ ok, ok = toneOk (mvT x k false) := ⟨_, rfl⟩
     have HV := Z_.mk hv
     have hta : impl_ToneAbove.f 1 x.f0 x.f1 k false = some (if ok = true then (x.f0 + k, false, true) else (0, false, false)) := by rw [impl_ToneAbove_eq x k false HXL.out.1 HKK.out, hv]
     have HTA := Z_.mk hta
     clear hta hv
     have hx0 : wr.cell? ⟨b, 0, none⟩ = some (.int .i64 x.f0) := (zg_ HBX2.out 0).trans rfl
     have hx1 : wr.cell? ⟨b, 1, none⟩ = some (.bool x.f1) := (zg_ HBX2.out 1).trans rfl
     cases ok
     ·
      have NG : Z_ (¬ mvGood k semis x false = true) := ⟨by unfold mvGood; rw [← HV.out]; simp⟩
      go_upto_region 10 with (first
       | (go_at_call 79; refine (impl_ToneAbove.calls 1 x.f0 x.f1 k false 0 false false _ (HTA.out.trans rfl)).mono ?_; rintro e w4 ⟨rfl, hb4⟩; have HB4 := Z_.mk hb4; clear hb4)
       | ((with_reducible refine zr_ (N := 13) rfl ?_); refine box_event ?hg (N := 13) ?hd (cs := #[.int .i64 0, .bool false]) (t := 90) ?hr ?_; (case hd => rfl); (case hg => rfl); (case hr => first | (go_simp; done) | (go_simp; rfl)); intro gb hg w5 hbox hb5; have HG := Z_.mk (show w4.heap.size ≤ gb by omega); have HB5 := Z_.mk hb5; have hcz0 : w5.cell? ⟨gb, 0, none⟩ = some (.int .i64 0) := (zg_ hbox 0).trans rfl; have hcz1 : w5.cell? ⟨gb, 1, none⟩ = some (.bool false) := (zg_ hbox 1).trans rfl; have hfz0 := zi_ hbox 0; have hfz1 := zi_ hbox 1; clear hbox hb5 hg))
      have hbW : Below wr.heap.size wr ((w5.setCell ⟨gb, 0, none⟩ (.int .i64 0)).setCell ⟨gb, 1, none⟩ (.bool false)) := ze_ HB4.out (zd_ (zd_ HB5.out HG.out) HG.out)
      have HBW := Z_.mk hbW
      clear hbW HB4 HB5 HG hcz0 hcz1 hx0 hx1 hfz0 hfz1
      generalize (w5.setCell ⟨gb, 0, none⟩ (.int .i64 0)).setCell ⟨gb, 1, none⟩ (.bool false) = wx at HBW ⊢
      go_region
      all_goals
       go_wp2
       go_roundg (2 - 1)
       case measure => have := HK.out; omega
       case rel => exact ⟨1, rfl, rfl, ⟨by decide, by decide, by decide, fun _ => NG.out, by omega⟩, ⟨Kd.R_below HO2.out (zb_ HBW.out)⟩, ⟨zq_ HBX2.out (zb_ HBW.out)⟩, ⟨Lk.below (zb_ HBW.out) HNX2.out⟩, ⟨ze_ HB2.out (zb_ HBW.out)⟩⟩
     ·
      have HB' := Z_.mk (hgt_bd (t := mvT x k false) HV.out.symm)
      have HB'' := Z_.mk (hgt_bd HXL.out.1)
      obtain ⟨Y, hY⟩ : ∃ Y, Y = x.f0 + k := ⟨_, rfl⟩
      have hYT : mvT x k false = ⟨Y, false⟩ := by rw [hY]; rfl
      have hgood : mvGood k semis x false = decide (hgt ⟨Y, false⟩ - hgt x = semis) := by unfold mvGood; rw [← HV.out, ← hYT]; rfl
      have HGD := Z_.mk hgood
      have HYT := Z_.mk hYT
      have HYO := Z_.mk (show toneOk ⟨Y, false⟩ = true by rw [← hYT]; exact HV.out.symm)
      have EW : Z_ (IntKind.i64.wrap (hgt ⟨Y, false⟩ - hgt x) = hgt ⟨Y, false⟩ - hgt x) := ⟨by rw [← hYT, i64_w]; exact w64 (x := hgt (mvT x k false) - hgt x) (by have := HB'.out; have := HB''.out; omega) (by have := HB'.out; have := HB''.out; omega)⟩
      rw [← hY] at HTA
      clear hY hYT hgood HB' HB''
      go_upto_region 10 with (first
       | (go_at_call 79; refine (impl_ToneAbove.calls 1 x.f0 x.f1 k false Y false true _ (HTA.out.trans rfl)).mono ?_; rintro e w4 ⟨rfl, hb4⟩; have HB4 := Z_.mk hb4; clear hb4)
       | ((with_reducible refine zr_ (N := 13) rfl ?_); refine box_event ?hg (N := 13) ?hd (cs := #[.int .i64 0, .bool false]) (t := 90) ?hr ?_; (case hd => rfl); (case hg => rfl); (case hr => first | (go_simp; done) | (go_simp; rfl)); intro gb hg w5 hbox hb5; have HG := Z_.mk (show w4.heap.size ≤ gb by omega); have HB5 := Z_.mk hb5; have HBK := Z_.mk hbox; have hcz0 : w5.cell? ⟨gb, 0, none⟩ = some (.int .i64 0) := (zg_ hbox 0).trans rfl; have hcz1 : w5.cell? ⟨gb, 1, none⟩ = some (.bool false) := (zg_ hbox 1).trans rfl; have hfz0 := zi_ hbox 0; have hfz1 := zi_ hbox 1; clear hbox hb5 hg))
      have hbW : Below wr.heap.size wr ((w5.setCell ⟨gb, 0, none⟩ (.int .i64 Y)).setCell ⟨gb, 1, none⟩ (.bool false)) := ze_ HB4.out (zd_ (zd_ HB5.out HG.out) HG.out)
      have hbk : ((w5.setCell ⟨gb, 0, none⟩ (.int .i64 Y)).setCell ⟨gb, 1, none⟩ (.bool false)).heap[gb]? = some (.cells #[.int .i64 Y, .bool false] 90 (0, 0)) := blk_put (cs := #[.int .i64 Y, .bool false]) (blk_put (cs := #[.int .i64 0, .bool false]) HBK.out 0 _ rfl) 1 _ rfl
      have HBW := Z_.mk hbW
      have HBKW := Z_.mk hbk
      clear hbW hbk HB4 HB5 HG HBK hcz0 hcz1 hx0 hx1 hfz0 hfz1
      generalize (w5.setCell ⟨gb, 0, none⟩ (.int .i64 Y)).setCell ⟨gb, 1, none⟩ (.bool false) = wx at HBW HBKW ⊢
      have hg0 : wx.drew.cell? ⟨gb, 0, none⟩ = some (.int .i64 Y) := (zg_ HBKW.out 0).trans rfl
      have hg1 : wx.drew.cell? ⟨gb, 1, none⟩ = some (.bool false) := (zg_ HBKW.out 1).trans rfl
      have hy0 : wx.drew.cell? ⟨b, 0, none⟩ = some (.int .i64 x.f0) := zl_ (zb_ HBW.out) ((zg_ HBX2.out 0).trans rfl)
      have hy1 : wx.drew.cell? ⟨b, 1, none⟩ = some (.bool x.f1) := zl_ (zb_ HBW.out) ((zg_ HBX2.out 1).trans rfl)
      have HTW := Z_.mk (HT.out.below (ze_ HB2.out (zb_ HBW.out)))
      go_region_held3 (fun w' => w'.cell? ⟨gb, 0, none⟩ = some (.int .i64 Y) ∧ w'.cell? ⟨gb, 1, none⟩ = some (.bool false) ∧ w'.cell? ⟨b, 0, none⟩ = some (.int .i64 x.f0) ∧ w'.cell? ⟨b, 1, none⟩ = some (.bool x.f1))
       (first
        | exact ⟨hg0, hg1, hy0, hy1⟩
        | go_keep
        | exact ⟨zl_ hb6 hg0, zl_ hb6 hg1, zl_ hb6 hy0, zl_ hb6 hy1⟩
        | exact ⟨zl_ (ze_ hb6 hb7) hg0, zl_ (ze_ hb6 hb7) hg1, zl_ (ze_ hb6 hb7) hy0, zl_ (ze_ hb6 hb7) hy1⟩
        | fail)
       (first
        | (go_at_call 81; with_reducible refine (impl_height_calls ⟨Y, false⟩ wx.drew HTW.out HYO.out).mono ?_; rintro e w6 ⟨rfl, hb6⟩)
        | (go_at_call 81; with_reducible refine (impl_height_calls x w6 (HTW.out.below hb6) HXL.out.1).mono ?_; rintro e w7 ⟨rfl, hb7⟩)
        | fail)
      have HB7 := Z_.mk (ze_ (zb_ HBW.out) (ze_ hb6 hb7))
      have hz0 := zl_ (ze_ hb6 hb7) hg0
      have hz1 := zl_ (ze_ hb6 hb7) hg1
      have HO7 := Z_.mk (Kd.R_below HO2.out HB7.out)
      have HBX7 := Z_.mk (zq_ HBX2.out HB7.out)
      have HNX7 := Z_.mk (Lk.below HB7.out HNX2.out)
      have HW7 := Z_.mk (ze_ HB2.out HB7.out)
      clear hg0 hg1 hy0 hy1 hb6 hb7 HBKW HBW HTW
      by_cases hs : hgt ⟨Y, false⟩ - hgt x = semis
      ·
       have d1 : (IntKind.i64.wrap (hgt ⟨Y, false⟩ - hgt x) == semis) = true := beq_iff_eq.2 (EW.out.trans hs)
       have d2 : decide (hgt ⟨Y, false⟩ - hgt x = semis) = true := decide_eq_true hs
       have GO : Z_ (mvGood k semis x false = true) := ⟨by rw [HGD.out]; exact d2⟩
       have bx := HX.out.2.2.2
       clear hs
       go_wp2_with ((with_reducible refine gate_builtin (b := .append) (xs := #[.tmp 51, .tmp 53]) rfl ?_); at_builtin; go_loud (refine Kd.R_append k90 (w0 := w) w.heap.size rfl (.tmp 51) (.tmp 53) 36 90 (.agg #[(.int .i64 0), (.bool false)]) 16 rfl Tryd.underlying36 info90 rfl (by decide) (by omega) _ X (⟨Y, false⟩ : S90) [.int .i64 Y, .bool false] (fun _ => True) (fun _ => False) rfl rfl (k90_mkM _ _ _ _) (fun _ hk => hk.elim) (fun _ _ => trivial) HO7.out HW7.out HW7.out.size (by omega) ?_); intro v9 w8 ho8 hb8 hg8 hat8; have HO8 := Z_.mk ho8; have HB8 := Z_.mk hb8; have HNX8 := Z_.mk (LkT.grown HO7.out hg8 HNX7.out); have cx2 : w8.cell? ⟨b, 2, none⟩ = some (.pointer p) := (zg_ (blk_grown HBX7.out hg8 (Kd.R_ne HO7.out HBX7.out (by decide))) 2).trans rfl; clear ho8 hb8 hg8 hat8)
       go_roundg l.length
       case measure => exact NXM.out
       case rel => exact ⟨X ++ [⟨Y, false⟩], l, ⟨rfl, by rw [← HYT.out, ← mvRes_yes GO.out (fun h => by cases h)]; exact HX.out.2.1, HXL.out.2, by simp only [List.length_append, List.length_cons, List.length_nil] at bx ⊢; omega⟩, HO8, HNX8, HB8⟩
      ·
       have d1 : (IntKind.i64.wrap (hgt ⟨Y, false⟩ - hgt x) == semis) = false := beq_eq_false_iff_ne.2 (fun h => hs (EW.out.symm.trans h))
       have d2 : decide (hgt ⟨Y, false⟩ - hgt x = semis) = false := decide_eq_false hs
       have NG : Z_ (¬ mvGood k semis x false = true) := ⟨by rw [HGD.out, d2]; decide⟩
       clear hs
       go_wp2
       go_roundg (2 - 1)
       case measure => have := HK.out; omega
       case rel => exact ⟨1, rfl, rfl, ⟨by decide, by decide, by decide, fun _ => NG.out, by omega⟩, HO7, HBX7, HNX7, HW7⟩
    ·
     have N0 := Z_.mk (n0 (by omega))
     have HK := Z_.mk hk
     clear n0 n1 hk j0 j2 h2 HJ
     obtain ⟨ok, hv⟩ : ∃ ok, ok = toneOk (mvT x k true) := ⟨_, rfl⟩
     have HV := Z_.mk hv
     have hta : impl_ToneAbove.f 1 x.f0 x.f1 k true = some (if ok = true then (x.f0 + k, true, true) else (0, false, false)) := by rw [impl_ToneAbove_eq x k true HXL.out.1 HKK.out, hv]
     have HTA := Z_.mk hta
     clear hta hv
     have hx0 : wr.cell? ⟨b, 0, none⟩ = some (.int .i64 x.f0) := (zg_ HBX2.out 0).trans rfl
     have hx1 : wr.cell? ⟨b, 1, none⟩ = some (.bool x.f1) := (zg_ HBX2.out 1).trans rfl
     cases ok
     ·
      have NG : Z_ (¬ mvGood k semis x true = true) := ⟨by unfold mvGood; rw [← HV.out]; simp⟩
      go_upto_region 10 with (first
       | (go_at_call 79; refine (impl_ToneAbove.calls 1 x.f0 x.f1 k true 0 false false _ (HTA.out.trans rfl)).mono ?_; rintro e w4 ⟨rfl, hb4⟩; have HB4 := Z_.mk hb4; clear hb4)
       | ((with_reducible refine zr_ (N := 13) rfl ?_); refine box_event ?hg (N := 13) ?hd (cs := #[.int .i64 0, .bool false]) (t := 90) ?hr ?_; (case hd => rfl); (case hg => rfl); (case hr => first | (go_simp; done) | (go_simp; rfl)); intro gb hg w5 hbox hb5; have HG := Z_.mk (show w4.heap.size ≤ gb by omega); have HB5 := Z_.mk hb5; have hcz0 : w5.cell? ⟨gb, 0, none⟩ = some (.int .i64 0) := (zg_ hbox 0).trans rfl; have hcz1 : w5.cell? ⟨gb, 1, none⟩ = some (.bool false) := (zg_ hbox 1).trans rfl; have hfz0 := zi_ hbox 0; have hfz1 := zi_ hbox 1; clear hbox hb5 hg))
      have hbW : Below wr.heap.size wr ((w5.setCell ⟨gb, 0, none⟩ (.int .i64 0)).setCell ⟨gb, 1, none⟩ (.bool false)) := ze_ HB4.out (zd_ (zd_ HB5.out HG.out) HG.out)
      have HBW := Z_.mk hbW
      clear hbW HB4 HB5 HG hcz0 hcz1 hx0 hx1 hfz0 hfz1
      generalize (w5.setCell ⟨gb, 0, none⟩ (.int .i64 0)).setCell ⟨gb, 1, none⟩ (.bool false) = wx at HBW ⊢
      go_region
      all_goals
       go_wp2
       go_roundg (2 - 2)
       case measure => have := HK.out; omega
       case rel => exact ⟨2, rfl, rfl, ⟨by decide, by decide, by decide, fun _ => N0.out, fun _ => NG.out⟩, ⟨Kd.R_below HO2.out (zb_ HBW.out)⟩, ⟨zq_ HBX2.out (zb_ HBW.out)⟩, ⟨Lk.below (zb_ HBW.out) HNX2.out⟩, ⟨ze_ HB2.out (zb_ HBW.out)⟩⟩
     ·
      have HB' := Z_.mk (hgt_bd (t := mvT x k true) HV.out.symm)
      have HB'' := Z_.mk (hgt_bd HXL.out.1)
      obtain ⟨Y, hY⟩ : ∃ Y, Y = x.f0 + k := ⟨_, rfl⟩
      have hYT : mvT x k true = ⟨Y, true⟩ := by rw [hY]; rfl
      have hgood : mvGood k semis x true = decide (hgt ⟨Y, true⟩ - hgt x = semis) := by unfold mvGood; rw [← HV.out, ← hYT]; rfl
      have HGD := Z_.mk hgood
      have HYT := Z_.mk hYT
      have HYO := Z_.mk (show toneOk ⟨Y, true⟩ = true by rw [← hYT]; exact HV.out.symm)
      have EW : Z_ (IntKind.i64.wrap (hgt ⟨Y, true⟩ - hgt x) = hgt ⟨Y, true⟩ - hgt x) := ⟨by rw [← hYT, i64_w]; exact w64 (x := hgt (mvT x k true) - hgt x) (by have := HB'.out; have := HB''.out; omega) (by have := HB'.out; have := HB''.out; omega)⟩
      rw [← hY] at HTA
      clear hY hYT hgood HB' HB''
      go_upto_region 10 with (first
       | (go_at_call 79; refine (impl_ToneAbove.calls 1 x.f0 x.f1 k true Y true true _ (HTA.out.trans rfl)).mono ?_; rintro e w4 ⟨rfl, hb4⟩; have HB4 := Z_.mk hb4; clear hb4)
       | ((with_reducible refine zr_ (N := 13) rfl ?_); refine box_event ?hg (N := 13) ?hd (cs := #[.int .i64 0, .bool false]) (t := 90) ?hr ?_; (case hd => rfl); (case hg => rfl); (case hr => first | (go_simp; done) | (go_simp; rfl)); intro gb hg w5 hbox hb5; have HG := Z_.mk (show w4.heap.size ≤ gb by omega); have HB5 := Z_.mk hb5; have HBK := Z_.mk hbox; have hcz0 : w5.cell? ⟨gb, 0, none⟩ = some (.int .i64 0) := (zg_ hbox 0).trans rfl; have hcz1 : w5.cell? ⟨gb, 1, none⟩ = some (.bool false) := (zg_ hbox 1).trans rfl; have hfz0 := zi_ hbox 0; have hfz1 := zi_ hbox 1; clear hbox hb5 hg))
      have hbW : Below wr.heap.size wr ((w5.setCell ⟨gb, 0, none⟩ (.int .i64 Y)).setCell ⟨gb, 1, none⟩ (.bool true)) := ze_ HB4.out (zd_ (zd_ HB5.out HG.out) HG.out)
      have hbk : ((w5.setCell ⟨gb, 0, none⟩ (.int .i64 Y)).setCell ⟨gb, 1, none⟩ (.bool true)).heap[gb]? = some (.cells #[.int .i64 Y, .bool true] 90 (0, 0)) := blk_put (cs := #[.int .i64 Y, .bool false]) (blk_put (cs := #[.int .i64 0, .bool false]) HBK.out 0 _ rfl) 1 _ rfl
      have HBW := Z_.mk hbW
      have HBKW := Z_.mk hbk
      clear hbW hbk HB4 HB5 HG HBK hcz0 hcz1 hx0 hx1 hfz0 hfz1
      generalize (w5.setCell ⟨gb, 0, none⟩ (.int .i64 Y)).setCell ⟨gb, 1, none⟩ (.bool true) = wx at HBW HBKW ⊢
      have hg0 : wx.drew.cell? ⟨gb, 0, none⟩ = some (.int .i64 Y) := (zg_ HBKW.out 0).trans rfl
      have hg1 : wx.drew.cell? ⟨gb, 1, none⟩ = some (.bool true) := (zg_ HBKW.out 1).trans rfl
      have hy0 : wx.drew.cell? ⟨b, 0, none⟩ = some (.int .i64 x.f0) := zl_ (zb_ HBW.out) ((zg_ HBX2.out 0).trans rfl)
      have hy1 : wx.drew.cell? ⟨b, 1, none⟩ = some (.bool x.f1) := zl_ (zb_ HBW.out) ((zg_ HBX2.out 1).trans rfl)
      have HTW := Z_.mk (HT.out.below (ze_ HB2.out (zb_ HBW.out)))
      go_region_held3 (fun w' => w'.cell? ⟨gb, 0, none⟩ = some (.int .i64 Y) ∧ w'.cell? ⟨gb, 1, none⟩ = some (.bool true) ∧ w'.cell? ⟨b, 0, none⟩ = some (.int .i64 x.f0) ∧ w'.cell? ⟨b, 1, none⟩ = some (.bool x.f1))
       (first
        | exact ⟨hg0, hg1, hy0, hy1⟩
        | go_keep
        | exact ⟨zl_ hb6 hg0, zl_ hb6 hg1, zl_ hb6 hy0, zl_ hb6 hy1⟩
        | exact ⟨zl_ (ze_ hb6 hb7) hg0, zl_ (ze_ hb6 hb7) hg1, zl_ (ze_ hb6 hb7) hy0, zl_ (ze_ hb6 hb7) hy1⟩
        | fail)
       (first
        | (go_at_call 81; with_reducible refine (impl_height_calls ⟨Y, true⟩ wx.drew HTW.out HYO.out).mono ?_; rintro e w6 ⟨rfl, hb6⟩)
        | (go_at_call 81; with_reducible refine (impl_height_calls x w6 (HTW.out.below hb6) HXL.out.1).mono ?_; rintro e w7 ⟨rfl, hb7⟩)
        | fail)
      have HB7 := Z_.mk (ze_ (zb_ HBW.out) (ze_ hb6 hb7))
      have hz0 := zl_ (ze_ hb6 hb7) hg0
      have hz1 := zl_ (ze_ hb6 hb7) hg1
      have HO7 := Z_.mk (Kd.R_below HO2.out HB7.out)
      have HBX7 := Z_.mk (zq_ HBX2.out HB7.out)
      have HNX7 := Z_.mk (Lk.below HB7.out HNX2.out)
      have HW7 := Z_.mk (ze_ HB2.out HB7.out)
      clear hg0 hg1 hy0 hy1 hb6 hb7 HBKW HBW HTW
      by_cases hs : hgt ⟨Y, true⟩ - hgt x = semis
      ·
       have d1 : (IntKind.i64.wrap (hgt ⟨Y, true⟩ - hgt x) == semis) = true := beq_iff_eq.2 (EW.out.trans hs)
       have d2 : decide (hgt ⟨Y, true⟩ - hgt x = semis) = true := decide_eq_true hs
       have GO : Z_ (mvGood k semis x true = true) := ⟨by rw [HGD.out]; exact d2⟩
       have bx := HX.out.2.2.2
       clear hs
       go_wp2_with ((with_reducible refine gate_builtin (b := .append) (xs := #[.tmp 51, .tmp 53]) rfl ?_); at_builtin; go_loud (refine Kd.R_append k90 (w0 := w) w.heap.size rfl (.tmp 51) (.tmp 53) 36 90 (.agg #[(.int .i64 0), (.bool false)]) 16 rfl Tryd.underlying36 info90 rfl (by decide) (by omega) _ X (⟨Y, true⟩ : S90) [.int .i64 Y, .bool true] (fun _ => True) (fun _ => False) rfl rfl (k90_mkM _ _ _ _) (fun _ hk => hk.elim) (fun _ _ => trivial) HO7.out HW7.out HW7.out.size (by omega) ?_); intro v9 w8 ho8 hb8 hg8 hat8; have HO8 := Z_.mk ho8; have HB8 := Z_.mk hb8; have HNX8 := Z_.mk (LkT.grown HO7.out hg8 HNX7.out); have cx2 : w8.cell? ⟨b, 2, none⟩ = some (.pointer p) := (zg_ (blk_grown HBX7.out hg8 (Kd.R_ne HO7.out HBX7.out (by decide))) 2).trans rfl; clear ho8 hb8 hg8 hat8)
       go_roundg l.length
       case measure => exact NXM.out
       case rel => exact ⟨X ++ [⟨Y, true⟩], l, ⟨rfl, by rw [← HYT.out, ← mvRes_yes GO.out (fun _ => N0.out)]; exact HX.out.2.1, HXL.out.2, by simp only [List.length_append, List.length_cons, List.length_nil] at bx ⊢; omega⟩, HO8, HNX8, HB8⟩
      ·
       have d1 : (IntKind.i64.wrap (hgt ⟨Y, true⟩ - hgt x) == semis) = false := beq_eq_false_iff_ne.2 (fun h => hs (EW.out.symm.trans h))
       have d2 : decide (hgt ⟨Y, true⟩ - hgt x = semis) = false := decide_eq_false hs
       have NG : Z_ (¬ mvGood k semis x true = true) := ⟨by rw [HGD.out, d2]; decide⟩
       clear hs
       go_wp2
       go_roundg (2 - 2)
       case measure => have := HK.out; omega
       case rel => exact ⟨2, rfl, rfl, ⟨by decide, by decide, by decide, fun _ => N0.out, fun _ => NG.out⟩, HO7, HBX7, HNX7, HW7⟩

end Go.Proofs.YtmacedbpdhkagaaDoor.Pure
namespace Go.Proofs.YtmacedbpdhkagaaDoor.Pure
set_option linter.unusedVariables false
set_option linter.unusedSimpArgs false
open Go Go.RowKit Go.Proofs.YtmacedbpdhkagaaDoor.PFnTonaryFind Go.Proofs.YtmacedbpdhkagaaDoorW.PrintWords Go.Proofs.YtmacedbpdhkagaaDoorW.PrintLast Go.Proofs.YtmacedbpdhkagaaDoorW.PrintMore

theorem impl_ToneAbove_out (t : S90) (a : Int) (s : Bool) (ht : toneOk t = true) (ha : ¬ (-20 ≤ a ∧ a ≤ 20)) : impl_ToneAbove.f 1 t.f0 t.f1 a s = some (0, false, false) := by
 unfold impl_ToneAbove.f
 rw [impl_Tone_valid_eq]
 have e : (⟨t.f0, t.f1⟩ : S90) = t := rfl
 rw [e, ht, Option.bind_some, if_pos rfl]
 by_cases h : a < -20
 ·
  rw [if_pos h]; rfl
 ·
  rw [if_neg h, decide_eq_true (show a > 20 by omega)]; rfl
def mmT (m : List S90) (k : Int) (b : Bool) : Prop := (-20 ≤ k ∧ k ≤ 20) ∧ mmTry m k b = true
theorem mmove_yes {m : List S90} {k : Int} {b : Bool} (hok : melOk m = true) (hm : 0 < m.length) (h : mmT m k b) (h' : b = true → ¬ mmT m k false) : mmove m k = (mmOf m k b, true) := by
 unfold mmove
 rw [if_pos hok, if_neg (by omega), if_pos h.1]
 cases b
 ·
  rw [if_pos h.2]
 ·
  rw [if_neg (fun g => h' rfl ⟨h.1, g⟩), if_pos h.2]
theorem mmove_no {m : List S90} {k : Int} (hok : melOk m = true) (hm : 0 < m.length) (h : ¬ mmT m k true) (h' : ¬ mmT m k false) : mmove m k = ([], false) := by
 unfold mmove
 rw [if_pos hok, if_neg (by omega)]
 by_cases hk : -20 ≤ k ∧ k ≤ 20
 ·
  rw [if_pos hk, if_neg (fun g => h' ⟨hk, g⟩), if_neg (fun g => h ⟨hk, g⟩)]
 ·
  rw [if_neg hk]
set_option maxHeartbeats 8000000 in
set_option maxRecDepth 100000 in
theorem impl_MelodyMove_calls (m : List S90) (k : Int) (A0 : Option Addr) (c0 : Nat) (w : World) (ht : HTab w) (hr0 : Kd.C k90 w A0 m.length m) (hc0 : m.length ≤ c0) (hm : m.length ≤ 1000000000000) :
 Calls Tryd.prog 42 #[.slice A0 m.length c0, .int .i64 k] w fun e w' => ∃ v, e = .returned (.tuple #[v, .bool (mmove m k).2]) ∧ Kd.R k90 90 w' w.heap.size (fun _ => True) v (mmove m k).1 ∧ Below w.heap.size w w' := by
 obtain ⟨kk, hv⟩ := Ev.rounds (impl_MelodyValid_ev m)
 have hu1 := Tryd.underlying90
 have ix0 : ∀ w, (Instr.index 99 (.agg #[.bool false, .bool true]) (.int .i64 0)).run Tryd.prog w = .ok (.bool false) w := fun _ => by kernel_rfl
 have ix1 : ∀ w, (Instr.index 99 (.agg #[.bool false, .bool true]) (.int .i64 1)).run Tryd.prog w = .ok (.bool true) w := fun _ => by kernel_rfl
 have HT := Z_.mk ht
 have HR0 := Z_.mk hr0
 have HC0 := Z_.mk hc0
 have HVV := Z_.mk hv
 clear hr0 hc0 ht hv
 cases hok : melOk m
 ·
  have e : mmove m k = ([], false) := by unfold mmove; rw [hok]; rfl
  rw [e]
  rw [hok] at HVV
  clear hok e
  go_enter Tryd.func42, Tryd.ntmps42
  go_wp2_with (go_at_call 70; refine (impl_MelodyValid.calls kk _ _ m false _ HR0.out HC0.out HVV.out).mono ?_; rintro e w1 ⟨rfl, hb1⟩)
  go_ret2
  exact ⟨_, rfl, Kd.R_nil _ _ _ _ _, hb1⟩
 rw [hok] at HVV
 have HOK := Z_.mk hok
 by_cases h0 : m.length = 0
 ·
  have e : mmove m k = ([], true) := by unfold mmove; rw [if_pos hok, if_pos h0]
  rw [e]
  have hne : ((m.length : Int) == 0) = true := by rw [beq_iff_eq]; omega
  have hne' : (m.length == 0) = true := by rw [beq_iff_eq]; omega
  clear hok e h0
  go_enter Tryd.func42, Tryd.ntmps42
  go_wp2_with (first
   | (go_at_call 70; refine (impl_MelodyValid.calls kk _ _ m true _ HR0.out HC0.out HVV.out).mono ?_; rintro e w1 ⟨rfl, hb1⟩)
   | ((with_reducible refine zr_ (N := 18) rfl ?_); refine Kd.R_lit k90 _ 90 ?hg (N := 18) ?hd (xs := ([] : List S90)) (inner := []) (ok := fun _ => True) (okp := fun _ => True) ?hr (Reps.none _ _) (fun _ hk => hk) trivial (Below.refl _ _) (Nat.le_refl _) (by simp) ?_; (case hd => rfl); (case hg => rfl); (case hr => first | (go_simp; done) | (go_simp; rfl)); intro v1 w2 ho1 hb2 _ _; obtain ⟨A1, c1, rfl⟩ := Kd.R_slice ho1))
  go_ret2
  exact ⟨_, rfl, Kd.R_lower ho1 hb1.size, ze_ hb1 hb2⟩
 have hlen := melOk_len hok
 have hpos : 0 < m.length := by omega
 have hne : ((m.length : Int) == 0) = false := by rw [beq_eq_false_iff_ne]; omega
 have hne' : (m.length == 0) = false := by rw [beq_eq_false_iff_ne]; omega
 obtain ⟨⟨R1, R2⟩, hR⟩ : ∃ R, R = mmove m k := ⟨_, rfl⟩
 rw [← hR]
 have HRR := Z_.mk hR.symm
 obtain ⟨ad, e1, ux0, ux1⟩ := at_T90 HR0.out 0 (by omega) (by omega)
 subst e1
 obtain ⟨x, hx⟩ : ∃ x, x = rd_T90 m 0 := ⟨_, rfl⟩
 have hxo : toneOk x = true := by
  rw [hx]
  refine List.all_eq_true.1 (melOk_all hok) _ ?_
  unfold rd_T90
  rw [List.getD_eq_getElem?_getD, List.getElem?_eq_getElem (by simp; omega)]; exact List.getElem_mem _
 rw [← hx] at ux0 ux1
 have HXL := Z_.mk (And.intro hxo hx)
 have UX0 : Z_ (w.cell? ad = some (.int .i64 x.f0)) := ⟨ux0⟩
 have UX1 : Z_ (w.cell? ⟨ad.block, ad.off + 1, none⟩ = some (.bool x.f1)) := ⟨ux1⟩
 have i1 := eq_true (show 0 < (m.length : Int) by omega)
 have i2 := eq_true hpos
 have HPOS := Z_.mk hpos
 clear hok h0 hR ux0 ux1 hx hxo hpos
 go_enter Tryd.func42, Tryd.ntmps42
 go_wp2_with (go_at_call 70; refine (impl_MelodyValid.calls kk _ _ m true _ HR0.out HC0.out HVV.out).mono ?_; rintro e w1 ⟨rfl, hb1⟩; have HB1 := Z_.mk hb1; clear hb1)
 go_loopg [20] 2 (fun kq v20 w' => ∃ (j : Int), v20 = .int .i64 j ∧ Z_ (kq = (2 - j).toNat ∧ 0 ≤ j ∧ j ≤ 2 ∧ (1 ≤ j → ¬ mmT m k false) ∧ (2 ≤ j → ¬ mmT m k true)) ∧ Z_ (Below w.heap.size w w'))
 case atStart => exact ⟨0, rfl, ⟨rfl, by decide, by decide, by omega, by omega⟩, HB1⟩
 case round =>
  obtain ⟨j, rfl, HJ, HB2⟩ := hrel
  clear HB1
  obtain ⟨hk, j0, j2, n0, n1⟩ := HJ.out
  by_cases h2 : j = 2
  ·
   subst h2
   have hR : (R1, R2) = ([], false) := HRR.out.symm.trans (mmove_no HOK.out HPOS.out (n1 (by omega)) (n0 (by omega)))
   cases hR
   clear n0 n1 hk j0 j2
   go_wp2
   go_ret2
   exact ⟨_, rfl, Kd.R_nil _ _ _ _ _, HB2.out⟩
  have hj : j = 0 ∨ j = 1 := by omega
  rcases hj with rfl | rfl
  ·
   have N0 : Z_ True := ⟨trivial⟩
   have HK := Z_.mk hk
   clear n0 n1 hk j0 j2 h2 HJ
   obtain ⟨ok, hv⟩ : ∃ ok, ok = (decide (-20 ≤ k ∧ k ≤ 20) && toneOk (mvT x k false)) := ⟨_, rfl⟩
   have HV := Z_.mk hv
   have hta : impl_ToneAbove.f 1 x.f0 x.f1 k false = some (if ok = true then (x.f0 + k, false, true) else (0, false, false)) := by
    by_cases hk : -20 ≤ k ∧ k ≤ 20
    ·
     rw [impl_ToneAbove_eq x k false HXL.out.1 hk, hv, decide_eq_true hk]; rfl
    ·
     rw [impl_ToneAbove_out x k false HXL.out.1 hk, hv, decide_eq_false hk]; rfl
   have HTA := Z_.mk hta
   clear hta hv
   have hx0 : wr.cell? ad = some (.int .i64 x.f0) := (HB2.out.cell (bl_ w _ UX0.out)).trans UX0.out
   have hx1 : wr.cell? ⟨ad.block, ad.off + 1, none⟩ = some (.bool x.f1) := (HB2.out.cell (bl_ w _ UX1.out)).trans UX1.out
   cases ok
   ·
    have NG : Z_ (¬ mmT m k false) := ⟨fun h => by have hv := HV.out; rw [decide_eq_true h.1, Bool.true_and] at hv; have h2 := h.2; unfold mmTry at h2; rw [← HXL.out.2, ← hv] at h2; cases h2⟩
    go_wp2_with (first
     | (go_at_call 79; refine (impl_ToneAbove.calls 1 x.f0 x.f1 k false 0 false false _ (HTA.out.trans rfl)).mono ?_; rintro e w4 ⟨rfl, hb4⟩; have HB4 := Z_.mk hb4; clear hb4)
     | ((with_reducible refine zr_ (N := 8) rfl ?_); refine box_event ?hg (N := 8) ?hd (cs := #[.int .i64 0, .bool false]) (t := 90) ?hr ?_; (case hd => rfl); (case hg => rfl); (case hr => first | (go_simp; done) | (go_simp; rfl)); intro gb hg w5 hbox hb5; have HG := Z_.mk (show w4.heap.size ≤ gb by omega); have HB5 := Z_.mk hb5; have hcz0 : w5.cell? ⟨gb, 0, none⟩ = some (.int .i64 0) := (zg_ hbox 0).trans rfl; have hcz1 : w5.cell? ⟨gb, 1, none⟩ = some (.bool false) := (zg_ hbox 1).trans rfl; have hfz0 := zi_ hbox 0; have hfz1 := zi_ hbox 1; clear hbox hb5 hg))
    have hbW : Below wr.heap.size wr ((w5.setCell ⟨gb, 0, none⟩ (.int .i64 0)).setCell ⟨gb, 1, none⟩ (.bool false)) := ze_ HB4.out (zd_ (zd_ HB5.out HG.out) HG.out)
    have HBW := Z_.mk hbW
    go_roundg (2 - 1)
    case measure => have := HK.out; omega
    case rel => exact ⟨1, rfl, ⟨by decide, by decide, by decide, fun _ => NG.out, by omega⟩, ⟨ze_ HB2.out HBW.out⟩⟩
   ·
    have hv := HV.out.symm
    rw [Bool.and_eq_true] at hv
    have hkk := of_decide_eq_true hv.1
    have HKK := Z_.mk hkk
    have HB' := Z_.mk (hgt_bd (t := mvT x k false) hv.2)
    have HB'' := Z_.mk (hgt_bd HXL.out.1)
    obtain ⟨Y, hY⟩ : ∃ Y, Y = x.f0 + k := ⟨_, rfl⟩
    have hYT : mvT x k false = ⟨Y, false⟩ := by rw [hY]; rfl
    obtain ⟨⟨M1, M2⟩, hM⟩ : ∃ R, R = movedP k (hgt ⟨Y, false⟩ - hgt x) m := ⟨_, rfl⟩
    have HM := Z_.mk hM.symm
    have HTRY : Z_ (mmTry m k false = M2 ∧ mmOf m k false = M1) := ⟨by unfold mmTry mmOf; rw [← HXL.out.2, hv.2, hYT, ← hM]; exact ⟨rfl, rfl⟩⟩
    have HYO := Z_.mk (show toneOk ⟨Y, false⟩ = true by rw [← hYT]; exact hv.2)
    have EW : Z_ (IntKind.i64.wrap (hgt ⟨Y, false⟩ - hgt x) = hgt ⟨Y, false⟩ - hgt x) := ⟨by rw [← hYT, i64_w]; exact w64 (x := hgt (mvT x k false) - hgt x) (by have := HB'.out; have := HB''.out; omega) (by have := HB'.out; have := HB''.out; omega)⟩
    rw [← hY] at HTA
    clear hY hYT HB' HB'' hM hv hkk
    go_upto_region 10 with (first
     | (go_at_call 79; refine (impl_ToneAbove.calls 1 x.f0 x.f1 k false Y false true _ (HTA.out.trans rfl)).mono ?_; rintro e w4 ⟨rfl, hb4⟩; have HB4 := Z_.mk hb4; clear hb4)
     | ((with_reducible refine zr_ (N := 8) rfl ?_); refine box_event ?hg (N := 8) ?hd (cs := #[.int .i64 0, .bool false]) (t := 90) ?hr ?_; (case hd => rfl); (case hg => rfl); (case hr => first | (go_simp; done) | (go_simp; rfl)); intro gb hg w5 hbox hb5; have HG := Z_.mk (show w4.heap.size ≤ gb by omega); have HB5 := Z_.mk hb5; have HBK := Z_.mk hbox; have hcz0 : w5.cell? ⟨gb, 0, none⟩ = some (.int .i64 0) := (zg_ hbox 0).trans rfl; have hcz1 : w5.cell? ⟨gb, 1, none⟩ = some (.bool false) := (zg_ hbox 1).trans rfl; have hfz0 := zi_ hbox 0; have hfz1 := zi_ hbox 1; clear hbox hb5 hg))
    have hbW : Below wr.heap.size wr ((w5.setCell ⟨gb, 0, none⟩ (.int .i64 Y)).setCell ⟨gb, 1, none⟩ (.bool false)) := ze_ HB4.out (zd_ (zd_ HB5.out HG.out) HG.out)
    have hbk : ((w5.setCell ⟨gb, 0, none⟩ (.int .i64 Y)).setCell ⟨gb, 1, none⟩ (.bool false)).heap[gb]? = some (.cells #[.int .i64 Y, .bool false] 90 (0, 0)) := blk_put (cs := #[.int .i64 Y, .bool false]) (blk_put (cs := #[.int .i64 0, .bool false]) HBK.out 0 _ rfl) 1 _ rfl
    have HBW := Z_.mk hbW
    have HBKW := Z_.mk hbk
    have hy0' := zl_ hbW hx0
    have hy1' := zl_ hbW hx1
    clear hbW hbk HB4 HB5 HG HBK hcz0 hcz1 hx0 hx1 hfz0 hfz1
    generalize (w5.setCell ⟨gb, 0, none⟩ (.int .i64 Y)).setCell ⟨gb, 1, none⟩ (.bool false) = wx at HBW HBKW hy0' hy1' ⊢
    have hg0 : wx.drew.cell? ⟨gb, 0, none⟩ = some (.int .i64 Y) := (zg_ HBKW.out 0).trans rfl
    have hg1 : wx.drew.cell? ⟨gb, 1, none⟩ = some (.bool false) := (zg_ HBKW.out 1).trans rfl
    have hy0 : wx.drew.cell? ad = some (.int .i64 x.f0) := hy0'
    have hy1 : wx.drew.cell? ⟨ad.block, ad.off + 1, none⟩ = some (.bool x.f1) := hy1'
    have HW0 := Z_.mk (ze_ HB2.out (zb_ HBW.out))
    have HTW := Z_.mk (HT.out.below HW0.out)
    clear hy0' hy1'
    go_region_held3 (fun w' => w'.cell? ⟨gb, 0, none⟩ = some (.int .i64 Y) ∧ w'.cell? ⟨gb, 1, none⟩ = some (.bool false) ∧ w'.cell? ad = some (.int .i64 x.f0) ∧ w'.cell? ⟨ad.block, ad.off + 1, none⟩ = some (.bool x.f1))
     (first
      | exact ⟨hg0, hg1, hy0, hy1⟩
      | go_keep
      | exact ⟨zl_ hb6 hg0, zl_ hb6 hg1, zl_ hb6 hy0, zl_ hb6 hy1⟩
      | exact ⟨zl_ (ze_ hb6 hb7) hg0, zl_ (ze_ hb6 hb7) hg1, zl_ (ze_ hb6 hb7) hy0, zl_ (ze_ hb6 hb7) hy1⟩
      | exact ⟨zl_ (ze_ (ze_ hb6 hb7) hb8) hg0, zl_ (ze_ (ze_ hb6 hb7) hb8) hg1, zl_ (ze_ (ze_ hb6 hb7) hb8) hy0, zl_ (ze_ (ze_ hb6 hb7) hb8) hy1⟩
      | fail)
     (first
      | (go_at_call 81; with_reducible refine (impl_height_calls ⟨Y, false⟩ wx.drew HTW.out HYO.out).mono ?_; rintro e w6 ⟨rfl, hb6⟩)
      | (go_at_call 81; with_reducible refine (impl_height_calls x w6 (HTW.out.below hb6) HXL.out.1).mono ?_; rintro e w7 ⟨rfl, hb7⟩)
      | (go_at_call 80; with_reducible refine (impl_movedMelody_calls m k (IntKind.i64.wrap (hgt ⟨Y, false⟩ - hgt x)) _ _ w7 (HTW.out.below (ze_ hb6 hb7)) (Kd.C_below HR0.out (ze_ HW0.out (ze_ hb6 hb7))) HC0.out HOK.out HKK.out).mono ?_; rintro e w8 ⟨v8, rfl, ho8, hb8⟩; rw [EW.out, HM.out] at ho8; rw [EW.out, HM.out]; obtain ⟨A8, c8, rfl⟩ := Kd.R_slice ho8)
      | fail)
    have HB8 := Z_.mk (ze_ (ze_ HW0.out (ze_ hb6 hb7)) hb8)
    have HO8 := Z_.mk (Kd.R_lower ho8 (ze_ HW0.out (ze_ hb6 hb7)).size)
    clear hg0 hg1 hy0 hy1 hb6 hb7 hb8 ho8 HBKW HBW HTW HW0
    cases M2
    ·
     have NG : Z_ (¬ mmT m k false) := ⟨fun h => by have h2 := h.2; rw [HTRY.out.1] at h2; cases h2⟩
     go_wp2
     go_roundg (2 - 1)
     case measure => have := HK.out; omega
     case rel => exact ⟨1, rfl, ⟨by decide, by decide, by decide, fun _ => NG.out, by omega⟩, HB8⟩
    ·
     have hR : (R1, R2) = (M1, true) := by rw [← HTRY.out.2]; exact HRR.out.symm.trans (mmove_yes HOK.out HPOS.out ⟨HKK.out, HTRY.out.1⟩ (fun h => by cases h))
     cases hR
     go_wp2
     go_ret2
     exact ⟨_, rfl, HO8.out, HB8.out⟩
  ·
   have N0 := Z_.mk (n0 (by omega))
   have HK := Z_.mk hk
   clear n0 n1 hk j0 j2 h2 HJ
   obtain ⟨ok, hv⟩ : ∃ ok, ok = (decide (-20 ≤ k ∧ k ≤ 20) && toneOk (mvT x k true)) := ⟨_, rfl⟩
   have HV := Z_.mk hv
   have hta : impl_ToneAbove.f 1 x.f0 x.f1 k true = some (if ok = true then (x.f0 + k, true, true) else (0, false, false)) := by
    by_cases hk : -20 ≤ k ∧ k ≤ 20
    ·
     rw [impl_ToneAbove_eq x k true HXL.out.1 hk, hv, decide_eq_true hk]; rfl
    ·
     rw [impl_ToneAbove_out x k true HXL.out.1 hk, hv, decide_eq_false hk]; rfl
   have HTA := Z_.mk hta
   clear hta hv
   have hx0 : wr.cell? ad = some (.int .i64 x.f0) := (HB2.out.cell (bl_ w _ UX0.out)).trans UX0.out
   have hx1 : wr.cell? ⟨ad.block, ad.off + 1, none⟩ = some (.bool x.f1) := (HB2.out.cell (bl_ w _ UX1.out)).trans UX1.out
   cases ok
   ·
    have NG : Z_ (¬ mmT m k true) := ⟨fun h => by have hv := HV.out; rw [decide_eq_true h.1, Bool.true_and] at hv; have h2 := h.2; unfold mmTry at h2; rw [← HXL.out.2, ← hv] at h2; cases h2⟩
    go_wp2_with (first
     | (go_at_call 79; refine (impl_ToneAbove.calls 1 x.f0 x.f1 k true 0 false false _ (HTA.out.trans rfl)).mono ?_; rintro e w4 ⟨rfl, hb4⟩; have HB4 := Z_.mk hb4; clear hb4)
     | ((with_reducible refine zr_ (N := 8) rfl ?_); refine box_event ?hg (N := 8) ?hd (cs := #[.int .i64 0, .bool false]) (t := 90) ?hr ?_; (case hd => rfl); (case hg => rfl); (case hr => first | (go_simp; done) | (go_simp; rfl)); intro gb hg w5 hbox hb5; have HG := Z_.mk (show w4.heap.size ≤ gb by omega); have HB5 := Z_.mk hb5; have hcz0 : w5.cell? ⟨gb, 0, none⟩ = some (.int .i64 0) := (zg_ hbox 0).trans rfl; have hcz1 : w5.cell? ⟨gb, 1, none⟩ = some (.bool false) := (zg_ hbox 1).trans rfl; have hfz0 := zi_ hbox 0; have hfz1 := zi_ hbox 1; clear hbox hb5 hg))
    have hbW : Below wr.heap.size wr ((w5.setCell ⟨gb, 0, none⟩ (.int .i64 0)).setCell ⟨gb, 1, none⟩ (.bool false)) := ze_ HB4.out (zd_ (zd_ HB5.out HG.out) HG.out)
    have HBW := Z_.mk hbW
    go_roundg (2 - 2)
    case measure => have := HK.out; omega
    case rel => exact ⟨2, rfl, ⟨by decide, by decide, by decide, fun _ => N0.out, fun _ => NG.out⟩, ⟨ze_ HB2.out HBW.out⟩⟩
   ·
    have hv := HV.out.symm
    rw [Bool.and_eq_true] at hv
    have hkk := of_decide_eq_true hv.1
    have HKK := Z_.mk hkk
    have HB' := Z_.mk (hgt_bd (t := mvT x k true) hv.2)
    have HB'' := Z_.mk (hgt_bd HXL.out.1)
    obtain ⟨Y, hY⟩ : ∃ Y, Y = x.f0 + k := ⟨_, rfl⟩
    have hYT : mvT x k true = ⟨Y, true⟩ := by rw [hY]; rfl
    obtain ⟨⟨M1, M2⟩, hM⟩ : ∃ R, R = movedP k (hgt ⟨Y, true⟩ - hgt x) m := ⟨_, rfl⟩
    have HM := Z_.mk hM.symm
    have HTRY : Z_ (mmTry m k true = M2 ∧ mmOf m k true = M1) := ⟨by unfold mmTry mmOf; rw [← HXL.out.2, hv.2, hYT, ← hM]; exact ⟨rfl, rfl⟩⟩
    have HYO := Z_.mk (show toneOk ⟨Y, true⟩ = true by rw [← hYT]; exact hv.2)
    have EW : Z_ (IntKind.i64.wrap (hgt ⟨Y, true⟩ - hgt x) = hgt ⟨Y, true⟩ - hgt x) := ⟨by rw [← hYT, i64_w]; exact w64 (x := hgt (mvT x k true) - hgt x) (by have := HB'.out; have := HB''.out; omega) (by have := HB'.out; have := HB''.out; omega)⟩
    rw [← hY] at HTA
    clear hY hYT HB' HB'' hM hv hkk
    go_upto_region 10 with (first
     | (go_at_call 79; refine (impl_ToneAbove.calls 1 x.f0 x.f1 k true Y true true _ (HTA.out.trans rfl)).mono ?_; rintro e w4 ⟨rfl, hb4⟩; have HB4 := Z_.mk hb4; clear hb4)
     | ((with_reducible refine zr_ (N := 8) rfl ?_); refine box_event ?hg (N := 8) ?hd (cs := #[.int .i64 0, .bool false]) (t := 90) ?hr ?_; (case hd => rfl); (case hg => rfl); (case hr => first | (go_simp; done) | (go_simp; rfl)); intro gb hg w5 hbox hb5; have HG := Z_.mk (show w4.heap.size ≤ gb by omega); have HB5 := Z_.mk hb5; have HBK := Z_.mk hbox; have hcz0 : w5.cell? ⟨gb, 0, none⟩ = some (.int .i64 0) := (zg_ hbox 0).trans rfl; have hcz1 : w5.cell? ⟨gb, 1, none⟩ = some (.bool false) := (zg_ hbox 1).trans rfl; have hfz0 := zi_ hbox 0; have hfz1 := zi_ hbox 1; clear hbox hb5 hg))
    have hbW : Below wr.heap.size wr ((w5.setCell ⟨gb, 0, none⟩ (.int .i64 Y)).setCell ⟨gb, 1, none⟩ (.bool true)) := ze_ HB4.out (zd_ (zd_ HB5.out HG.out) HG.out)
    have hbk : ((w5.setCell ⟨gb, 0, none⟩ (.int .i64 Y)).setCell ⟨gb, 1, none⟩ (.bool true)).heap[gb]? = some (.cells #[.int .i64 Y, .bool true] 90 (0, 0)) := blk_put (cs := #[.int .i64 Y, .bool false]) (blk_put (cs := #[.int .i64 0, .bool false]) HBK.out 0 _ rfl) 1 _ rfl
    have HBW := Z_.mk hbW
    have HBKW := Z_.mk hbk
    have hy0' := zl_ hbW hx0
    have hy1' := zl_ hbW hx1
    clear hbW hbk HB4 HB5 HG HBK hcz0 hcz1 hx0 hx1 hfz0 hfz1
    generalize (w5.setCell ⟨gb, 0, none⟩ (.int .i64 Y)).setCell ⟨gb, 1, none⟩ (.bool true) = wx at HBW HBKW hy0' hy1' ⊢
    have hg0 : wx.drew.cell? ⟨gb, 0, none⟩ = some (.int .i64 Y) := (zg_ HBKW.out 0).trans rfl
    have hg1 : wx.drew.cell? ⟨gb, 1, none⟩ = some (.bool true) := (zg_ HBKW.out 1).trans rfl
    have hy0 : wx.drew.cell? ad = some (.int .i64 x.f0) := hy0'
    have hy1 : wx.drew.cell? ⟨ad.block, ad.off + 1, none⟩ = some (.bool x.f1) := hy1'
    have HW0 := Z_.mk (ze_ HB2.out (zb_ HBW.out))
    have HTW := Z_.mk (HT.out.below HW0.out)
    clear hy0' hy1'
    go_region_held3 (fun w' => w'.cell? ⟨gb, 0, none⟩ = some (.int .i64 Y) ∧ w'.cell? ⟨gb, 1, none⟩ = some (.bool true) ∧ w'.cell? ad = some (.int .i64 x.f0) ∧ w'.cell? ⟨ad.block, ad.off + 1, none⟩ = some (.bool x.f1))
     (first
      | exact ⟨hg0, hg1, hy0, hy1⟩
      | go_keep
      | exact ⟨zl_ hb6 hg0, zl_ hb6 hg1, zl_ hb6 hy0, zl_ hb6 hy1⟩
      | exact ⟨zl_ (ze_ hb6 hb7) hg0, zl_ (ze_ hb6 hb7) hg1, zl_ (ze_ hb6 hb7) hy0, zl_ (ze_ hb6 hb7) hy1⟩
      | exact ⟨zl_ (ze_ (ze_ hb6 hb7) hb8) hg0, zl_ (ze_ (ze_ hb6 hb7) hb8) hg1, zl_ (ze_ (ze_ hb6 hb7) hb8) hy0, zl_ (ze_ (ze_ hb6 hb7) hb8) hy1⟩
      | fail)
     (first
      | (go_at_call 81; with_reducible refine (impl_height_calls ⟨Y, true⟩ wx.drew HTW.out HYO.out).mono ?_; rintro e w6 ⟨rfl, hb6⟩)
      | (go_at_call 81; with_reducible refine (impl_height_calls x w6 (HTW.out.below hb6) HXL.out.1).mono ?_; rintro e w7 ⟨rfl, hb7⟩)
      | (go_at_call 80; with_reducible refine (impl_movedMelody_calls m k (IntKind.i64.wrap (hgt ⟨Y, true⟩ - hgt x)) _ _ w7 (HTW.out.below (ze_ hb6 hb7)) (Kd.C_below HR0.out (ze_ HW0.out (ze_ hb6 hb7))) HC0.out HOK.out HKK.out).mono ?_; rintro e w8 ⟨v8, rfl, ho8, hb8⟩; rw [EW.out, HM.out] at ho8; rw [EW.out, HM.out]; obtain ⟨A8, c8, rfl⟩ := Kd.R_slice ho8)
      | fail)
    have HB8 := Z_.mk (ze_ (ze_ HW0.out (ze_ hb6 hb7)) hb8)
    have HO8 := Z_.mk (Kd.R_lower ho8 (ze_ HW0.out (ze_ hb6 hb7)).size)
    clear hg0 hg1 hy0 hy1 hb6 hb7 hb8 ho8 HBKW HBW HTW HW0
    cases M2
    ·
     have NG : Z_ (¬ mmT m k true) := ⟨fun h => by have h2 := h.2; rw [HTRY.out.1] at h2; cases h2⟩
     go_wp2
     go_roundg (2 - 2)
     case measure => have := HK.out; omega
     case rel => exact ⟨2, rfl, ⟨by decide, by decide, by decide, fun _ => N0.out, fun _ => NG.out⟩, HB8⟩
    ·
     have hR : (R1, R2) = (M1, true) := by rw [← HTRY.out.2]; exact HRR.out.symm.trans (mmove_yes HOK.out HPOS.out ⟨HKK.out, HTRY.out.1⟩ (fun _ => N0.out))
     cases hR
     go_wp2
     go_ret2
     exact ⟨_, rfl, HO8.out, HB8.out⟩

set_option maxHeartbeats 4000000 in
set_option maxRecDepth 100000 in
theorem impl_differencesSemis_calls (g : S90 → S90 → Int) (I : World → Prop) (hI : ∀ w w' : World, I w → Below w.heap.size w w' → I w')
 (hC : ∀ (x y : S90) (w : World), toneOk x = true → toneOk y = true → I w → Calls Tryd.prog 103 #[.agg #[.int .i64 x.f0, .bool x.f1], .agg #[.int .i64 y.f0, .bool y.f1]] w fun e w' => e = .returned (.tuple #[.int .i64 (g x y), .bool true]) ∧ Below w.heap.size w w')
 (m : List S90) (A0 : Option Addr) (c0 : Nat) (w : World) (h0 : I w) (hr0 : Kd.C k90 w A0 m.length m) (hc0 : m.length ≤ c0) (hm : m.length ≤ 1000000000000) :
 Calls Tryd.prog 102 #[.slice A0 m.length c0, .func (.func 103) #[] #[]] w fun e w' => ∃ v, e = .returned v ∧ Kd.R (Kd.int .i64) 3 w' w.heap.size (fun _ => True) v (mdiffs g m) ∧ Below w.heap.size w w' := by
 obtain ⟨kk, hv⟩ := Ev.rounds (impl_MelodyValid_ev m)
 have hu := Tryd.underlying125
 have hu1 := Tryd.underlying90
 have HI := Z_.mk info3
 have HII := Z_.mk hI
 have HCC := Z_.mk hC
 have H0 := Z_.mk h0
 have HR0 := Z_.mk hr0
 have HC0 := Z_.mk hc0
 have HV := Z_.mk hv
 clear hr0 hc0 hv hI hC h0
 cases hok : melOk m
 ·
  have e : mdiffs g m = [] := by unfold mdiffs; rw [hok]; rfl
  rw [e]
  rw [hok] at HV
  clear hok e
  go_enter Tryd.func102, Tryd.ntmps102
  go_wp2_with (first
   | ((with_reducible refine zr_ (N := 9) rfl ?_); refine Kd.R_lit (Kd.int .i64) _ 3 ?hg (N := 9) ?hd (xs := ([] : List Int)) (inner := []) (ok := fun _ => True) (okp := fun _ => True) ?hr (Reps.none _ _) (fun _ hk => hk) trivial (Below.refl _ _) (Nat.le_refl _) (by simp) ?_; (case hd => rfl); (case hg => rfl); (case hr => first | (go_simp; done) | (go_simp; rfl)); intro v1 w1 ho1 hb1 _ _; obtain ⟨A1, c1, rfl⟩ := Kd.R_slice ho1; have HO1 := Z_.mk ho1; have HB1 := Z_.mk hb1; clear ho1 hb1)
   | (go_at_call 70; refine (impl_MelodyValid.calls kk _ _ m false _ (Kd.C_below HR0.out HB1.out) HC0.out HV.out).mono ?_; rintro e w2 ⟨rfl, hb2⟩))
  go_ret
  exact ⟨_, rfl, Kd.R_below HO1.out hb2, ze_ HB1.out hb2⟩
 rw [hok] at HV
 have e : mdiffs g m = diffs g m := by unfold mdiffs; rw [hok]; rfl
 rw [e]
 have hall := melOk_all hok
 have hlen := melOk_len hok
 cases m with
 | nil =>
  clear hok e
  go_enter Tryd.func102, Tryd.ntmps102
  go_wp2_with (first
   | ((with_reducible refine zr_ (N := 9) rfl ?_); refine Kd.R_lit (Kd.int .i64) _ 3 ?hg (N := 9) ?hd (xs := ([] : List Int)) (inner := []) (ok := fun _ => True) (okp := fun _ => True) ?hr (Reps.none _ _) (fun _ hk => hk) trivial (Below.refl _ _) (Nat.le_refl _) (by simp) ?_; (case hd => rfl); (case hg => rfl); (case hr => first | (go_simp; done) | (go_simp; rfl)); intro v1 w1 ho1 hb1 _ _; obtain ⟨A1, c1, rfl⟩ := Kd.R_slice ho1; have HO1 := Z_.mk ho1; have HB1 := Z_.mk hb1; clear ho1 hb1)
   | (go_at_call 70; refine (impl_MelodyValid.calls kk _ _ [] true _ (Kd.C_below HR0.out HB1.out) HC0.out HV.out).mono ?_; rintro e w2 ⟨rfl, hb2⟩))
  go_ret
  exact ⟨_, rfl, Kd.R_below HO1.out hb2, ze_ HB1.out hb2⟩
 | cons x0 l0 =>
  obtain ⟨m, hmm⟩ : ∃ m, m = x0 :: l0 := ⟨_, rfl⟩
  have hne : ((m.length : Int) == 0) = false := by rw [beq_eq_false_iff_ne, hmm]; simp; omega
  have hne' : (m.length == 0) = false := by rw [beq_eq_false_iff_ne, hmm]; simp
  obtain ⟨D, hD⟩ : ∃ D, D = diffs g (x0 :: l0) := ⟨_, rfl⟩
  rw [← hD]
  have HD := Z_.mk hD
  rw [List.all_cons, Bool.and_eq_true] at hall
  have HALL := Z_.mk (And.intro hall.1 (And.intro hall.2 (show l0.length ≤ 23 by simp only [List.length_cons] at hlen; omega)))
  rw [← hmm] at HR0 HC0 HV hm ⊢
  have HMM := Z_.mk hmm
  clear hok e hD hall hlen hmm
  go_enter Tryd.func102, Tryd.ntmps102
  go_wp2_with (first
   | ((with_reducible refine zr_ (N := 9) rfl ?_); refine Kd.R_lit (Kd.int .i64) _ 3 ?hg (N := 9) ?hd (xs := ([] : List Int)) (inner := []) (ok := fun _ => True) (okp := fun _ => True) ?hr (Reps.none _ _) (fun _ hk => hk) trivial (Below.refl _ _) (Nat.le_refl _) (by simp) ?_; (case hd => rfl); (case hg => rfl); (case hr => first | (go_simp; done) | (go_simp; rfl)); intro v1 w1 ho1 hb1 _ _; have HO1 := Z_.mk ho1; have HB1 := Z_.mk hb1; clear ho1 hb1)
   | (go_at_call 70; refine (impl_MelodyValid.calls kk _ _ m true _ (Kd.C_below HR0.out HB1.out) HC0.out HV.out).mono ?_; rintro e w2 ⟨rfl, hb2⟩; have HO2 := Z_.mk (Kd.R_below HO1.out hb2); have HB2 := Z_.mk (ze_ HB1.out hb2); clear hb2)
   | (go_at_call 105; refine (impl_linked_calls m _ _ w2 (Kd.C_below HR0.out HB2.out) HC0.out hm).mono ?_; rintro e w3 ⟨v3, rfl, hl3, hb3⟩; have HL3 := Z_.mk hl3; have HO3 := Z_.mk (Kd.R_below HO2.out hb3); have HB3 := Z_.mk (ze_ HB2.out hb3); clear hl3 hb3))
  go_loopg [5, 6] l0.length (fun kq v5 v6 w' => ∃ (X : List Int) (x : S90) (l : List S90), Z_ (kq = l.length ∧ X ++ diffs g (x :: l) = D ∧ toneOk x = true ∧ l.all toneOk = true ∧ X.length + l.length ≤ 23) ∧ Z_ (Kd.R (Kd.int .i64) 3 w' w.heap.size (fun _ => True) v5 X) ∧ Z_ (Lk w' w2.heap.size v6 (x :: l)) ∧ Z_ (Below w.heap.size w w'))
  case atStart => exact ⟨[], x0, l0, ⟨rfl, HD.out.symm, HALL.out.1, HALL.out.2.1, by simpa using HALL.out.2.2⟩, HO3, ⟨by rw [← HMM.out]; exact HL3.out⟩, HB3⟩
  case round =>
   clear HO3 HL3 HB3
   obtain ⟨X, x, l, HX, HO, HL, HB⟩ := hrel
   obtain ⟨b, nx, e1, hbw, hbx, hnx⟩ := HL.out
   subst e1
   have hx0 : wr.cell? ⟨b, 0, none⟩ = some (.int .i64 x.f0) := (zg_ hbx 0).trans rfl
   have hx1 : wr.cell? ⟨b, 1, none⟩ = some (.bool x.f1) := (zg_ hbx 1).trans rfl
   have hx2 : wr.cell? ⟨b, 2, none⟩ = some nx := (zg_ hbx 2).trans rfl
   have HBX := Z_.mk hbx
   cases l with
   | nil =>
    obtain rfl : nx = .pointer none := hnx
    obtain ⟨A5, c5, e5⟩ := Kd.R_slice HO.out
    subst e5
    have hXD : X = D := by have := HX.out.2.1; simpa [diffs] using this
    subst hXD
    clear hbx
    go_wp2
    go_ret
    exact ⟨_, rfl, HO.out, HB.out⟩
   | cons y l =>
    have HNX := Z_.mk hnx
    obtain ⟨b', nx', e2, hbw', hby, hny⟩ := hnx
    subst e2
    have hy0 : wr.cell? ⟨b', 0, none⟩ = some (.int .i64 y.f0) := (zg_ hby 0).trans rfl
    have hy1 : wr.cell? ⟨b', 1, none⟩ = some (.bool y.f1) := (zg_ hby 1).trans rfl
    have dx0 : wr.drew.cell? ⟨b, 0, none⟩ = some (.int .i64 x.f0) := hx0
    have dx1 : wr.drew.cell? ⟨b, 1, none⟩ = some (.bool x.f1) := hx1
    have dx2 : wr.drew.cell? ⟨b, 2, none⟩ = some (.pointer (some ⟨b', 0, none⟩)) := hx2
    have dy0 : wr.drew.cell? ⟨b', 0, none⟩ = some (.int .i64 y.f0) := hy0
    have dy1 : wr.drew.cell? ⟨b', 1, none⟩ = some (.bool y.f1) := hy1
    have hall := HX.out.2.2.2.1
    rw [List.all_cons, Bool.and_eq_true] at hall
    have NX : Z_ (l.length < gk ∧ X ++ [g x y] ++ diffs g (y :: l) = D ∧ toneOk y = true ∧ l.all toneOk = true ∧ (X ++ [g x y]).length + l.length ≤ 23) := ⟨by have := HX.out.1; simp only [List.length_cons] at this; omega, by have := HX.out.2.1; simp only [diffs] at this; rw [List.append_assoc]; exact this, hall.1, hall.2, by have := HX.out.2.2.2.2; simp only [List.length_append, List.length_cons, List.length_nil] at this ⊢; omega⟩
    have HXT := Z_.mk HX.out.2.2.1
    have bx : X.length ≤ 23 := by have := HX.out.2.2.2.2; omega
    have HDB := Z_.mk (zb_ HB.out)
    have HID := Z_.mk (HII.out _ _ H0.out HDB.out)
    clear hall hbx hby hny
    go_wp2
    go_region_held3 (fun w' => w'.cell? ⟨b, 0, none⟩ = some (.int .i64 x.f0) ∧ w'.cell? ⟨b, 1, none⟩ = some (.bool x.f1) ∧ w'.cell? ⟨b, 2, none⟩ = some (.pointer (some ⟨b', 0, none⟩)) ∧ w'.cell? ⟨b', 0, none⟩ = some (.int .i64 y.f0) ∧ w'.cell? ⟨b', 1, none⟩ = some (.bool y.f1))
     (first
      | exact ⟨dx0, dx1, dx2, dy0, dy1⟩
      | go_keep
      | exact ⟨zl_ hb4 dx0, zl_ hb4 dx1, zl_ hb4 dx2, zl_ hb4 dy0, zl_ hb4 dy1⟩
      | fail)
     (first
      | (go_at_call 103; refine (HCC.out x y wr.drew HXT.out NX.out.2.2.1 HID.out).mono ?_; rintro e w4 ⟨rfl, hb4⟩)
      | fail)
    have HO4 := Z_.mk (Kd.R_below (show Kd.R (Kd.int .i64) 3 wr.drew w.heap.size (fun _ => True) _ X from Kd.R_drew HO.out) hb4)
    have HB4 := Z_.mk (ze_ HDB.out hb4)
    have HBX4 := Z_.mk (zq_ (show wr.drew.heap[b]? = _ from HBX.out) hb4)
    have HNX4 := Z_.mk (Lk.below hb4 (show Lk wr.drew w2.heap.size _ (y :: l) from HNX.out.below (zb_ (Below.refl _ _))))
    clear hx0 hx1 hx2 hy0 hy1 dx0 dx1 dx2 dy0 dy1 hb4
    go_wp2_with ((with_reducible refine gate_builtin (b := .append) (xs := #[.tmp 47, .tmp 49]) rfl ?_); at_builtin; go_loud (refine Kd.R_append (Kd.int .i64) (w0 := w) w.heap.size rfl (.tmp 47) (.tmp 49) 45 3 (.int .i64 0) 8 rfl Tryd.underlying45 HI.out rfl (by decide) (by omega) _ X (g x y) [.int .i64 (g x y)] (fun _ => True) (fun _ => False) rfl rfl ?aP (fun _ hk => hk.elim) (fun _ _ => trivial) HO4.out HB4.out HB4.out.size (by omega) ?_); (case aP => exact rfl); intro v9 wC ho9 hb9 hg9 hat9; have HO9 := Z_.mk ho9; have HB9 := Z_.mk hb9; have HNX9 := Z_.mk (Lk.grown HO4.out hg9 HNX4.out); have cx2 : wC.cell? ⟨b, 2, none⟩ = some (.pointer (some ⟨b', 0, none⟩)) := (zg_ (blk_grown HBX4.out hg9 (Kd.R_ne HO4.out HBX4.out (by decide))) 2).trans rfl; clear ho9 hb9 hg9 hat9)
    go_roundg l.length
    case measure => exact NX.out.1
    case rel => exact ⟨X ++ [g x y], y, l, ⟨rfl, NX.out.2⟩, HO9, HNX9, HB9⟩

def semD (x y : S90) : Int := wrap64 (hgt y - hgt x)
set_option maxHeartbeats 4000000 in
set_option maxRecDepth 100000 in
theorem impl_ToneSemis_good (x y : S90) (w : World) (hx : toneOk x = true) (hy : toneOk y = true) (ht : HTab w) : Calls Tryd.prog 103 #[.agg #[.int .i64 x.f0, .bool x.f1], .agg #[.int .i64 y.f0, .bool y.f1]] w fun e w' => e = .returned (.tuple #[.int .i64 (semD x y), .bool true]) ∧ Below w.heap.size w w' := by
 have hu1 := Tryd.underlying90
 have HVX := Z_.mk (show impl_Tone_valid.f x.f0 x.f1 = some true by rw [impl_Tone_valid_eq]; exact congrArg some hx)
 have HVY := Z_.mk (show impl_Tone_valid.f y.f0 y.f1 = some true by rw [impl_Tone_valid_eq]; exact congrArg some hy)
 have HXO := Z_.mk hx
 have HYO := Z_.mk hy
 have HT := Z_.mk ht
 clear hx hy ht
 go_enter Tryd.func103, Tryd.ntmps103
 go_upto_region 3 with (first
  | ((with_reducible refine zr_ (N := 2) rfl ?_); refine box_event ?hg (N := 2) ?hd (cs := #[.int .i64 x.f0, .bool x.f1]) (t := 90) ?hr ?_; (case hd => rfl); (case hg => rfl); (case hr => first | (go_simp; done) | (go_simp; rfl)); intro gx hg w3 hbox hb3; have HBX := Z_.mk hbox; have HB3 := Z_.mk hb3; have hx0 : w3.cell? ⟨gx, 0, none⟩ = some (.int .i64 x.f0) := (zg_ hbox 0).trans rfl; have hx1 : w3.cell? ⟨gx, 1, none⟩ = some (.bool x.f1) := (zg_ hbox 1).trans rfl; clear hg hbox hb3)
  | ((with_reducible refine zr_ (N := 3) rfl ?_); refine box_event ?hg (N := 3) ?hd (cs := #[.int .i64 y.f0, .bool y.f1]) (t := 90) ?hr ?_; (case hd => rfl); (case hg => rfl); (case hr => first | (go_simp; done) | (go_simp; rfl)); intro gy hg w4 hbox hb4; have HBX4 := Z_.mk (zq_ HBX.out hb4); have HBY4 := Z_.mk hbox; have HB4 := Z_.mk (ze_ HB3.out hb4); have hxa0 := zl_ hb4 hx0; have hxa1 := zl_ hb4 hx1; clear hg hbox hb4)
  | (go_at_call 96; with_reducible refine (impl_Tone_valid.calls x.f0 x.f1 true w4 HVX.out).mono ?_; rintro e w5 ⟨rfl, hb5⟩; have HBX5 := Z_.mk (zq_ HBX4.out hb5); have HBY5 := Z_.mk (zq_ HBY4.out hb5); have HB5 := Z_.mk (ze_ HB4.out hb5); have hya0 : w5.cell? ⟨gy, 0, none⟩ = some (.int .i64 y.f0) := (zg_ HBY5.out 0).trans rfl; have hya1 : w5.cell? ⟨gy, 1, none⟩ = some (.bool y.f1) := (zg_ HBY5.out 1).trans rfl; clear hb5)
  | (go_at_call 96; with_reducible refine (impl_Tone_valid.calls y.f0 y.f1 true w5 HVY.out).mono ?_; rintro e w6 ⟨rfl, hb6⟩; have HBX6 := Z_.mk (zq_ HBX5.out hb6); have HBY6 := Z_.mk (zq_ HBY5.out hb6); have HB6 := Z_.mk (ze_ HB5.out hb6); clear hb6))
 clear hx0 hx1 hxa0 hxa1 hya0 hya1
 have dx0 : w6.drew.cell? ⟨gx, 0, none⟩ = some (.int .i64 x.f0) := (zg_ HBX6.out 0).trans rfl
 have dx1 : w6.drew.cell? ⟨gx, 1, none⟩ = some (.bool x.f1) := (zg_ HBX6.out 1).trans rfl
 have dy0 : w6.drew.cell? ⟨gy, 0, none⟩ = some (.int .i64 y.f0) := (zg_ HBY6.out 0).trans rfl
 have dy1 : w6.drew.cell? ⟨gy, 1, none⟩ = some (.bool y.f1) := (zg_ HBY6.out 1).trans rfl
 have HDB := Z_.mk (zb_ HB6.out)
 go_region_held3 (fun w' => w'.cell? ⟨gx, 0, none⟩ = some (.int .i64 x.f0) ∧ w'.cell? ⟨gx, 1, none⟩ = some (.bool x.f1) ∧ w'.cell? ⟨gy, 0, none⟩ = some (.int .i64 y.f0) ∧ w'.cell? ⟨gy, 1, none⟩ = some (.bool y.f1))
  (first
   | exact ⟨dx0, dx1, dy0, dy1⟩
   | go_keep
   | exact ⟨zl_ hb7 dx0, zl_ hb7 dx1, zl_ hb7 dy0, zl_ hb7 dy1⟩
   | exact ⟨zl_ (ze_ hb7 hb8) dx0, zl_ (ze_ hb7 hb8) dx1, zl_ (ze_ hb7 hb8) dy0, zl_ (ze_ hb7 hb8) dy1⟩
   | fail)
  (first
   | (go_at_call 81; with_reducible refine (impl_height_calls y w6.drew (HT.out.below HDB.out) HYO.out).mono ?_; rintro e w7 ⟨rfl, hb7⟩)
   | (go_at_call 81; with_reducible refine (impl_height_calls x w7 (HT.out.below (ze_ HDB.out hb7)) HXO.out).mono ?_; rintro e w8 ⟨rfl, hb8⟩)
   | fail)
 have HB8 := Z_.mk (ze_ HDB.out (ze_ hb7 hb8))
 clear dx0 dx1 dy0 dy1 hb7 hb8
 go_wp2
 go_ret2
 exact ⟨by rw [show semD x y = IntKind.i64.wrap (hgt y - hgt x) from (i64_w _).symm]; rfl, HB8.out⟩
set_option maxHeartbeats 4000000 in
set_option maxRecDepth 100000 in
theorem impl_MelodySemis_calls (m : List S90) (A0 : Option Addr) (c0 : Nat) (w : World) (ht : HTab w) (hr0 : Kd.C k90 w A0 m.length m) (hc0 : m.length ≤ c0) (hm : m.length ≤ 1000000000000) :
 Calls Tryd.prog 77 #[.slice A0 m.length c0] w fun e w' => ∃ v, e = .returned v ∧ Kd.R (Kd.int .i64) 3 w' w.heap.size (fun _ => True) v (mdiffs semD m) ∧ Below w.heap.size w w' := by
 have HR0 := Z_.mk hr0
 have HC0 := Z_.mk hc0
 have HT := Z_.mk ht
 clear hr0 hc0 ht
 go_enter Tryd.func77, Tryd.ntmps77
 go_wp2_with (go_at_call 102; refine (impl_differencesSemis_calls semD HTab (fun _ _ h hb => h.below hb) (fun x y w hx hy h => impl_ToneSemis_good x y w hx hy h) m A0 c0 _ HT.out HR0.out HC0.out hm).mono ?_; rintro e w1 ⟨v, rfl, ho, hb⟩; obtain ⟨A1, c1, rfl⟩ := Kd.R_slice ho)
 go_ret
 exact ⟨_, rfl, ho, hb⟩

end Go.Proofs.YtmacedbpdhkagaaDoor.Pure
namespace Go.Proofs.YtmacedbpdhkagaaDoor.Pure
set_option linter.unusedVariables false
set_option linter.unusedSimpArgs false
open Go Go.RowKit Go.Proofs.YtmacedbpdhkagaaDoor.PFnTonaryFind Go.Proofs.YtmacedbpdhkagaaDoorW.PrintWords Go.Proofs.YtmacedbpdhkagaaDoorW.PrintLast Go.Proofs.YtmacedbpdhkagaaDoorW.PrintMore

set_option maxHeartbeats 4000000 in
set_option maxRecDepth 100000 in
theorem impl_differencesSteps_calls (g : S90 → S90 → Int) (I : World → Prop) (hI : ∀ w w' : World, I w → Below w.heap.size w w' → I w')
 (hC : ∀ (x y : S90) (w : World), toneOk x = true → toneOk y = true → I w → Calls Tryd.prog 104 #[.agg #[.int .i64 x.f0, .bool x.f1], .agg #[.int .i64 y.f0, .bool y.f1]] w fun e w' => e = .returned (.tuple #[.int .i64 (g x y), .bool true]) ∧ Below w.heap.size w w')
 (m : List S90) (A0 : Option Addr) (c0 : Nat) (w : World) (h0 : I w) (hr0 : Kd.C k90 w A0 m.length m) (hc0 : m.length ≤ c0) (hm : m.length ≤ 1000000000000) :
 Calls Tryd.prog 102 #[.slice A0 m.length c0, .func (.func 104) #[] #[]] w fun e w' => ∃ v, e = .returned v ∧ Kd.R (Kd.int .i64) 3 w' w.heap.size (fun _ => True) v (mdiffs g m) ∧ Below w.heap.size w w' := by
 obtain ⟨kk, hv⟩ := Ev.rounds (impl_MelodyValid_ev m)
 have hu := Tryd.underlying125
 have hu1 := Tryd.underlying90
 have HI := Z_.mk info3
 have HII := Z_.mk hI
 have HCC := Z_.mk hC
 have H0 := Z_.mk h0
 have HR0 := Z_.mk hr0
 have HC0 := Z_.mk hc0
 have HV := Z_.mk hv
 clear hr0 hc0 hv hI hC h0
 cases hok : melOk m
 ·
  have e : mdiffs g m = [] := by unfold mdiffs; rw [hok]; rfl
  rw [e]
  rw [hok] at HV
  clear hok e
  go_enter Tryd.func102, Tryd.ntmps102
  go_wp2_with (first
   | ((with_reducible refine zr_ (N := 9) rfl ?_); refine Kd.R_lit (Kd.int .i64) _ 3 ?hg (N := 9) ?hd (xs := ([] : List Int)) (inner := []) (ok := fun _ => True) (okp := fun _ => True) ?hr (Reps.none _ _) (fun _ hk => hk) trivial (Below.refl _ _) (Nat.le_refl _) (by simp) ?_; (case hd => rfl); (case hg => rfl); (case hr => first | (go_simp; done) | (go_simp; rfl)); intro v1 w1 ho1 hb1 _ _; obtain ⟨A1, c1, rfl⟩ := Kd.R_slice ho1; have HO1 := Z_.mk ho1; have HB1 := Z_.mk hb1; clear ho1 hb1)
   | (go_at_call 70; refine (impl_MelodyValid.calls kk _ _ m false _ (Kd.C_below HR0.out HB1.out) HC0.out HV.out).mono ?_; rintro e w2 ⟨rfl, hb2⟩))
  go_ret
  exact ⟨_, rfl, Kd.R_below HO1.out hb2, ze_ HB1.out hb2⟩
 rw [hok] at HV
 have e : mdiffs g m = diffs g m := by unfold mdiffs; rw [hok]; rfl
 rw [e]
 have hall := melOk_all hok
 have hlen := melOk_len hok
 cases m with
 | nil =>
  clear hok e
  go_enter Tryd.func102, Tryd.ntmps102
  go_wp2_with (first
   | ((with_reducible refine zr_ (N := 9) rfl ?_); refine Kd.R_lit (Kd.int .i64) _ 3 ?hg (N := 9) ?hd (xs := ([] : List Int)) (inner := []) (ok := fun _ => True) (okp := fun _ => True) ?hr (Reps.none _ _) (fun _ hk => hk) trivial (Below.refl _ _) (Nat.le_refl _) (by simp) ?_; (case hd => rfl); (case hg => rfl); (case hr => first | (go_simp; done) | (go_simp; rfl)); intro v1 w1 ho1 hb1 _ _; obtain ⟨A1, c1, rfl⟩ := Kd.R_slice ho1; have HO1 := Z_.mk ho1; have HB1 := Z_.mk hb1; clear ho1 hb1)
   | (go_at_call 70; refine (impl_MelodyValid.calls kk _ _ [] true _ (Kd.C_below HR0.out HB1.out) HC0.out HV.out).mono ?_; rintro e w2 ⟨rfl, hb2⟩))
  go_ret
  exact ⟨_, rfl, Kd.R_below HO1.out hb2, ze_ HB1.out hb2⟩
 | cons x0 l0 =>
  obtain ⟨m, hmm⟩ : ∃ m, m = x0 :: l0 := ⟨_, rfl⟩
  have hne : ((m.length : Int) == 0) = false := by rw [beq_eq_false_iff_ne, hmm]; simp; omega
  have hne' : (m.length == 0) = false := by rw [beq_eq_false_iff_ne, hmm]; simp
  obtain ⟨D, hD⟩ : ∃ D, D = diffs g (x0 :: l0) := ⟨_, rfl⟩
  rw [← hD]
  have HD := Z_.mk hD
  rw [List.all_cons, Bool.and_eq_true] at hall
  have HALL := Z_.mk (And.intro hall.1 (And.intro hall.2 (show l0.length ≤ 23 by simp only [List.length_cons] at hlen; omega)))
  rw [← hmm] at HR0 HC0 HV hm ⊢
  have HMM := Z_.mk hmm
  clear hok e hD hall hlen hmm
  go_enter Tryd.func102, Tryd.ntmps102
  go_wp2_with (first
   | ((with_reducible refine zr_ (N := 9) rfl ?_); refine Kd.R_lit (Kd.int .i64) _ 3 ?hg (N := 9) ?hd (xs := ([] : List Int)) (inner := []) (ok := fun _ => True) (okp := fun _ => True) ?hr (Reps.none _ _) (fun _ hk => hk) trivial (Below.refl _ _) (Nat.le_refl _) (by simp) ?_; (case hd => rfl); (case hg => rfl); (case hr => first | (go_simp; done) | (go_simp; rfl)); intro v1 w1 ho1 hb1 _ _; have HO1 := Z_.mk ho1; have HB1 := Z_.mk hb1; clear ho1 hb1)
   | (go_at_call 70; refine (impl_MelodyValid.calls kk _ _ m true _ (Kd.C_below HR0.out HB1.out) HC0.out HV.out).mono ?_; rintro e w2 ⟨rfl, hb2⟩; have HO2 := Z_.mk (Kd.R_below HO1.out hb2); have HB2 := Z_.mk (ze_ HB1.out hb2); clear hb2)
   | (go_at_call 105; refine (impl_linked_calls m _ _ w2 (Kd.C_below HR0.out HB2.out) HC0.out hm).mono ?_; rintro e w3 ⟨v3, rfl, hl3, hb3⟩; have HL3 := Z_.mk hl3; have HO3 := Z_.mk (Kd.R_below HO2.out hb3); have HB3 := Z_.mk (ze_ HB2.out hb3); clear hl3 hb3))
  go_loopg [5, 6] l0.length (fun kq v5 v6 w' => ∃ (X : List Int) (x : S90) (l : List S90), Z_ (kq = l.length ∧ X ++ diffs g (x :: l) = D ∧ toneOk x = true ∧ l.all toneOk = true ∧ X.length + l.length ≤ 23) ∧ Z_ (Kd.R (Kd.int .i64) 3 w' w.heap.size (fun _ => True) v5 X) ∧ Z_ (Lk w' w2.heap.size v6 (x :: l)) ∧ Z_ (Below w.heap.size w w'))
  case atStart => exact ⟨[], x0, l0, ⟨rfl, HD.out.symm, HALL.out.1, HALL.out.2.1, by simpa using HALL.out.2.2⟩, HO3, ⟨by rw [← HMM.out]; exact HL3.out⟩, HB3⟩
  case round =>
   clear HO3 HL3 HB3
   obtain ⟨X, x, l, HX, HO, HL, HB⟩ := hrel
   obtain ⟨b, nx, e1, hbw, hbx, hnx⟩ := HL.out
   subst e1
   have hx0 : wr.cell? ⟨b, 0, none⟩ = some (.int .i64 x.f0) := (zg_ hbx 0).trans rfl
   have hx1 : wr.cell? ⟨b, 1, none⟩ = some (.bool x.f1) := (zg_ hbx 1).trans rfl
   have hx2 : wr.cell? ⟨b, 2, none⟩ = some nx := (zg_ hbx 2).trans rfl
   have HBX := Z_.mk hbx
   cases l with
   | nil =>
    obtain rfl : nx = .pointer none := hnx
    obtain ⟨A5, c5, e5⟩ := Kd.R_slice HO.out
    subst e5
    have hXD : X = D := by have := HX.out.2.1; simpa [diffs] using this
    subst hXD
    clear hbx
    go_wp2
    go_ret
    exact ⟨_, rfl, HO.out, HB.out⟩
   | cons y l =>
    have HNX := Z_.mk hnx
    obtain ⟨b', nx', e2, hbw', hby, hny⟩ := hnx
    subst e2
    have hy0 : wr.cell? ⟨b', 0, none⟩ = some (.int .i64 y.f0) := (zg_ hby 0).trans rfl
    have hy1 : wr.cell? ⟨b', 1, none⟩ = some (.bool y.f1) := (zg_ hby 1).trans rfl
    have dx0 : wr.drew.cell? ⟨b, 0, none⟩ = some (.int .i64 x.f0) := hx0
    have dx1 : wr.drew.cell? ⟨b, 1, none⟩ = some (.bool x.f1) := hx1
    have dx2 : wr.drew.cell? ⟨b, 2, none⟩ = some (.pointer (some ⟨b', 0, none⟩)) := hx2
    have dy0 : wr.drew.cell? ⟨b', 0, none⟩ = some (.int .i64 y.f0) := hy0
    have dy1 : wr.drew.cell? ⟨b', 1, none⟩ = some (.bool y.f1) := hy1
    have hall := HX.out.2.2.2.1
    rw [List.all_cons, Bool.and_eq_true] at hall
    have NX : Z_ (l.length < gk ∧ X ++ [g x y] ++ diffs g (y :: l) = D ∧ toneOk y = true ∧ l.all toneOk = true ∧ (X ++ [g x y]).length + l.length ≤ 23) := ⟨by have := HX.out.1; simp only [List.length_cons] at this; omega, by have := HX.out.2.1; simp only [diffs] at this; rw [List.append_assoc]; exact this, hall.1, hall.2, by have := HX.out.2.2.2.2; simp only [List.length_append, List.length_cons, List.length_nil] at this ⊢; omega⟩
    have HXT := Z_.mk HX.out.2.2.1
    have bx : X.length ≤ 23 := by have := HX.out.2.2.2.2; omega
    have HDB := Z_.mk (zb_ HB.out)
    have HID := Z_.mk (HII.out _ _ H0.out HDB.out)
    clear hall hbx hby hny
    go_wp2
    go_region_held3 (fun w' => w'.cell? ⟨b, 0, none⟩ = some (.int .i64 x.f0) ∧ w'.cell? ⟨b, 1, none⟩ = some (.bool x.f1) ∧ w'.cell? ⟨b, 2, none⟩ = some (.pointer (some ⟨b', 0, none⟩)) ∧ w'.cell? ⟨b', 0, none⟩ = some (.int .i64 y.f0) ∧ w'.cell? ⟨b', 1, none⟩ = some (.bool y.f1))
     (first
      | exact ⟨dx0, dx1, dx2, dy0, dy1⟩
      | go_keep
      | exact ⟨zl_ hb4 dx0, zl_ hb4 dx1, zl_ hb4 dx2, zl_ hb4 dy0, zl_ hb4 dy1⟩
      | fail)
     (first
      | (go_at_call 104; refine (HCC.out x y wr.drew HXT.out NX.out.2.2.1 HID.out).mono ?_; rintro e w4 ⟨rfl, hb4⟩)
      | fail)
    have HO4 := Z_.mk (Kd.R_below (show Kd.R (Kd.int .i64) 3 wr.drew w.heap.size (fun _ => True) _ X from Kd.R_drew HO.out) hb4)
    have HB4 := Z_.mk (ze_ HDB.out hb4)
    have HBX4 := Z_.mk (zq_ (show wr.drew.heap[b]? = _ from HBX.out) hb4)
    have HNX4 := Z_.mk (Lk.below hb4 (show Lk wr.drew w2.heap.size _ (y :: l) from HNX.out.below (zb_ (Below.refl _ _))))
    clear hx0 hx1 hx2 hy0 hy1 dx0 dx1 dx2 dy0 dy1 hb4
    go_wp2_with ((with_reducible refine gate_builtin (b := .append) (xs := #[.tmp 47, .tmp 49]) rfl ?_); at_builtin; go_loud (refine Kd.R_append (Kd.int .i64) (w0 := w) w.heap.size rfl (.tmp 47) (.tmp 49) 45 3 (.int .i64 0) 8 rfl Tryd.underlying45 HI.out rfl (by decide) (by omega) _ X (g x y) [.int .i64 (g x y)] (fun _ => True) (fun _ => False) rfl rfl ?aP (fun _ hk => hk.elim) (fun _ _ => trivial) HO4.out HB4.out HB4.out.size (by omega) ?_); (case aP => exact rfl); intro v9 wC ho9 hb9 hg9 hat9; have HO9 := Z_.mk ho9; have HB9 := Z_.mk hb9; have HNX9 := Z_.mk (Lk.grown HO4.out hg9 HNX4.out); have cx2 : wC.cell? ⟨b, 2, none⟩ = some (.pointer (some ⟨b', 0, none⟩)) := (zg_ (blk_grown HBX4.out hg9 (Kd.R_ne HO4.out HBX4.out (by decide))) 2).trans rfl; clear ho9 hb9 hg9 hat9)
    go_roundg l.length
    case measure => exact NX.out.1
    case rel => exact ⟨X ++ [g x y], y, l, ⟨rfl, NX.out.2⟩, HO9, HNX9, HB9⟩

def stepD (x y : S90) : Int := wrap64 (y.f0 - x.f0)
theorem impl_ToneSteps_good (x y : S90) (w : World) (hx : toneOk x = true) (hy : toneOk y = true) : Calls Tryd.prog 104 #[.agg #[.int .i64 x.f0, .bool x.f1], .agg #[.int .i64 y.f0, .bool y.f1]] w fun e w' => e = .returned (.tuple #[.int .i64 (stepD x y), .bool true]) ∧ Below w.heap.size w w' := by
 refine impl_ToneSteps.calls x.f0 x.f1 y.f0 y.f1 _ _ w ?_
 unfold impl_ToneSteps.f
 have h1 : impl_Tone_valid.f x.f0 x.f1 = some true := by rw [impl_Tone_valid_eq]; exact congrArg some hx
 have h2 : impl_Tone_valid.f y.f0 y.f1 = some true := by rw [impl_Tone_valid_eq]; exact congrArg some hy
 rw [h1, h2]; rfl
set_option maxHeartbeats 4000000 in
set_option maxRecDepth 100000 in
theorem impl_MelodySteps_calls (m : List S90) (A0 : Option Addr) (c0 : Nat) (w : World) (hr0 : Kd.C k90 w A0 m.length m) (hc0 : m.length ≤ c0) (hm : m.length ≤ 1000000000000) :
 Calls Tryd.prog 78 #[.slice A0 m.length c0] w fun e w' => ∃ v, e = .returned v ∧ Kd.R (Kd.int .i64) 3 w' w.heap.size (fun _ => True) v (mdiffs stepD m) ∧ Below w.heap.size w w' := by
 have HR0 := Z_.mk hr0
 have HC0 := Z_.mk hc0
 clear hr0 hc0
 go_enter Tryd.func78, Tryd.ntmps78
 go_wp2_with (go_at_call 102; refine (impl_differencesSteps_calls stepD (fun _ => True) (fun _ _ _ _ => trivial) (fun x y w hx hy _ => impl_ToneSteps_good x y w hx hy) m A0 c0 _ trivial HR0.out HC0.out hm).mono ?_; rintro e w1 ⟨v, rfl, ho, hb⟩; obtain ⟨A1, c1, rfl⟩ := Kd.R_slice ho)
 go_ret
 exact ⟨_, rfl, ho, hb⟩

def msame (a b : List S90) : Bool := melOk a && (melOk b && (decide (a.length = b.length) && ((mdiffs semD a == mdiffs semD b) && (mdiffs stepD a == mdiffs stepD b))))
theorem mdiffs_len (g : S90 → S90 → Int) (m : List S90) : (mdiffs g m).length ≤ m.length := by
 unfold mdiffs
 split
 ·
  rw [diffs_len]; omega
 ·
  exact Nat.zero_le _
set_option maxHeartbeats 8000000 in
set_option maxRecDepth 100000 in
theorem impl_MelodySame_calls (a b : List S90) (A0 : Option Addr) (c0 : Nat) (A1 : Option Addr) (c1 : Nat) (w : World) (ht : HTab w) (hr0 : Kd.C k90 w A0 a.length a) (hc0 : a.length ≤ c0) (hr1 : Kd.C k90 w A1 b.length b) (hc1 : b.length ≤ c1) (ha : a.length ≤ 1000000000000) (hb : b.length ≤ 1000000000000) :
 Calls Tryd.prog 41 #[.slice A0 a.length c0, .slice A1 b.length c1] w fun e w' => e = .returned (.bool (msame a b)) ∧ Below w.heap.size w w' := by
 obtain ⟨ka, hva⟩ := Ev.rounds (impl_MelodyValid_ev a)
 obtain ⟨kb, hvb⟩ := Ev.rounds (impl_MelodyValid_ev b)
 have HR0 := Z_.mk hr0
 have HC0 := Z_.mk hc0
 have HR1 := Z_.mk hr1
 have HC1 := Z_.mk hc1
 have HVA := Z_.mk hva
 have HVB := Z_.mk hvb
 have HT := Z_.mk ht
 clear hr0 hc0 hr1 hc1 hva hvb ht
 unfold msame
 cases h1 : melOk a
 ·
  rw [h1] at HVA
  clear h1
  go_enter Tryd.func41, Tryd.ntmps41
  go_wp2_with (go_at_call 70; with_reducible refine (impl_MelodyValid.calls ka _ _ a false w HR0.out HC0.out HVA.out).mono ?_; rintro e w1 ⟨rfl, hb1⟩)
  go_ret
  exact ⟨rfl, hb1⟩
 rw [h1] at HVA
 clear h1
 cases h2 : melOk b
 ·
  rw [h2] at HVB
  clear h2
  go_enter Tryd.func41, Tryd.ntmps41
  go_wp2_with (first
   | (go_at_call 70; with_reducible refine (impl_MelodyValid.calls ka _ _ a true w HR0.out HC0.out HVA.out).mono ?_; rintro e w1 ⟨rfl, hb1⟩; have HB1 := Z_.mk hb1; clear hb1)
   | (go_at_call 70; with_reducible refine (impl_MelodyValid.calls kb _ _ b false w1 (Kd.C_below HR1.out HB1.out) HC1.out HVB.out).mono ?_; rintro e w2 ⟨rfl, hb2⟩; have HB2 := Z_.mk (ze_ HB1.out hb2); clear hb2))
  go_ret
  exact ⟨rfl, HB2.out⟩
 rw [h2] at HVB
 clear h2
 by_cases h3 : a.length = b.length
 case neg =>
  rw [decide_eq_false h3]
  have d1 : ((a.length : Int) == (b.length : Int)) = false := by rw [beq_eq_false_iff_ne]; omega
  have d2 : (a.length == b.length) = false := by rw [beq_eq_false_iff_ne]; exact h3
  clear h3
  go_enter Tryd.func41, Tryd.ntmps41
  go_wp2_with (first
   | (go_at_call 70; with_reducible refine (impl_MelodyValid.calls ka _ _ a true w HR0.out HC0.out HVA.out).mono ?_; rintro e w1 ⟨rfl, hb1⟩; have HB1 := Z_.mk hb1; clear hb1)
   | (go_at_call 70; with_reducible refine (impl_MelodyValid.calls kb _ _ b true w1 (Kd.C_below HR1.out HB1.out) HC1.out HVB.out).mono ?_; rintro e w2 ⟨rfl, hb2⟩; have HB2 := Z_.mk (ze_ HB1.out hb2); clear hb2))
  go_ret
  exact ⟨rfl, HB2.out⟩
 rw [decide_eq_true h3]
 have d1 : ((a.length : Int) == (b.length : Int)) = true := by rw [beq_iff_eq]; omega
 have d2 : (a.length == b.length) = true := by rw [beq_iff_eq]; exact h3
 clear h3
 obtain ⟨ke, hve⟩ := Ev.rounds (impl_equalNumbers_ev (mdiffs semD a) (mdiffs semD b) (by have := mdiffs_len semD a; omega))
 have HVE := Z_.mk hve
 clear hve
 cases h4 : mdiffs semD a == mdiffs semD b
 ·
  rw [h4] at HVE
  clear h4
  go_enter Tryd.func41, Tryd.ntmps41
  go_wp2_with (first
   | (go_at_call 70; with_reducible refine (impl_MelodyValid.calls ka _ _ a true w HR0.out HC0.out HVA.out).mono ?_; rintro e w1 ⟨rfl, hb1⟩; have HB1 := Z_.mk hb1; clear hb1)
   | (go_at_call 70; with_reducible refine (impl_MelodyValid.calls kb _ _ b true w1 (Kd.C_below HR1.out HB1.out) HC1.out HVB.out).mono ?_; rintro e w2 ⟨rfl, hb2⟩; have HB2 := Z_.mk (ze_ HB1.out hb2); clear hb2)
   | (go_at_call 77; with_reducible refine (impl_MelodySemis_calls a _ _ w2 (HT.out.below HB2.out) (Kd.C_below HR0.out HB2.out) HC0.out ha).mono ?_; rintro e w3 ⟨v3, rfl, ho3, hb3⟩; obtain ⟨A3, c3, rfl⟩ := Kd.R_slice ho3; have HO3 := Z_.mk ho3; have HB3 := Z_.mk (ze_ HB2.out hb3); clear ho3 hb3)
   | (go_at_call 77; with_reducible refine (impl_MelodySemis_calls b _ _ w3 (HT.out.below HB3.out) (Kd.C_below HR1.out HB3.out) HC1.out hb).mono ?_; rintro e w4 ⟨v4, rfl, ho4, hb4⟩; obtain ⟨A4, c4, rfl⟩ := Kd.R_slice ho4; have HO34 := Z_.mk (Kd.R_below HO3.out hb4); have HO4 := Z_.mk ho4; have HB4 := Z_.mk (ze_ HB3.out hb4); clear ho4 hb4)
   | (go_at_call 76; with_reducible refine (impl_equalNumbers.calls ke _ _ _ _ _ _ false w4 (Kd.R_reads' HO34.out).2.2 (Kd.R_reads' HO34.out).2.1 (Kd.R_reads' HO4.out).2.2 (Kd.R_reads' HO4.out).2.1 HVE.out).mono ?_; rintro e w5 ⟨rfl, hb5⟩; have HB5 := Z_.mk (ze_ HB4.out hb5.below); clear hb5))
  go_ret
  exact ⟨rfl, HB5.out⟩
 rw [h4] at HVE
 clear h4
 obtain ⟨kf, hvf⟩ := Ev.rounds (impl_equalNumbers_ev (mdiffs stepD a) (mdiffs stepD b) (by have := mdiffs_len stepD a; omega))
 obtain ⟨R, hR⟩ : ∃ R, R = (mdiffs stepD a == mdiffs stepD b) := ⟨_, rfl⟩
 rw [← hR] at hvf
 rw [← hR]
 have HVF := Z_.mk hvf
 clear hvf hR
 go_enter Tryd.func41, Tryd.ntmps41
 go_wp2_with (first
  | (go_at_call 70; with_reducible refine (impl_MelodyValid.calls ka _ _ a true w HR0.out HC0.out HVA.out).mono ?_; rintro e w1 ⟨rfl, hb1⟩; have HB1 := Z_.mk hb1; clear hb1)
  | (go_at_call 70; with_reducible refine (impl_MelodyValid.calls kb _ _ b true w1 (Kd.C_below HR1.out HB1.out) HC1.out HVB.out).mono ?_; rintro e w2 ⟨rfl, hb2⟩; have HB2 := Z_.mk (ze_ HB1.out hb2); clear hb2)
  | (go_at_call 77; with_reducible refine (impl_MelodySemis_calls a _ _ w2 (HT.out.below HB2.out) (Kd.C_below HR0.out HB2.out) HC0.out ha).mono ?_; rintro e w3 ⟨v3, rfl, ho3, hb3⟩; obtain ⟨A3, c3, rfl⟩ := Kd.R_slice ho3; have HO3 := Z_.mk ho3; have HB3 := Z_.mk (ze_ HB2.out hb3); clear ho3 hb3)
  | (go_at_call 77; with_reducible refine (impl_MelodySemis_calls b _ _ w3 (HT.out.below HB3.out) (Kd.C_below HR1.out HB3.out) HC1.out hb).mono ?_; rintro e w4 ⟨v4, rfl, ho4, hb4⟩; obtain ⟨A4, c4, rfl⟩ := Kd.R_slice ho4; have HO34 := Z_.mk (Kd.R_below HO3.out hb4); have HO4 := Z_.mk ho4; have HB4 := Z_.mk (ze_ HB3.out hb4); clear ho4 hb4)
  | (go_at_call 76; with_reducible refine (impl_equalNumbers.calls ke _ _ _ _ _ _ true w4 (Kd.R_reads' HO34.out).2.2 (Kd.R_reads' HO34.out).2.1 (Kd.R_reads' HO4.out).2.2 (Kd.R_reads' HO4.out).2.1 HVE.out).mono ?_; rintro e w5 ⟨rfl, hb5⟩; have HB5 := Z_.mk (ze_ HB4.out hb5.below); clear hb5)
  | (go_at_call 78; with_reducible refine (impl_MelodySteps_calls a _ _ w5 (Kd.C_below HR0.out HB5.out) HC0.out ha).mono ?_; rintro e w6 ⟨v6, rfl, ho6, hb6⟩; obtain ⟨A6, c6, rfl⟩ := Kd.R_slice ho6; have HO6 := Z_.mk ho6; have HB6 := Z_.mk (ze_ HB5.out hb6); clear ho6 hb6)
  | (go_at_call 78; with_reducible refine (impl_MelodySteps_calls b _ _ w6 (Kd.C_below HR1.out HB6.out) HC1.out hb).mono ?_; rintro e w7 ⟨v7, rfl, ho7, hb7⟩; obtain ⟨A7, c7, rfl⟩ := Kd.R_slice ho7; have HO67 := Z_.mk (Kd.R_below HO6.out hb7); have HO7 := Z_.mk ho7; have HB7 := Z_.mk (ze_ HB6.out hb7); clear ho7 hb7)
  | (go_at_call 76; with_reducible refine (impl_equalNumbers.calls kf _ _ _ _ _ _ R w7 (Kd.R_reads' HO67.out).2.2 (Kd.R_reads' HO67.out).2.1 (Kd.R_reads' HO7.out).2.2 (Kd.R_reads' HO7.out).2.1 HVF.out).mono ?_; rintro e w8 ⟨rfl, hb8⟩; have HB8 := Z_.mk (ze_ HB7.out hb8.below); clear hb8))
 go_ret
 exact ⟨by simp, HB8.out⟩

end Go.Proofs.YtmacedbpdhkagaaDoor.Pure
namespace Go.Proofs.YtmacedbpdhkagaaDoor.Pure
set_option linter.unusedVariables false
set_option linter.unusedSimpArgs false
open Go Go.RowKit Go.Proofs.YtmacedbpdhkagaaDoor.PFnTonaryFind Go.Proofs.YtmacedbpdhkagaaDoorW.PrintWords Go.Proofs.YtmacedbpdhkagaaDoorW.PrintLast Go.Proofs.YtmacedbpdhkagaaDoorW.PrintMore

def mCells : Array Value := #[.int .i64 4, .int .i64 8, .int .i64 3, .int .i64 12, .int .i64 4, .int .i64 6, .int .i64 0, .int .i64 9, .int .i64 5, .int .i64 10, .int .i64 4, .int .i64 13, .int .i64 5, .int .i64 8, .int .i64 1, .int .i64 10, .int .i64 6, .int .i64 10, .int .i64 5, .int .i64 14, .int .i64 6, .int .i64 8, .int .i64 2, .int .i64 11, .int .i64 7, .int .i64 11, .int .i64 6, .int .i64 15, .int .i64 7, .int .i64 10, .int .i64 3, .int .i64 12]
def MTab (w : World) : Prop := ∃ t fz, w.heap[1]? = some (.cells mCells t fz)
theorem MTab.below {w w' : World} (h : MTab w) (hb : Below w.heap.size w w') : MTab w' := by
 obtain ⟨t, fz, h⟩ := h
 exact ⟨t, fz, (hb.block _ (blk_lt h)).trans h⟩
theorem MTab.cell {w : World} (h : MTab w) (i : Nat) : w.cell? ⟨1, i, none⟩ = mCells[i]? := by
 obtain ⟨t, fz, h⟩ := h
 exact cell_of_row w _ i mCells t fz h
def mRz (mode : Int) : Int × Int × Int × Int := if mOk mode = true then mRow mode else (0, 0, 0, 0)
set_option maxHeartbeats 4000000 in
set_option maxRecDepth 100000 in
theorem impl_modeAt_calls (mode : Int) (w : World) (ht : MTab w) :
 Calls Tryd.prog 97 #[.int .i64 mode] w fun e w' => e = .returned (.tuple #[.agg #[.int .i64 (mRz mode).1, .int .i64 (mRz mode).2.1, .int .i64 (mRz mode).2.2.1, .int .i64 (mRz mode).2.2.2], .bool (mOk mode)]) ∧ Below w.heap.size w w' := by
 have hu := Tryd.underlying115
 by_cases h1 : mode < 1
 ·
  have d1 : decide (mode < 1) = true := decide_eq_true h1
  have e : mOk mode = false := decide_eq_false (by omega)
  have ez : mRz mode = (0, 0, 0, 0) := by unfold mRz; rw [e]; rfl
  rw [e, ez]
  clear h1 e ez
  go_enter Tryd.func97, Tryd.ntmps97
  go_wp2
  (try simp only [Exit.inBlock, Exit.then])
  refine bodyPost_ret (results_ct rfl _ _ w.heap.size 115 #[.int .i64 0, .int .i64 0, .int .i64 0, .int .i64 0] (0, 0) _ rfl (blk_new w _) Tryd.underlying115 rfl (by kernel_rfl)) rfl ?_
  exact ⟨rfl, zc_ (Below.refl _ _) _⟩
 have d1 : decide (mode < 1) = false := decide_eq_false h1
 by_cases h2 : mode > 8
 ·
  have d2 : decide (8 < mode) = true := decide_eq_true h2
  have e : mOk mode = false := decide_eq_false (by omega)
  have ez : mRz mode = (0, 0, 0, 0) := by unfold mRz; rw [e]; rfl
  rw [e, ez]
  clear h1 h2 e ez
  go_enter Tryd.func97, Tryd.ntmps97
  go_wp2
  (try simp only [Exit.inBlock, Exit.then])
  refine bodyPost_ret (results_ct rfl _ _ w.heap.size 115 #[.int .i64 0, .int .i64 0, .int .i64 0, .int .i64 0] (0, 0) _ rfl (blk_new w _) Tryd.underlying115 rfl (by kernel_rfl)) rfl ?_
  exact ⟨rfl, zc_ (Below.refl _ _) _⟩
 have e : mOk mode = true := decide_eq_true (by omega)
 have hc := mOk_cases e
 have ez : mRz mode = mRow mode := by unfold mRz; rw [e]; rfl
 rw [e, ez]
 clear h1 h2 d1 e ez
 have hn := fun (i : Nat) (v : Value) (h : w.cell? ⟨1, i, none⟩ = some v) => zl_ (zc_ (Below.refl w.heap.size w) (.cells #[.int .i64 0, .int .i64 0, .int .i64 0, .int .i64 0] 115 (0, 0))) h
 rcases hc with rfl | rfl | rfl | rfl | rfl | rfl | rfl | rfl
 ·
  have c0 := hn 0 (.int .i64 4) ((ht.cell 0).trans rfl)
  have c1 := hn 1 (.int .i64 8) ((ht.cell 1).trans rfl)
  have c2 := hn 2 (.int .i64 3) ((ht.cell 2).trans rfl)
  have c3 := hn 3 (.int .i64 12) ((ht.cell 3).trans rfl)
  clear hn
  go_enter Tryd.func97, Tryd.ntmps97
  go_wp2
  (try simp only [Exit.inBlock, Exit.then])
  refine bodyPost_ret (results_ct rfl _ _ w.heap.size 115 #[.int .i64 4, .int .i64 8, .int .i64 3, .int .i64 12] (0, 0) _ rfl (blk_new w _) Tryd.underlying115 rfl (by kernel_rfl)) rfl ?_
  exact ⟨rfl, zc_ (Below.refl _ _) _⟩
 ·
  have c0 := hn 4 (.int .i64 4) ((ht.cell 4).trans rfl)
  have c1 := hn 5 (.int .i64 6) ((ht.cell 5).trans rfl)
  have c2 := hn 6 (.int .i64 0) ((ht.cell 6).trans rfl)
  have c3 := hn 7 (.int .i64 9) ((ht.cell 7).trans rfl)
  clear hn
  go_enter Tryd.func97, Tryd.ntmps97
  go_wp2
  (try simp only [Exit.inBlock, Exit.then])
  refine bodyPost_ret (results_ct rfl _ _ w.heap.size 115 #[.int .i64 4, .int .i64 6, .int .i64 0, .int .i64 9] (0, 0) _ rfl (blk_new w _) Tryd.underlying115 rfl (by kernel_rfl)) rfl ?_
  exact ⟨rfl, zc_ (Below.refl _ _) _⟩
 ·
  have c0 := hn 8 (.int .i64 5) ((ht.cell 8).trans rfl)
  have c1 := hn 9 (.int .i64 10) ((ht.cell 9).trans rfl)
  have c2 := hn 10 (.int .i64 4) ((ht.cell 10).trans rfl)
  have c3 := hn 11 (.int .i64 13) ((ht.cell 11).trans rfl)
  clear hn
  go_enter Tryd.func97, Tryd.ntmps97
  go_wp2
  (try simp only [Exit.inBlock, Exit.then])
  refine bodyPost_ret (results_ct rfl _ _ w.heap.size 115 #[.int .i64 5, .int .i64 10, .int .i64 4, .int .i64 13] (0, 0) _ rfl (blk_new w _) Tryd.underlying115 rfl (by kernel_rfl)) rfl ?_
  exact ⟨rfl, zc_ (Below.refl _ _) _⟩
 ·
  have c0 := hn 12 (.int .i64 5) ((ht.cell 12).trans rfl)
  have c1 := hn 13 (.int .i64 8) ((ht.cell 13).trans rfl)
  have c2 := hn 14 (.int .i64 1) ((ht.cell 14).trans rfl)
  have c3 := hn 15 (.int .i64 10) ((ht.cell 15).trans rfl)
  clear hn
  go_enter Tryd.func97, Tryd.ntmps97
  go_wp2
  (try simp only [Exit.inBlock, Exit.then])
  refine bodyPost_ret (results_ct rfl _ _ w.heap.size 115 #[.int .i64 5, .int .i64 8, .int .i64 1, .int .i64 10] (0, 0) _ rfl (blk_new w _) Tryd.underlying115 rfl (by kernel_rfl)) rfl ?_
  exact ⟨rfl, zc_ (Below.refl _ _) _⟩
 ·
  have c0 := hn 16 (.int .i64 6) ((ht.cell 16).trans rfl)
  have c1 := hn 17 (.int .i64 10) ((ht.cell 17).trans rfl)
  have c2 := hn 18 (.int .i64 5) ((ht.cell 18).trans rfl)
  have c3 := hn 19 (.int .i64 14) ((ht.cell 19).trans rfl)
  clear hn
  go_enter Tryd.func97, Tryd.ntmps97
  go_wp2
  (try simp only [Exit.inBlock, Exit.then])
  refine bodyPost_ret (results_ct rfl _ _ w.heap.size 115 #[.int .i64 6, .int .i64 10, .int .i64 5, .int .i64 14] (0, 0) _ rfl (blk_new w _) Tryd.underlying115 rfl (by kernel_rfl)) rfl ?_
  exact ⟨rfl, zc_ (Below.refl _ _) _⟩
 ·
  have c0 := hn 20 (.int .i64 6) ((ht.cell 20).trans rfl)
  have c1 := hn 21 (.int .i64 8) ((ht.cell 21).trans rfl)
  have c2 := hn 22 (.int .i64 2) ((ht.cell 22).trans rfl)
  have c3 := hn 23 (.int .i64 11) ((ht.cell 23).trans rfl)
  clear hn
  go_enter Tryd.func97, Tryd.ntmps97
  go_wp2
  (try simp only [Exit.inBlock, Exit.then])
  refine bodyPost_ret (results_ct rfl _ _ w.heap.size 115 #[.int .i64 6, .int .i64 8, .int .i64 2, .int .i64 11] (0, 0) _ rfl (blk_new w _) Tryd.underlying115 rfl (by kernel_rfl)) rfl ?_
  exact ⟨rfl, zc_ (Below.refl _ _) _⟩
 ·
  have c0 := hn 24 (.int .i64 7) ((ht.cell 24).trans rfl)
  have c1 := hn 25 (.int .i64 11) ((ht.cell 25).trans rfl)
  have c2 := hn 26 (.int .i64 6) ((ht.cell 26).trans rfl)
  have c3 := hn 27 (.int .i64 15) ((ht.cell 27).trans rfl)
  clear hn
  go_enter Tryd.func97, Tryd.ntmps97
  go_wp2
  (try simp only [Exit.inBlock, Exit.then])
  refine bodyPost_ret (results_ct rfl _ _ w.heap.size 115 #[.int .i64 7, .int .i64 11, .int .i64 6, .int .i64 15] (0, 0) _ rfl (blk_new w _) Tryd.underlying115 rfl (by kernel_rfl)) rfl ?_
  exact ⟨rfl, zc_ (Below.refl _ _) _⟩
 ·
  have c0 := hn 28 (.int .i64 7) ((ht.cell 28).trans rfl)
  have c1 := hn 29 (.int .i64 10) ((ht.cell 29).trans rfl)
  have c2 := hn 30 (.int .i64 3) ((ht.cell 30).trans rfl)
  have c3 := hn 31 (.int .i64 12) ((ht.cell 31).trans rfl)
  clear hn
  go_enter Tryd.func97, Tryd.ntmps97
  go_wp2
  (try simp only [Exit.inBlock, Exit.then])
  refine bodyPost_ret (results_ct rfl _ _ w.heap.size 115 #[.int .i64 7, .int .i64 10, .int .i64 3, .int .i64 12] (0, 0) _ rfl (blk_new w _) Tryd.underlying115 rfl (by kernel_rfl)) rfl ?_
  exact ⟨rfl, zc_ (Below.refl _ _) _⟩

def DTab (w : World) : Prop := MTab w ∧ HTab w
theorem DTab.below {w w' : World} (h : DTab w) (hb : Below w.heap.size w w') : DTab w' := ⟨h.1.below hb, h.2.below hb⟩
theorem DTab.h {w : World} (h : DTab w) : HTab w := And.right h
theorem DTab.m {w : World} (h : DTab w) : MTab w := And.left h

end Go.Proofs.YtmacedbpdhkagaaDoor.Pure
namespace Go.Proofs.YtmacedbpdhkagaaDoor.Pure
set_option linter.unusedVariables false
set_option linter.unusedSimpArgs false
open Go Go.RowKit Go.Proofs.YtmacedbpdhkagaaDoor.PFnTonaryFind Go.Proofs.YtmacedbpdhkagaaDoorW.PrintWords Go.Proofs.YtmacedbpdhkagaaDoorW.PrintLast Go.Proofs.YtmacedbpdhkagaaDoorW.PrintMore

theorem ones_of {α : Type} {d : Kd α} {W : World} {base : Nat} {okp : Nat → Prop} {ys : List α} {news : List Value} (hs0 : 0 < d.sz) (hnM : Reps (d.M W base okp) d.sz ys news) : ∀ u ∈ news, u.oneCell' = true := by
 intro u hu
 obtain ⟨q, hq, rfl⟩ := List.mem_iff_getElem.1 hu
 have hql : q / d.sz < ys.length := by
  rw [Nat.div_lt_iff_lt_mul hs0]
  have := hnM.1
  omega
 have hc := hnM.2 (q / d.sz) _ (List.getElem?_eq_getElem hql)
 refine d.K_one (d.K_of_M hc) _ ?_
 rw [List.mem_iff_getElem?]
 exact ⟨q % d.sz, by rw [List.getElem?_take, if_pos (Nat.mod_lt _ hs0), List.getElem?_drop, Nat.mul_comm, Nat.div_add_mod, List.getElem?_eq_getElem hq]⟩
theorem R_copy_all {P : Program} {ops : Array Oper} {o : Oper} {rest : List Oper} {a : Act} {Q : Exit → Act → World → Prop} {α : Type} (d : Kd α) {w0 W : World} (base : Nat) (hgd : o.guard = none) (s x : Operand) (t e : TypeId)
 (ho : o.op = .call { callee := .builtin .copy, args := #[s, x], argTypes := #[t, t] }) (ht : P.underlying t = some (.slice e)) (hsz : (P.info? e).map (·.size) = some d.sz) (hs0 : 0 < d.sz)
 (v : Value) (zs xs : List α) (hl : zs.length = xs.length) (A : Option Addr) (c : Nat) (hv : a.eval s = v) (hx : a.eval x = .slice A xs.length c)
 (HO : d.R e W base (fun _ => True) v zs) (HR : d.C W A xs.length xs) (hKM : ∀ p cs, d.K W p cs → d.M W base (fun _ => False) p cs) (HB : Below base w0 W)
 (h : ∀ w1, d.R e w1 base (fun _ => True) v xs → Below base w0 w1 → wpList P ops Q rest (a.put o.dst (goInt xs.length)) w1) : wpList P ops Q (o :: rest) a W := by
 obtain ⟨i, hi, hisz⟩ := Option.map_eq_some_iff.1 hsz
 have hrun : ∃ w1, (Builtin.copy_ #[t, t] o.type #[v, .slice A xs.length c]).run P W = .ok (goInt xs.length) w1 ∧ d.R e w1 base (fun _ => True) v xs ∧ Below base w0 w1 := by
  obtain ⟨hok, inner, hown, hr⟩ := HO
  by_cases h0 : xs.length = 0
  ·
   obtain rfl : xs = [] := List.eq_nil_of_length_eq_zero h0
   obtain rfl : zs = [] := List.eq_nil_of_length_eq_zero (by simpa using hl)
   have hl0 : ∀ (y : Addr), (loadCells y 0).run P W = .ok #[] W := fun y => by simpa using run_loadCells_list (P := P) W y [] (by simp)
   refine ⟨W, ?_, ⟨hok, inner, hown, hr⟩, HB⟩
   rcases hown.2 with ⟨rfl, _⟩ | ⟨g, cap, cur, rfl, _⟩ <;> cases A <;> simp [Builtin.copy_, run_underlying ht, Builtin.lenOf, Builtin.firstCells, sizeOf, typeInfo, hi, storeCells, hl0]
  ·
   obtain ⟨ad, rfl, hcc⟩ := HR.2.2 (by omega)
   obtain ⟨news, hnr, hnc⟩ := ReadsRow.inner_ HR
   have hnM : Reps (d.M W base (fun _ => False)) d.sz xs news := hnr.imp_ (fun p c hp => hKM p c hp)
   have hone := ones_of hs0 hnM
   rcases hown.2 with ⟨rfl, hz⟩ | ⟨g, cap, cur, rfl, hg, hh, hncap, hcm, hcs, htk⟩
   ·
    omega
   ·
    have hfit : news.length ≤ cur.size := by
     rw [hnM.1, hcs, ← hl]
     exact Nat.mul_le_mul_right _ hncap
    have hst := run_storeCells_at P g 0 e news 0 cur W hh (by omega) hone
    have hld := run_loadCells_list (P := P) W ad news hnc
    have hnl : news.length = xs.length * d.sz := hnM.1
    refine ⟨W.setRow g (cur.toList.take 0 ++ news ++ cur.toList.drop (0 + 0 + news.length)).toArray, ?_, ⟨fun _ _ => trivial, news, ?_, ?_⟩, below_setRow HB hg _⟩
    ·
     rw [hnl] at hld
     simp [Builtin.copy_, run_underlying ht, Builtin.lenOf, Builtin.firstCells, sizeOf, typeInfo, hi, hisz, hl, hld, hst]
    ·
     refine ⟨hnl, .inr ⟨g, cap, _, by rw [hl], hg, setRow_heap W g cur _ e _ hh, by omega, hcm, ?_, ?_⟩⟩
     ·
      simp only [List.take_zero, List.nil_append, List.size_toArray, List.length_append, List.length_drop, Array.length_toList]
      omega
     ·
      simp only [List.take_zero, List.nil_append]
      rw [← hnl, List.take_append_of_le_length (Nat.le_refl _), List.take_length]
    ·
     exact hnM.imp_ (fun p c hp => d.M_mono (fun k hk => hk.elim) (d.M_move (fun k hk => hk.elim) hp))
 obtain ⟨w1, hr1, h1, hb1⟩ := hrun
 refine wpList_plain hgd fun K hK => ?_
 unfold Oper.wp execOp
 simp only [ho, resolve, invoke, builtin, Sem.run_bind, Sem.run_pure, Result.andThen_ok, List.map_toArray, List.map_cons, List.map_nil, hv, hx, hr1]
 exact hK _ _ (h w1 h1 hb1)

set_option maxHeartbeats 4000000 in
set_option maxRecDepth 100000 in
theorem impl_copiedTones_calls (m : List S90) (A0 : Option Addr) (c0 : Nat) (w : World) (hr0 : Kd.C k90 w A0 m.length m) (hc0 : m.length ≤ c0) (hm : m.length ≤ 1000000000000) :
 Calls Tryd.prog 88 #[.slice A0 m.length c0] w fun e w' => ∃ v, e = .returned v ∧ Kd.R k90 90 w' w.heap.size (fun _ => True) v m ∧ Below w.heap.size w w' := by
 have HR0 := Z_.mk hr0
 have HC0 := Z_.mk hc0
 clear hr0 hc0
 go_enter Tryd.func88, Tryd.ntmps88
 go_wp2_with (first
  | ((with_reducible refine zr_ (N := 6) rfl ?_); refine Kd.R_make k90 _ 90 rfl (N := 6) rfl 36 _ _ rfl (m.length : Int) rfl rfl Tryd.underlying36 (.agg #[(.int .i64 0), (.bool false)]) 16 info90 rfl (by decide) (by omega) z90 (ok := fun _ => True) (okp := fun _ => True) (k90_mkM _ _ _ z90) (fun _ hk => hk) trivial (by omega) (by omega) (Below.refl _ _) (Nat.le_refl _) ?_; intro v1 w1 ho1 hb1 hg1 _)
  | ((with_reducible refine gate_builtin (b := .copy) (xs := #[.tmp 7, .tmp 8]) rfl ?_); go_loud (refine R_copy_all k90 w.heap.size rfl (.tmp 7) (.tmp 8) 36 90 rfl Tryd.underlying36 (by have h := congrArg (Option.map (fun x => x.2.1)) info90; rw [Option.map_map] at h; exact h) (by decide) v1 (List.replicate (m.length : Int).toNat z90) m (by simp) A0 c0 rfl rfl ho1 (Kd.C_below HR0.out hb1) (fun p c h => by rw [k90_open h]; exact k90_mkM _ _ _ p) hb1 ?_); intro w2 ho2 hb2))
 go_ret
 exact ⟨_, rfl, ho2, hb2⟩

end Go.Proofs.YtmacedbpdhkagaaDoor.Pure
namespace Go.Proofs.YtmacedbpdhkagaaDoor.PFnTonaryFind
set_option linter.unusedVariables false
set_option linter.unusedSimpArgs false
open Go Go.RowKit Go.Proofs.YtmacedbpdhkagaaDoor.Pure Go.Proofs.YtmacedbpdhkagaaDoorW.PrintWords Go.Proofs.YtmacedbpdhkagaaDoorW.PrintLast Go.Proofs.YtmacedbpdhkagaaDoorW.PrintMore
def impl_modeAt.f (a0 : Int) : Option (Int × Int × Int × Int × Bool) := some ((mRz a0).1, (mRz a0).2.1, (mRz a0).2.2.1, (mRz a0).2.2.2, mOk a0)
theorem impl_modeAt.calls (a0 : Int) (r1 : Int) (r2 : Int) (r3 : Int) (r4 : Int) (r5 : Bool) (w : World) (ht : MTab w) (h : impl_modeAt.f a0 = some (r1, r2, r3, r4, r5)) :
 Calls Tryd.prog 97 #[.int .i64 a0] w fun e w' => e = .returned (.tuple #[.agg #[.int .i64 r1, .int .i64 r2, .int .i64 r3, .int .i64 r4], .bool r5]) ∧ Below w.heap.size w w' := by
 cases h; exact impl_modeAt_calls a0 w ht

end Go.Proofs.YtmacedbpdhkagaaDoor.PFnTonaryFind
namespace Go.Proofs.YtmacedbpdhkagaaDoor.PFnTonaryFind
open Go.RowKit Go.Proofs.YtmacedbpdhkagaaDoorW.PrintWords Go.Proofs.YtmacedbpdhkagaaDoorW.PrintLast Go.Proofs.YtmacedbpdhkagaaDoorW.PrintMore
attribute [local go_sem] max2_int min2_int max_two min_two max_three min_three max_four min_four   -- for this text's walks alone
set_option linter.unusedVariables false
set_option linter.unusedSimpArgs false

def impl_tonesValid.f (k : Nat) (l0 : List (S90)) (a1 : Int) (a2 : Int) : Option (Bool) := if (l0.length : Int) ≥ a1 then (if (l0.length : Int) ≤ a2 then ((impl_MelodyValid.f k l0).bind fun t194 => (some t194)) else (some false)) else (some false)
set_option maxHeartbeats 8000000 in
set_option maxRecDepth 100000 in
theorem impl_tonesValid.calls (k : Nat) (A0 : Option Addr) (c0 : Nat) (l0 : List (S90)) (a1 : Int) (a2 : Int) (r : Bool) (w : World) (hr0 : Kd.C k90 w A0 l0.length l0) (hc0 : l0.length ≤ c0) (h : impl_tonesValid.f k l0 a1 a2 = some r) :
 Calls Tryd.prog 98 #[.slice A0 l0.length c0, .int .i64 a1, .int .i64 a2] w fun e w' => e = .returned (.bool r) ∧ Below w.heap.size w w' := by
 have HR0 := Z_.mk hr0; have HC0 := Z_.mk hc0; clear hr0 hc0; have HB := Z_.mk (Below.refl w.heap.size w); have H : (if (l0.length : Int) ≥ a1 then (if (l0.length : Int) ≤ a2 then ((impl_MelodyValid.f k l0).bind fun t194 => (some t194)) else (some false)) else (some false)) = some r := h; clear h; by_cases c4 : (l0.length : Int) ≥ a1
 ·
  rw [if_pos c4] at H; have c4b0 : decide (a1 ≤ (l0.length : Int)) = true := decide_eq_true c4; clear c4; by_cases c5 : (l0.length : Int) ≤ a2
  ·
   rw [if_pos c5] at H; have c5b0 : decide ((l0.length : Int) ≤ a2) = true := decide_eq_true c5; clear c5; replace H := Option.bind_eq_some_iff.mp H; obtain ⟨t194, A60, H⟩ := H; replace H : (some t194) = some r := H; have A6 := Z_.mk A60; clear A60; obtain rfl := Option.some.inj H; go_enter Tryd.func98, Tryd.ntmps98
   go_wp2_with (first | (go_at_call 70; (with_reducible refine (impl_MelodyValid.calls k _ _ l0 t194 _ ?side1 ?side2 A6.out).mono ?_); (case side1 => repeat (first | exact HR0.out | (with_reducible refine Kd.C_alloc ?_ _) | (with_reducible refine Kd.C_drewN ?_ _) | (with_reducible refine Kd.C_drew ?_))); (case side2 => exact HC0.out); rintro e w7 ⟨rfl, hb⟩; have n0_ := Z_.mk (ze_ (by repeat (first | exact HB.out | apply zc_ | apply za_ | apply zb_)) hb); clear HB; have HB := n0_; clear n0_))
   go_ret
   exact ⟨by first | rfl | (simp [zn_, zm_] <;> rfl) | (simp [*, zn_, zm_] <;> rfl), by repeat (first | exact HB.out | apply zc_ | apply za_ | apply zb_)⟩
  ·
   rw [if_neg c5] at H; have c5b0 : decide ((l0.length : Int) ≤ a2) = false := decide_eq_false c5; clear c5; obtain rfl := Option.some.inj H; go_enter Tryd.func98, Tryd.ntmps98
   go_wp2; go_ret
   exact ⟨by first | rfl | (simp [zn_, zm_] <;> rfl) | (simp [*, zn_, zm_] <;> rfl), by repeat (first | exact HB.out | apply zc_ | apply za_ | apply zb_)⟩
 ·
  rw [if_neg c4] at H; have c4b0 : decide (a1 ≤ (l0.length : Int)) = false := decide_eq_false c4; clear c4; obtain rfl := Option.some.inj H; go_enter Tryd.func98, Tryd.ntmps98
  go_wp2; go_ret
  exact ⟨by first | rfl | (simp [zn_, zm_] <;> rfl) | (simp [*, zn_, zm_] <;> rfl), by repeat (first | exact HB.out | apply zc_ | apply za_ | apply zb_)⟩

end Go.Proofs.YtmacedbpdhkagaaDoor.PFnTonaryFind
namespace Go.Proofs.YtmacedbpdhkagaaDoor.PFnTonaryFind
open Go.RowKit Go.Proofs.YtmacedbpdhkagaaDoorW.PrintWords Go.Proofs.YtmacedbpdhkagaaDoorW.PrintLast Go.Proofs.YtmacedbpdhkagaaDoorW.PrintMore Go.Proofs.YtmacedbpdhkagaaDoor.Pure
attribute [local go_sem] max2_int min2_int max_two min_two max_three min_three max_four min_four   -- for this text's walks alone
set_option linter.unusedVariables false
set_option linter.unusedSimpArgs false

mutual
def impl_Entry_valid.j0 : Nat → Bool → ByteArray → Int → List (S90) → Option (Bool)
 | 0, _, _, _, _ => none
 | k + 1, x24, x196000, x196001, x196002 => if x24 = true then (some false) else (impl_Entry_valid.l0 k (x196000.size : Int) 0 x196000 x196001 x196002)
def impl_Entry_valid.l0 : Nat → Int → Int → ByteArray → Int → List (S90) → Option (Bool)
 | 0, _, _, _, _, _ => none
 | k + 1, x27, x28, x196000, x196001, x196002 => if x28 < x27 then (if 0 ≤ x28 then (if x28 < (x196000.size : Int) then (if (bt x196000 x28) < 97 then (some false) else (if (bt x196000 x28) > 122 then (some false) else (impl_Entry_valid.l0 k x27 (wrap64 (x28 + 1)) x196000 x196001 x196002))) else (none)) else (none)) else ((impl_tonesValid.f k x196002 1 8).bind fun t202 => (some t202))
end
def impl_Entry_valid.f (k : Nat) (a0_0 : ByteArray) (a0_1 : Int) (l0_2 : List (S90)) : Option (Bool) := (impl_modeAt.f a0_1).bind fun bt196 => (if bt196.2.2.2.2 = true then (if a0_0.toList = ([] : List UInt8) then (impl_Entry_valid.j0 k true a0_0 a0_1 l0_2) else (impl_Entry_valid.j0 k (decide ((a0_0.size : Int) > 10)) a0_0 a0_1 l0_2)) else (impl_Entry_valid.j0 k true a0_0 a0_1 l0_2))
set_option maxHeartbeats 8000000 in
set_option maxRecDepth 100000 in
theorem impl_Entry_valid.calls (k : Nat) (a0_0 : ByteArray) (a0_1 : Int) (A0_2 : Option Addr) (c0_2 : Nat) (l0_2 : List (S90)) (r : Bool) (w : World) (ht : MTab w) (hr0_2 : Kd.C k90 w A0_2 l0_2.length l0_2) (hc0_2 : l0_2.length ≤ c0_2) (h : impl_Entry_valid.f k a0_0 a0_1 l0_2 = some r) :
 Calls Tryd.prog 73 #[.agg #[.string a0_0, .int .i64 a0_1, .slice A0_2 l0_2.length c0_2]] w fun e w' => e = .returned (.bool r) ∧ Below w.heap.size w w' := by
 have HT := Z_.mk ht; clear ht; have hu38 := Tryd.underlying38; have hu115 := Tryd.underlying115; have HR0_2 := Z_.mk hr0_2; have HC0_2 := Z_.mk hc0_2; clear hr0_2 hc0_2; have HB := Z_.mk (Below.refl w.heap.size w); have H : ((impl_modeAt.f a0_1).bind fun bt196 => (if bt196.2.2.2.2 = true then (if a0_0.toList = ([] : List UInt8) then (impl_Entry_valid.j0 k true a0_0 a0_1 l0_2) else (impl_Entry_valid.j0 k (decide ((a0_0.size : Int) > 10)) a0_0 a0_1 l0_2)) else (impl_Entry_valid.j0 k true a0_0 a0_1 l0_2))) = some r := h; clear h; replace H := Option.bind_eq_some_iff.mp H; obtain ⟨⟨t196, t197, t198, t199, t200⟩, A20, H⟩ := H; replace H : (if t200 = true then (if a0_0.toList = ([] : List UInt8) then (impl_Entry_valid.j0 k true a0_0 a0_1 l0_2) else (impl_Entry_valid.j0 k (decide ((a0_0.size : Int) > 10)) a0_0 a0_1 l0_2)) else (impl_Entry_valid.j0 k true a0_0 a0_1 l0_2)) = some r := H; have A2 := Z_.mk A20; clear A20; have HC3 := Z_.mk H; clear H; go_enter Tryd.func73, Tryd.ntmps73
 go_upto_region 2 with (first | ((with_reducible refine zr_ (N := 1) rfl ?_); (try (refine gate_guard (by rfl) ?_; dsimp only)); refine box_event ?hg (N := 1) ?hd (cs := #[.string a0_0, .int .i64 a0_1, .slice A0_2 l0_2.length c0_2]) (t := 38) ?hr ?_; (case hd => rfl); (case hg => rfl); (case hr => first | (go_simp; done) | (go_simp; rfl)); intro gb195 hg w4 hbox hb; have n0_ := Z_.mk (ze_ (by repeat (first | exact HB.out | apply zc_ | apply za_ | apply zb_)) hb); have n1_ := Z_.mk (hbox); have n2_ := Z_.mk ((by rw [hg]; exact (zj_ (by repeat (first | exact HB.out | apply zc_ | apply za_ | apply zb_))) : w.heap.size ≤ gb195)); have n3_ := Z_.mk ((by rw [hg]; exact (zj_ (by repeat (first | exact HB.out | apply zc_ | apply za_ | apply zb_))) : w.heap.size ≤ gb195)); clear HB; have HB := n0_; have BK195 := n1_; have GW195 := n2_; have GE195 := n3_; clear n0_ n1_ n2_ n3_; clear hb hbox hg; have hcz5_0 : w4.cell? ⟨gb195, 0, none⟩ = some (.string a0_0) := (zg_ BK195.out 0).trans rfl; have hcz5_1 : w4.cell? ⟨gb195, 1, none⟩ = some (.int .i64 a0_1) := (zg_ BK195.out 1).trans rfl; have hcz5_2 : w4.cell? ⟨gb195, 2, none⟩ = some (.slice A0_2 l0_2.length c0_2) := (zg_ BK195.out 2).trans rfl; have hfz5_0 := zi_ BK195.out 0; have hfz5_1 := zi_ BK195.out 1; have hfz5_2 := zi_ BK195.out 2) | ((with_reducible refine zp_ (f := 97) rfl ?_); refine goesL_ (some 9) rfl rfl Tryd.func97 (by kernel_rfl) rfl #[.int .i64 a0_1] rfl (by (try simp only [List.map_toArray, List.map_cons, List.map_nil]); first | done | rfl | (simp only [List.length_drop, List.length_take]; rfl)) ?_; (with_reducible refine (impl_modeAt.calls a0_1 t196 t197 t198 t199 t200 _ A2.out (ht := HT.out.below (by repeat (first | exact HB.out | apply zc_ | apply za_ | apply zb_ | refine zd_ ?_ GE195.out)))).mono ?_); rintro e w6 ⟨rfl, hb⟩; refine ⟨_, rfl, ?_⟩; have n0_ := Z_.mk (zq_ (g := gb195) (o := .cells #[.string a0_0, .int .i64 a0_1, .slice A0_2 l0_2.length c0_2] 38 (0, 0)) (by (with_reducible repeat (first | refine zf_ ?_ _ | refine zh_ ?_ | refine blk_alloc ?_ _)); exact BK195.out) hb); have n1_ := Z_.mk (ze_ (by repeat (first | exact HB.out | apply zc_ | apply za_ | apply zb_ | refine zd_ ?_ GE195.out)) hb); clear BK195; clear HB; have BK195 := n0_; have HB := n1_; clear n0_ n1_) | ((with_reducible refine zr_ (N := 3) rfl ?_); (try (refine gate_guard (by rfl) ?_; dsimp only)); refine box_event ?hg (N := 3) ?hd (cs := #[.int .i64 0, .int .i64 0, .int .i64 0, .int .i64 0]) (t := 115) ?hr ?_; (case hd => rfl); (case hg => rfl); (case hr => first | (go_simp; done) | (go_simp; rfl)); intro gb201 hg w7 hbox hb; have n0_ := Z_.mk (zq_ (g := gb195) (o := .cells #[.string a0_0, .int .i64 a0_1, .slice A0_2 l0_2.length c0_2] 38 (0, 0)) (by (with_reducible repeat (first | refine zf_ ?_ _ | refine zh_ ?_ | refine blk_alloc ?_ _)); exact BK195.out) hb); have n1_ := Z_.mk (ze_ (by repeat (first | exact HB.out | apply zc_ | apply za_ | apply zb_ | refine zd_ ?_ GE195.out)) hb); have n2_ := Z_.mk (hbox); have n3_ := Z_.mk ((by rw [hg]; exact (zj_ (by repeat (first | exact HB.out | apply zc_ | apply za_ | apply zb_ | refine zd_ ?_ GE195.out))) : w.heap.size ≤ gb201)); have n4_ := Z_.mk ((by rw [hg]; exact (zj_ (by repeat (first | exact HB.out | apply zc_ | apply za_ | apply zb_ | refine zd_ ?_ GE195.out))) : w.heap.size ≤ gb201)); have n5_ := Z_.mk ((by rw [hg]; exact Nat.ne_of_lt (blk_lt (g := gb195) (o := .cells #[.string a0_0, .int .i64 a0_1, .slice A0_2 l0_2.length c0_2] 38 (0, 0)) (by (with_reducible repeat (first | refine zf_ ?_ _ | refine zh_ ?_ | refine blk_alloc ?_ _)); exact BK195.out)) : gb195 ≠ gb201)); have n6_ := Z_.mk ((by rw [hg]; exact Nat.ne_of_gt (blk_lt (g := gb195) (o := .cells #[.string a0_0, .int .i64 a0_1, .slice A0_2 l0_2.length c0_2] 38 (0, 0)) (by (with_reducible repeat (first | refine zf_ ?_ _ | refine zh_ ?_ | refine blk_alloc ?_ _)); exact BK195.out)) : gb201 ≠ gb195)); clear BK195; clear HB; have BK195 := n0_; have HB := n1_; have BK201 := n2_; have GW201 := n3_; have GE201 := n4_; have NB195_201 := n5_; have NB201_195 := n6_; clear n0_ n1_ n2_ n3_ n4_ n5_ n6_; clear hb hbox hg; have hnb8 := NB201_195.out; have hnc8 := NB195_201.out; have hcz9_0 : w7.cell? ⟨gb201, 0, none⟩ = some (.int .i64 0) := (zg_ BK201.out 0).trans rfl; have hcz9_1 : w7.cell? ⟨gb201, 1, none⟩ = some (.int .i64 0) := (zg_ BK201.out 1).trans rfl; have hcz9_2 : w7.cell? ⟨gb201, 2, none⟩ = some (.int .i64 0) := (zg_ BK201.out 2).trans rfl; have hcz9_3 : w7.cell? ⟨gb201, 3, none⟩ = some (.int .i64 0) := (zg_ BK201.out 3).trans rfl; have hfz9_0 := zi_ BK201.out 0; have hfz9_1 := zi_ BK201.out 1; have hfz9_2 := zi_ BK201.out 2; have hfz9_3 := zi_ BK201.out 3))
 (try simp only [Act.put, y1_, y2_, y3_])
 go_cut [24] (fun v24 wc => ∃ (kq : Nat) (x24_2 : Bool), v24 = .bool x24_2 ∧ Z_ (impl_Entry_valid.j0 kq x24_2 a0_0 a0_1 l0_2 = some r) ∧ Z_ (kq ≤ k) ∧ Z_ (wc.heap[gb195]? = some (.cells #[.string a0_0, .int .i64 a0_1, (.slice A0_2 l0_2.length c0_2)] 38 (0, 0))) ∧ Z_ (wc.heap[gb201]? = some (.cells #[.int .i64 t196, .int .i64 t197, .int .i64 t198, .int .i64 t199] 115 (0, 0))) ∧ Z_ (Below w.heap.size w wc))
 case first =>
  have H := HC3.out; clear HC3; by_cases c10 : t200 = true
  ·
   subst c10; have H1 : (if a0_0.toList = ([] : List UInt8) then (impl_Entry_valid.j0 k true a0_0 a0_1 l0_2) else (impl_Entry_valid.j0 k (decide ((a0_0.size : Int) > 10)) a0_0 a0_1 l0_2)) = some r := by rw [if_pos rfl] at H; exact H
   clear H; have H := H1; clear H1; by_cases c11 : a0_0.toList = ([] : List UInt8)
   ·
    rw [if_pos c11] at H; have c11b0 : (a0_0.toList == ([] : List UInt8)) = true := beq_iff_eq.mpr c11; have c11b1 : (a0_0.toList != ([] : List UInt8)) = false := bne_eq_false_iff_eq.mpr c11; clear c11; (first | rw [c11b0] | (simp only [i64_w, i32_w]; rw [c11b0]) | skip)
    have H' := Z_.mk H; clear H; have hnb12 := NB195_201.out; have hnc12 := NB201_195.out; have hcz13_0 : w7.cell? ⟨gb195, 0, none⟩ = some (.string a0_0) := (zg_ BK195.out 0).trans rfl; have hcz13_1 : w7.cell? ⟨gb195, 1, none⟩ = some (.int .i64 a0_1) := (zg_ BK195.out 1).trans rfl; have hcz13_2 : w7.cell? ⟨gb195, 2, none⟩ = some (.slice A0_2 l0_2.length c0_2) := (zg_ BK195.out 2).trans rfl; have hfz13_0 := zi_ BK195.out 0; have hfz13_1 := zi_ BK195.out 1; have hfz13_2 := zi_ BK195.out 2; go_wp2; go_meet
    case rel => exact ⟨_, (true), (by first | rfl | (simp; done) | (simp [*]; done)), H', ⟨by first | omega | exact Nat.le_refl _⟩, ⟨by (with_reducible repeat (first | refine zf_ ?_ _ | refine zh_ ?_ | refine blk_alloc ?_ _)); refine blk_far ?_ NB195_201.out _; (with_reducible repeat (first | refine zf_ ?_ _ | refine zh_ ?_ | refine blk_alloc ?_ _)); refine blk_far ?_ NB195_201.out _; (with_reducible repeat (first | refine zf_ ?_ _ | refine zh_ ?_ | refine blk_alloc ?_ _)); refine blk_far ?_ NB195_201.out _; (with_reducible repeat (first | refine zf_ ?_ _ | refine zh_ ?_ | refine blk_alloc ?_ _)); refine blk_far ?_ NB195_201.out _; (with_reducible repeat (first | refine zf_ ?_ _ | refine zh_ ?_ | refine blk_alloc ?_ _)); exact BK195.out⟩, ⟨by (with_reducible repeat (first | refine zf_ ?_ _ | refine zh_ ?_ | refine blk_alloc ?_ _)); refine blk_put (cs := #[.int .i64 t196, .int .i64 t197, .int .i64 t198, .int .i64 0]) ?_ 3 _ rfl; (with_reducible repeat (first | refine zf_ ?_ _ | refine zh_ ?_ | refine blk_alloc ?_ _)); refine blk_put (cs := #[.int .i64 t196, .int .i64 t197, .int .i64 0, .int .i64 0]) ?_ 2 _ rfl; (with_reducible repeat (first | refine zf_ ?_ _ | refine zh_ ?_ | refine blk_alloc ?_ _)); refine blk_put (cs := #[.int .i64 t196, .int .i64 0, .int .i64 0, .int .i64 0]) ?_ 1 _ rfl; (with_reducible repeat (first | refine zf_ ?_ _ | refine zh_ ?_ | refine blk_alloc ?_ _)); refine blk_put (cs := #[.int .i64 0, .int .i64 0, .int .i64 0, .int .i64 0]) ?_ 0 _ rfl; (with_reducible repeat (first | refine zf_ ?_ _ | refine zh_ ?_ | refine blk_alloc ?_ _)); exact BK201.out⟩, ⟨by repeat (first | exact HB.out | apply zc_ | apply za_ | apply zb_ | refine zd_ ?_ GE195.out | refine zd_ ?_ GE201.out)⟩⟩
   ·
    rw [if_neg c11] at H; have c11b0 : (a0_0.toList == ([] : List UInt8)) = false := beq_eq_false_iff_ne.mpr c11; have c11b1 : (a0_0.toList != ([] : List UInt8)) = true := bne_iff_ne.mpr c11; (first | rw [c11b0] | (simp only [i64_w, i32_w]; rw [c11b0]) | skip)
    have H' := Z_.mk H; clear H; have hnb14 := NB195_201.out; have hnc14 := NB201_195.out; have hcz15_0 : w7.cell? ⟨gb195, 0, none⟩ = some (.string a0_0) := (zg_ BK195.out 0).trans rfl; have hcz15_1 : w7.cell? ⟨gb195, 1, none⟩ = some (.int .i64 a0_1) := (zg_ BK195.out 1).trans rfl; have hcz15_2 : w7.cell? ⟨gb195, 2, none⟩ = some (.slice A0_2 l0_2.length c0_2) := (zg_ BK195.out 2).trans rfl; have hfz15_0 := zi_ BK195.out 0; have hfz15_1 := zi_ BK195.out 1; have hfz15_2 := zi_ BK195.out 2; go_wp2; go_meet
    case rel => exact ⟨_, (decide ((a0_0.size : Int) > 10)), (by first | rfl | (simp; done) | (simp [*]; done)), H', ⟨by first | omega | exact Nat.le_refl _⟩, ⟨by (with_reducible repeat (first | refine zf_ ?_ _ | refine zh_ ?_ | refine blk_alloc ?_ _)); refine blk_far ?_ NB195_201.out _; (with_reducible repeat (first | refine zf_ ?_ _ | refine zh_ ?_ | refine blk_alloc ?_ _)); refine blk_far ?_ NB195_201.out _; (with_reducible repeat (first | refine zf_ ?_ _ | refine zh_ ?_ | refine blk_alloc ?_ _)); refine blk_far ?_ NB195_201.out _; (with_reducible repeat (first | refine zf_ ?_ _ | refine zh_ ?_ | refine blk_alloc ?_ _)); refine blk_far ?_ NB195_201.out _; (with_reducible repeat (first | refine zf_ ?_ _ | refine zh_ ?_ | refine blk_alloc ?_ _)); exact BK195.out⟩, ⟨by (with_reducible repeat (first | refine zf_ ?_ _ | refine zh_ ?_ | refine blk_alloc ?_ _)); refine blk_put (cs := #[.int .i64 t196, .int .i64 t197, .int .i64 t198, .int .i64 0]) ?_ 3 _ rfl; (with_reducible repeat (first | refine zf_ ?_ _ | refine zh_ ?_ | refine blk_alloc ?_ _)); refine blk_put (cs := #[.int .i64 t196, .int .i64 t197, .int .i64 0, .int .i64 0]) ?_ 2 _ rfl; (with_reducible repeat (first | refine zf_ ?_ _ | refine zh_ ?_ | refine blk_alloc ?_ _)); refine blk_put (cs := #[.int .i64 t196, .int .i64 0, .int .i64 0, .int .i64 0]) ?_ 1 _ rfl; (with_reducible repeat (first | refine zf_ ?_ _ | refine zh_ ?_ | refine blk_alloc ?_ _)); refine blk_put (cs := #[.int .i64 0, .int .i64 0, .int .i64 0, .int .i64 0]) ?_ 0 _ rfl; (with_reducible repeat (first | refine zf_ ?_ _ | refine zh_ ?_ | refine blk_alloc ?_ _)); exact BK201.out⟩, ⟨by repeat (first | exact HB.out | apply zc_ | apply za_ | apply zb_ | refine zd_ ?_ GE195.out | refine zd_ ?_ GE201.out)⟩⟩
  ·
   replace c10 := Bool.eq_false_iff.mpr c10; subst c10; have H1 : (impl_Entry_valid.j0 k true a0_0 a0_1 l0_2) = some r := by rw [if_neg (show ¬ (false = true) by decide)] at H; exact H
   clear H; have H := H1; clear H1; have H' := Z_.mk H; clear H; go_wp2; go_meet
   case rel => exact ⟨_, (true), (by first | rfl | (simp; done) | (simp [*]; done)), H', ⟨by first | omega | exact Nat.le_refl _⟩, ⟨by (with_reducible repeat (first | refine zf_ ?_ _ | refine zh_ ?_ | refine blk_alloc ?_ _)); refine blk_far ?_ NB195_201.out _; (with_reducible repeat (first | refine zf_ ?_ _ | refine zh_ ?_ | refine blk_alloc ?_ _)); refine blk_far ?_ NB195_201.out _; (with_reducible repeat (first | refine zf_ ?_ _ | refine zh_ ?_ | refine blk_alloc ?_ _)); refine blk_far ?_ NB195_201.out _; (with_reducible repeat (first | refine zf_ ?_ _ | refine zh_ ?_ | refine blk_alloc ?_ _)); refine blk_far ?_ NB195_201.out _; (with_reducible repeat (first | refine zf_ ?_ _ | refine zh_ ?_ | refine blk_alloc ?_ _)); exact BK195.out⟩, ⟨by (with_reducible repeat (first | refine zf_ ?_ _ | refine zh_ ?_ | refine blk_alloc ?_ _)); refine blk_put (cs := #[.int .i64 t196, .int .i64 t197, .int .i64 t198, .int .i64 0]) ?_ 3 _ rfl; (with_reducible repeat (first | refine zf_ ?_ _ | refine zh_ ?_ | refine blk_alloc ?_ _)); refine blk_put (cs := #[.int .i64 t196, .int .i64 t197, .int .i64 0, .int .i64 0]) ?_ 2 _ rfl; (with_reducible repeat (first | refine zf_ ?_ _ | refine zh_ ?_ | refine blk_alloc ?_ _)); refine blk_put (cs := #[.int .i64 t196, .int .i64 0, .int .i64 0, .int .i64 0]) ?_ 1 _ rfl; (with_reducible repeat (first | refine zf_ ?_ _ | refine zh_ ?_ | refine blk_alloc ?_ _)); refine blk_put (cs := #[.int .i64 0, .int .i64 0, .int .i64 0, .int .i64 0]) ?_ 0 _ rfl; (with_reducible repeat (first | refine zf_ ?_ _ | refine zh_ ?_ | refine blk_alloc ?_ _)); exact BK201.out⟩, ⟨by repeat (first | exact HB.out | apply zc_ | apply za_ | apply zb_ | refine zd_ ?_ GE195.out | refine zd_ ?_ GE201.out)⟩⟩
 case rest =>
  clear HC3; try clear c1
  try clear p2
  try clear c7
  try clear c8
  try clear c9
  try clear c10
  try clear c11
  try clear c11b0
  try clear c11b1
  try clear c12
  try clear c14
  try clear hcz13_0
  try clear hcz13_1
  try clear hcz13_2
  try clear hcz15_0
  try clear hcz15_1
  try clear hcz15_2
  try clear hcz5_0
  try clear hcz5_1
  try clear hcz5_2
  try clear hcz9_0
  try clear hcz9_1
  try clear hcz9_2
  try clear hcz9_3
  try clear hfz13_0
  try clear hfz13_1
  try clear hfz13_2
  try clear hfz15_0
  try clear hfz15_1
  try clear hfz15_2
  try clear hfz5_0
  try clear hfz5_1
  try clear hfz5_2
  try clear hfz9_0
  try clear hfz9_1
  try clear hfz9_2
  try clear hfz9_3
  obtain ⟨kq, x24_2, rfl, HA, HJ2, BK195, BK201, HB⟩ := hcut; cases kq with
  | zero => exact absurd HA.out (by simp [impl_Entry_valid.j0])
  | succ kj2 =>
   have H := HA.out; clear HA; simp only [impl_Entry_valid.j0] at H; by_cases c16 : x24_2 = true
   ·
    subst c16; have H1 : (some false) = some r := by rw [if_pos rfl] at H; exact H
    clear H; have H := H1; clear H1; obtain rfl := Option.some.inj H; go_wp2; go_ret
    exact ⟨by first | rfl | (simp [zn_, zm_] <;> rfl) | (simp [*, zn_, zm_] <;> rfl), by repeat (first | exact HB.out | apply zc_ | apply za_ | apply zb_ | refine zd_ ?_ GE195.out | refine zd_ ?_ GE201.out)⟩
   ·
    replace c16 := Bool.eq_false_iff.mpr c16; subst c16; have H1 : (impl_Entry_valid.l0 kj2 (a0_0.size : Int) 0 a0_0 a0_1 l0_2) = some r := by rw [if_neg (show ¬ (false = true) by decide)] at H; exact H
    clear H; have H := H1; clear H1; have H' := Z_.mk H; clear H; have hnb17 := NB195_201.out; have hnc17 := NB201_195.out; have hcz18_0 : wc.cell? ⟨gb195, 0, none⟩ = some (.string a0_0) := (zg_ BK195.out 0).trans rfl; have hcz18_1 : wc.cell? ⟨gb195, 1, none⟩ = some (.int .i64 a0_1) := (zg_ BK195.out 1).trans rfl; have hcz18_2 : wc.cell? ⟨gb195, 2, none⟩ = some (.slice A0_2 l0_2.length c0_2) := (zg_ BK195.out 2).trans rfl; have hfz18_0 := zi_ BK195.out 0; have hfz18_1 := zi_ BK195.out 1; have hfz18_2 := zi_ BK195.out 2; go_wp2; go_loopg [28] kj2 (fun kq v28 w' => ∃ (x28_2 : Int), v28 = .int .i64 x28_2 ∧ Z_ (impl_Entry_valid.l0 kq (a0_0.size : Int) x28_2 a0_0 a0_1 l0_2 = some r) ∧ Z_ (kq ≤ kj2) ∧ Z_ (w'.heap[gb195]? = some (.cells #[.string a0_0, .int .i64 a0_1, (.slice A0_2 l0_2.length c0_2)] 38 (0, 0))) ∧ Z_ (w'.heap[gb201]? = some (.cells #[.int .i64 t196, .int .i64 t197, .int .i64 t198, .int .i64 t199] 115 (0, 0))) ∧ Z_ (Below w.heap.size w w'))
    case atStart => exact ⟨(0), (by first | rfl | (simp; done) | (simp [*]; done)), H', ⟨Nat.le_refl _⟩, ⟨by (with_reducible repeat (first | refine zf_ ?_ _ | refine zh_ ?_ | refine blk_alloc ?_ _)); exact BK195.out⟩, ⟨by (with_reducible repeat (first | refine zf_ ?_ _ | refine zh_ ?_ | refine blk_alloc ?_ _)); exact BK201.out⟩, ⟨by repeat (first | exact HB.out | apply zc_ | apply za_ | apply zb_ | refine zd_ ?_ GE195.out | refine zd_ ?_ GE201.out)⟩⟩
    case round =>
     clear H'; try clear c1
     try clear p2
     try clear c7
     try clear c8
     try clear c9
     try clear c10
     try clear c11
     try clear c11b0
     try clear c11b1
     try clear c12
     try clear c14
     try clear c16
     try clear c17
     try clear hcz13_0
     try clear hcz13_1
     try clear hcz13_2
     try clear hcz15_0
     try clear hcz15_1
     try clear hcz15_2
     try clear hcz18_0
     try clear hcz18_1
     try clear hcz18_2
     try clear hcz5_0
     try clear hcz5_1
     try clear hcz5_2
     try clear hcz9_0
     try clear hcz9_1
     try clear hcz9_2
     try clear hcz9_3
     try clear hfz13_0
     try clear hfz13_1
     try clear hfz13_2
     try clear hfz15_0
     try clear hfz15_1
     try clear hfz15_2
     try clear hfz18_0
     try clear hfz18_1
     try clear hfz18_2
     try clear hfz5_0
     try clear hfz5_1
     try clear hfz5_2
     try clear hfz9_0
     try clear hfz9_1
     try clear hfz9_2
     try clear hfz9_3
     try clear p2
     obtain ⟨x28_2, rfl, HA, HK2, BK195, BK201, HB⟩ := hrel; cases gk with
     | zero => exact absurd HA.out (by simp [impl_Entry_valid.l0])
     | succ k2 =>
      have H := HA.out; clear HA; simp only [impl_Entry_valid.l0] at H; by_cases c19 : x28_2 < (a0_0.size : Int)
      ·
       rw [if_pos c19] at H; have c19b0 : decide (x28_2 < (a0_0.size : Int)) = true := decide_eq_true c19; clear c19; by_cases c20 : 0 ≤ x28_2
       ·
        rw [if_pos c20] at H; have c20b0 : decide (0 ≤ x28_2) = true := decide_eq_true c20; clear c20; by_cases c21 : x28_2 < (a0_0.size : Int)
        ·
         rw [if_pos c21] at H; have c21b0 : decide (x28_2 < (a0_0.size : Int)) = true := decide_eq_true c21; clear c21; by_cases c23 : (bt a0_0 x28_2) < 97
         ·
          rw [if_pos c23] at H; have c23b0 : decide ((bt a0_0 x28_2) < 97) = true := decide_eq_true c23; clear c23; obtain rfl := Option.some.inj H; have hnb24 := NB195_201.out; have hnc24 := NB201_195.out; have hcz25_0 : wr.cell? ⟨gb195, 0, none⟩ = some (.string a0_0) := (zg_ BK195.out 0).trans rfl; have hcz25_1 : wr.cell? ⟨gb195, 1, none⟩ = some (.int .i64 a0_1) := (zg_ BK195.out 1).trans rfl; have hcz25_2 : wr.cell? ⟨gb195, 2, none⟩ = some (.slice A0_2 l0_2.length c0_2) := (zg_ BK195.out 2).trans rfl; have hfz25_0 := zi_ BK195.out 0; have hfz25_1 := zi_ BK195.out 1; have hfz25_2 := zi_ BK195.out 2; have p22 : 0 ≤ (x28_2 : Int) := of_decide_eq_true (by first | (with_reducible assumption) | assumption); have q22 : x28_2 < (a0_0.size : Int) := of_decide_eq_true (by first | (with_reducible assumption) | assumption); have hx22 := bt_at a0_0 x28_2; replace p22 := eq_true p22; replace q22 := eq_true q22; go_wp2; go_ret
          exact ⟨by first | rfl | (simp [zn_, zm_] <;> rfl) | (simp [*, zn_, zm_] <;> rfl), by repeat (first | exact HB.out | apply zc_ | apply za_ | apply zb_ | refine zd_ ?_ GE195.out | refine zd_ ?_ GE201.out)⟩
         ·
          rw [if_neg c23] at H; have c23b0 : decide ((bt a0_0 x28_2) < 97) = false := decide_eq_false c23; clear c23; by_cases c27 : (bt a0_0 x28_2) > 122
          ·
           rw [if_pos c27] at H; have c27b0 : decide (122 < (bt a0_0 x28_2)) = true := decide_eq_true c27; clear c27; obtain rfl := Option.some.inj H; have hnb28 := NB195_201.out; have hnc28 := NB201_195.out; have hcz29_0 : wr.cell? ⟨gb195, 0, none⟩ = some (.string a0_0) := (zg_ BK195.out 0).trans rfl; have hcz29_1 : wr.cell? ⟨gb195, 1, none⟩ = some (.int .i64 a0_1) := (zg_ BK195.out 1).trans rfl; have hcz29_2 : wr.cell? ⟨gb195, 2, none⟩ = some (.slice A0_2 l0_2.length c0_2) := (zg_ BK195.out 2).trans rfl; have hfz29_0 := zi_ BK195.out 0; have hfz29_1 := zi_ BK195.out 1; have hfz29_2 := zi_ BK195.out 2; have p22 : 0 ≤ (x28_2 : Int) := of_decide_eq_true (by first | (with_reducible assumption) | assumption); have q22 : x28_2 < (a0_0.size : Int) := of_decide_eq_true (by first | (with_reducible assumption) | assumption); have hx22 := bt_at a0_0 x28_2; replace p22 := eq_true p22; replace q22 := eq_true q22; have p26 : 0 ≤ (x28_2 : Int) := of_decide_eq_true (by first | (with_reducible assumption) | assumption); have q26 : x28_2 < (a0_0.size : Int) := of_decide_eq_true (by first | (with_reducible assumption) | assumption); have hx26 := bt_at a0_0 x28_2; replace p26 := eq_true p26; replace q26 := eq_true q26; go_wp2; go_ret
           exact ⟨by first | rfl | (simp [zn_, zm_] <;> rfl) | (simp [*, zn_, zm_] <;> rfl), by repeat (first | exact HB.out | apply zc_ | apply za_ | apply zb_ | refine zd_ ?_ GE195.out | refine zd_ ?_ GE201.out)⟩
          ·
           rw [if_neg c27] at H; have c27b0 : decide (122 < (bt a0_0 x28_2)) = false := decide_eq_false c27; clear c27; have H' := Z_.mk H; clear H; have hnb30 := NB195_201.out; have hnc30 := NB201_195.out; have hcz31_0 : wr.cell? ⟨gb195, 0, none⟩ = some (.string a0_0) := (zg_ BK195.out 0).trans rfl; have hcz31_1 : wr.cell? ⟨gb195, 1, none⟩ = some (.int .i64 a0_1) := (zg_ BK195.out 1).trans rfl; have hcz31_2 : wr.cell? ⟨gb195, 2, none⟩ = some (.slice A0_2 l0_2.length c0_2) := (zg_ BK195.out 2).trans rfl; have hfz31_0 := zi_ BK195.out 0; have hfz31_1 := zi_ BK195.out 1; have hfz31_2 := zi_ BK195.out 2; have p22 : 0 ≤ (x28_2 : Int) := of_decide_eq_true (by first | (with_reducible assumption) | assumption); have q22 : x28_2 < (a0_0.size : Int) := of_decide_eq_true (by first | (with_reducible assumption) | assumption); have hx22 := bt_at a0_0 x28_2; replace p22 := eq_true p22; replace q22 := eq_true q22; have p26 : 0 ≤ (x28_2 : Int) := of_decide_eq_true (by first | (with_reducible assumption) | assumption); have q26 : x28_2 < (a0_0.size : Int) := of_decide_eq_true (by first | (with_reducible assumption) | assumption); have hx26 := bt_at a0_0 x28_2; replace p26 := eq_true p26; replace q26 := eq_true q26; go_wp2; go_roundg k2
           case measure => have := HJ2.out; have := HK2.out; omega
           case rel => exact ⟨(wrap64 (x28_2 + 1)), (by first | rfl | (simp; done) | (simp [*]; done)), H', ⟨by have := HJ2.out; have := HK2.out; omega⟩, ⟨by (with_reducible repeat (first | refine zf_ ?_ _ | refine zh_ ?_ | refine blk_alloc ?_ _)); exact BK195.out⟩, ⟨by (with_reducible repeat (first | refine zf_ ?_ _ | refine zh_ ?_ | refine blk_alloc ?_ _)); exact BK201.out⟩, ⟨by repeat (first | exact HB.out | apply zc_ | apply za_ | apply zb_ | refine zd_ ?_ GE195.out | refine zd_ ?_ GE201.out)⟩⟩
        ·
         rw [if_neg c21] at H; exact absurd H (by simp)
       ·
        rw [if_neg c20] at H; exact absurd H (by simp)
      ·
       rw [if_neg c19] at H; have c19b0 : decide (x28_2 < (a0_0.size : Int)) = false := decide_eq_false c19; clear c19; replace H := Option.bind_eq_some_iff.mp H; obtain ⟨t202, A320, H⟩ := H; replace H : (some t202) = some r := H; have A32 := Z_.mk A320; clear A320; obtain rfl := Option.some.inj H; have hnb33 := NB195_201.out; have hnc33 := NB201_195.out; have hcz34_0 : wr.cell? ⟨gb195, 0, none⟩ = some (.string a0_0) := (zg_ BK195.out 0).trans rfl; have hcz34_1 : wr.cell? ⟨gb195, 1, none⟩ = some (.int .i64 a0_1) := (zg_ BK195.out 1).trans rfl; have hcz34_2 : wr.cell? ⟨gb195, 2, none⟩ = some (.slice A0_2 l0_2.length c0_2) := (zg_ BK195.out 2).trans rfl; have hfz34_0 := zi_ BK195.out 0; have hfz34_1 := zi_ BK195.out 1; have hfz34_2 := zi_ BK195.out 2; go_wp2_with (first | ((with_reducible refine zp_ (f := 98) rfl ?_); refine goesL_ (some 46) rfl rfl Tryd.func98 (by kernel_rfl) rfl #[.slice A0_2 l0_2.length c0_2, .int .i64 1, .int .i64 8] rfl (by (try simp only [List.map_toArray, List.map_cons, List.map_nil]); first | done | rfl | (simp only [List.length_drop, List.length_take]; rfl)) ?_; (with_reducible refine (impl_tonesValid.calls k2 _ _ l0_2 1 8 t202 _ ?side1 ?side2 A32.out).mono ?_); (case side1 => repeat (first | exact (Kd.C_below HR0_2.out HB.out) | (with_reducible refine Kd.C_alloc ?_ _) | (with_reducible refine Kd.C_drewN ?_ _) | (with_reducible refine Kd.C_drew ?_))); (case side2 => exact HC0_2.out); rintro e w35 ⟨rfl, hb⟩; refine ⟨_, rfl, ?_⟩; have n0_ := Z_.mk (zq_ (g := gb195) (o := .cells #[.string a0_0, .int .i64 a0_1, .slice A0_2 l0_2.length c0_2] 38 (0, 0)) (by (with_reducible repeat (first | refine zf_ ?_ _ | refine zh_ ?_ | refine blk_alloc ?_ _)); exact BK195.out) hb); have n1_ := Z_.mk (zq_ (g := gb201) (o := .cells #[.int .i64 t196, .int .i64 t197, .int .i64 t198, .int .i64 t199] 115 (0, 0)) (by (with_reducible repeat (first | refine zf_ ?_ _ | refine zh_ ?_ | refine blk_alloc ?_ _)); exact BK201.out) hb); have n2_ := Z_.mk (ze_ (by repeat (first | exact HB.out | apply zc_ | apply za_ | apply zb_ | refine zd_ ?_ GE195.out | refine zd_ ?_ GE201.out)) hb); clear BK195; clear BK201; clear HB; have BK195 := n0_; have BK201 := n1_; have HB := n2_; clear n0_ n1_ n2_))
       go_ret
       exact ⟨by first | rfl | (simp [zn_, zm_] <;> rfl) | (simp [*, zn_, zm_] <;> rfl), by repeat (first | exact HB.out | apply zc_ | apply za_ | apply zb_ | refine zd_ ?_ GE195.out | refine zd_ ?_ GE201.out)⟩

end Go.Proofs.YtmacedbpdhkagaaDoor.PFnTonaryFind
namespace Go.Proofs.YtmacedbpdhkagaaDoor.PFnTonaryFind
set_option linter.unusedVariables false
set_option linter.unusedSimpArgs false
open Go Go.RowKit Go.Proofs.YtmacedbpdhkagaaDoor.Pure Go.Proofs.YtmacedbpdhkagaaDoorW.PrintWords Go.Proofs.YtmacedbpdhkagaaDoorW.PrintLast Go.Proofs.YtmacedbpdhkagaaDoorW.PrintMore
def impl_copiedTones.f (l0 : List S90) : Option (List S90) := if l0.length ≤ 1000000000000 then some l0 else none
theorem impl_copiedTones.calls (A0 : Option Addr) (c0 : Nat) (l0 : List S90) (r : List S90) (w : World) (hr0 : Kd.C k90 w A0 l0.length l0) (hc0 : l0.length ≤ c0) (h : impl_copiedTones.f l0 = some r) :
 Calls Tryd.prog 88 #[.slice A0 l0.length c0] w fun e w' => ∃ v0_ : Value, e = .returned (v0_) ∧ Kd.R k90 90 w' w.heap.size (fun _ => True) v0_ r ∧ Below w.heap.size w w' := by
 unfold impl_copiedTones.f at h; split at h
 ·
  rename_i hh
  injection h with h
  subst h; exact impl_copiedTones_calls l0 A0 c0 w hr0 hc0 hh
 ·
  cases h

end Go.Proofs.YtmacedbpdhkagaaDoor.PFnTonaryFind
namespace Go.Proofs.YtmacedbpdhkagaaDoor.PFnTonaryFind
open Go.RowKit Go.Proofs.YtmacedbpdhkagaaDoorW.PrintWords Go.Proofs.YtmacedbpdhkagaaDoorW.PrintLast Go.Proofs.YtmacedbpdhkagaaDoorW.PrintMore
attribute [local go_sem] max2_int min2_int max_two min_two max_three min_three max_four min_four   -- for this text's walks alone
set_option linter.unusedVariables false
set_option linter.unusedSimpArgs false

def impl_Entry_copied.f (a0_0 : ByteArray) (a0_1 : Int) (l0_2 : List (S90)) : Option (ByteArray × Int × (List (S90))) := (impl_copiedTones.f l0_2).bind fun t186 => (some (a0_0, a0_1, t186))
set_option maxHeartbeats 8000000 in
set_option maxRecDepth 100000 in
theorem impl_Entry_copied.calls (a0_0 : ByteArray) (a0_1 : Int) (A0_2 : Option Addr) (c0_2 : Nat) (l0_2 : List (S90)) (r1 : ByteArray) (r2 : Int) (r3 : List (S90)) (w : World) (hr0_2 : Kd.C k90 w A0_2 l0_2.length l0_2) (hc0_2 : l0_2.length ≤ c0_2) (h : impl_Entry_copied.f a0_0 a0_1 l0_2 = some (r1, r2, r3)) :
 Calls Tryd.prog 55 #[.agg #[.string a0_0, .int .i64 a0_1, .slice A0_2 l0_2.length c0_2]] w fun e w' => ∃ v2_ : Value, e = .returned (.agg #[.string r1, .int .i64 r2, v2_]) ∧ Kd.R k90 90 w' w.heap.size (fun _ => True) v2_ r3 ∧ Below w.heap.size w w' := by
 have hu38 := Tryd.underlying38; have HR0_2 := Z_.mk hr0_2; have HC0_2 := Z_.mk hc0_2; clear hr0_2 hc0_2; have HB := Z_.mk (Below.refl w.heap.size w); have H : ((impl_copiedTones.f l0_2).bind fun t186 => (some (a0_0, a0_1, t186))) = some (r1, r2, r3) := h; clear h; replace H := Option.bind_eq_some_iff.mp H; obtain ⟨t186, A20, H⟩ := H; replace H : (some (a0_0, a0_1, t186)) = some (r1, r2, r3) := H; have A2 := Z_.mk A20; clear A20; simp only [Option.some.injEq, Prod.mk.injEq] at H; obtain ⟨rfl, rfl, rfl⟩ := H; go_enter Tryd.func55, Tryd.ntmps55
 go_wp2_with (first | ((with_reducible refine zr_ (N := 1) rfl ?_); refine box_event ?hg (N := 1) ?hd (cs := #[.string a0_0, .int .i64 a0_1, .slice A0_2 l0_2.length c0_2]) (t := 38) ?hr ?_; (case hd => rfl); (case hg => rfl); (case hr => first | (go_simp; done) | (go_simp; rfl)); intro gb184 hg w3 hbox hb; have n0_ := Z_.mk (ze_ (by repeat (first | exact HB.out | apply zc_ | apply za_ | apply zb_)) hb); have n1_ := Z_.mk (hbox); have n2_ := Z_.mk ((by rw [hg]; exact (zj_ (by repeat (first | exact HB.out | apply zc_ | apply za_ | apply zb_))) : w.heap.size ≤ gb184)); have n3_ := Z_.mk ((by rw [hg]; exact (zj_ (by repeat (first | exact HB.out | apply zc_ | apply za_ | apply zb_))) : w.heap.size ≤ gb184)); clear HB; have HB := n0_; have BK184 := n1_; have GW184 := n2_; have GE184 := n3_; clear n0_ n1_ n2_ n3_; clear hb hbox hg) | ((with_reducible refine zr_ (N := 2) rfl ?_); refine box_event ?hg (N := 2) ?hd (cs := #[.string (⟨#[]⟩ : ByteArray), .int .i64 0, .slice none 0 0]) (t := 38) ?hr ?_; (case hd => rfl); (case hg => rfl); (case hr => first | (go_simp; done) | (go_simp; rfl)); intro gb185 hg w4 hbox hb; have n0_ := Z_.mk (zq_ (g := gb184) (o := .cells #[.string a0_0, .int .i64 a0_1, .slice A0_2 l0_2.length c0_2] 38 (0, 0)) (by (with_reducible repeat (first | refine zf_ ?_ _ | refine zh_ ?_ | refine blk_alloc ?_ _)); exact BK184.out) hb); have n1_ := Z_.mk (ze_ (by repeat (first | exact HB.out | apply zc_ | apply za_ | apply zb_ | refine zd_ ?_ GE184.out)) hb); have n2_ := Z_.mk (hbox); have n3_ := Z_.mk ((by rw [hg]; exact (zj_ (by repeat (first | exact HB.out | apply zc_ | apply za_ | apply zb_ | refine zd_ ?_ GE184.out))) : w.heap.size ≤ gb185)); have n4_ := Z_.mk ((by rw [hg]; exact (zj_ (by repeat (first | exact HB.out | apply zc_ | apply za_ | apply zb_ | refine zd_ ?_ GE184.out))) : w.heap.size ≤ gb185)); have n5_ := Z_.mk ((by rw [hg]; exact Nat.ne_of_lt (blk_lt (g := gb184) (o := .cells #[.string a0_0, .int .i64 a0_1, .slice A0_2 l0_2.length c0_2] 38 (0, 0)) (by (with_reducible repeat (first | refine zf_ ?_ _ | refine zh_ ?_ | refine blk_alloc ?_ _)); exact BK184.out)) : gb184 ≠ gb185)); have n6_ := Z_.mk ((by rw [hg]; exact Nat.ne_of_gt (blk_lt (g := gb184) (o := .cells #[.string a0_0, .int .i64 a0_1, .slice A0_2 l0_2.length c0_2] 38 (0, 0)) (by (with_reducible repeat (first | refine zf_ ?_ _ | refine zh_ ?_ | refine blk_alloc ?_ _)); exact BK184.out)) : gb185 ≠ gb184)); clear BK184; clear HB; have BK184 := n0_; have HB := n1_; have BK185 := n2_; have GW185 := n3_; have GE185 := n4_; have NB184_185 := n5_; have NB185_184 := n6_; clear n0_ n1_ n2_ n3_ n4_ n5_ n6_; clear hb hbox hg; have hnb5 := NB184_185.out; have hnc5 := NB185_184.out; have hcz6_0 : w4.cell? ⟨gb184, 0, none⟩ = some (.string a0_0) := (zg_ BK184.out 0).trans rfl; have hcz6_1 : w4.cell? ⟨gb184, 1, none⟩ = some (.int .i64 a0_1) := (zg_ BK184.out 1).trans rfl; have hcz6_2 : w4.cell? ⟨gb184, 2, none⟩ = some (.slice A0_2 l0_2.length c0_2) := (zg_ BK184.out 2).trans rfl; have hfz6_0 := zi_ BK184.out 0; have hfz6_1 := zi_ BK184.out 1; have hfz6_2 := zi_ BK184.out 2) | ((with_reducible refine zp_ (f := 88) rfl ?_); refine goesL_ (some 5) rfl rfl Tryd.func88 (by kernel_rfl) rfl #[.slice A0_2 l0_2.length c0_2] rfl (by (try simp only [List.map_toArray, List.map_cons, List.map_nil]); first | done | rfl | (simp only [List.length_drop, List.length_take]; rfl)) ?_; (with_reducible refine (impl_copiedTones.calls _ _ l0_2 t186 _ ?side1 ?side2 A2.out).mono ?_); (case side1 => repeat (first | exact (Kd.C_below HR0_2.out HB.out) | (with_reducible refine Kd.C_alloc ?_ _) | (with_reducible refine Kd.C_drewN ?_ _) | (with_reducible refine Kd.C_drew ?_))); (case side2 => exact HC0_2.out); rintro e w7 ⟨v187, rfl, ho0, hb⟩; refine ⟨_, rfl, ?_⟩; have n0_ := Z_.mk (Kd.R_lower ho0 (zj_ (by repeat (first | exact HB.out | apply zc_ | apply za_ | apply zb_ | refine zd_ ?_ GE184.out | refine zd_ ?_ GE185.out)))); have n1_ := Z_.mk (zq_ (g := gb184) (o := .cells #[.string a0_0, .int .i64 a0_1, .slice A0_2 l0_2.length c0_2] 38 (0, 0)) (by (with_reducible repeat (first | refine zf_ ?_ _ | refine zh_ ?_ | refine blk_alloc ?_ _)); exact BK184.out) hb); have n2_ := Z_.mk (zq_ (g := gb185) (o := .cells #[.string (⟨#[]⟩ : ByteArray), .int .i64 0, .slice none 0 0] 38 (0, 0)) (by (with_reducible repeat (first | refine zf_ ?_ _ | refine zh_ ?_ | refine blk_alloc ?_ _)); exact BK185.out) hb); have n3_ := Z_.mk (ze_ (by repeat (first | exact HB.out | apply zc_ | apply za_ | apply zb_ | refine zd_ ?_ GE184.out | refine zd_ ?_ GE185.out)) hb); clear BK184; clear BK185; clear HB; have HO188 := n0_; have BK184 := n1_; have BK185 := n2_; have HB := n3_; clear n0_ n1_ n2_ n3_; obtain ⟨Ao8, co8, eo8⟩ := Kd.R_slice HO188.out; subst eo8; have hcz9_0 : w7.cell? ⟨gb184, 0, none⟩ = some (.string a0_0) := (zg_ BK184.out 0).trans rfl; have hcz9_1 : w7.cell? ⟨gb184, 1, none⟩ = some (.int .i64 a0_1) := (zg_ BK184.out 1).trans rfl; have hcz9_2 : w7.cell? ⟨gb184, 2, none⟩ = some (.slice A0_2 l0_2.length c0_2) := (zg_ BK184.out 2).trans rfl; have hfz9_0 := zi_ BK184.out 0; have hfz9_1 := zi_ BK184.out 1; have hfz9_2 := zi_ BK184.out 2; have hcz10_0 : w7.cell? ⟨gb185, 0, none⟩ = some (.string (⟨#[]⟩ : ByteArray)) := (zg_ BK185.out 0).trans rfl; have hcz10_1 : w7.cell? ⟨gb185, 1, none⟩ = some (.int .i64 0) := (zg_ BK185.out 1).trans rfl; have hcz10_2 : w7.cell? ⟨gb185, 2, none⟩ = some (.slice none 0 0) := (zg_ BK185.out 2).trans rfl; have hfz10_0 := zi_ BK185.out 0; have hfz10_1 := zi_ BK185.out 1; have hfz10_2 := zi_ BK185.out 2))
 refine bodyPost_ret (results_cell_row rfl _ _ gb185 38 #[.string a0_0, .int .i64 a0_1, .slice Ao8 t186.length co8] (0, 0) _ rfl (by (with_reducible repeat (first | refine zf_ ?_ _ | refine zh_ ?_ | refine blk_alloc ?_ _)); refine blk_put (cs := #[.string a0_0, .int .i64 a0_1, .slice none 0 0]) ?_ 2 _ rfl; (with_reducible repeat (first | refine zf_ ?_ _ | refine zh_ ?_ | refine blk_alloc ?_ _)); refine blk_put (cs := #[.string a0_0, .int .i64 0, .slice none 0 0]) ?_ 1 _ rfl; (with_reducible repeat (first | refine zf_ ?_ _ | refine zh_ ?_ | refine blk_alloc ?_ _)); refine blk_put (cs := #[.string (⟨#[]⟩ : ByteArray), .int .i64 0, .slice none 0 0]) ?_ 0 _ rfl; (with_reducible repeat (first | refine zf_ ?_ _ | refine zh_ ?_ | refine blk_alloc ?_ _)); refine blk_far ?_ NB185_184.out _; (with_reducible repeat (first | refine zf_ ?_ _ | refine zh_ ?_ | refine blk_alloc ?_ _)); exact BK185.out) Tryd.underlying38 rfl (by kernel_rfl)) rfl ?_; exact ⟨_, by first | rfl | (simp [zn_, zm_] <;> rfl) | (simp [*, zn_, zm_] <;> rfl), by (with_reducible repeat (first | apply Kd.R_alloc | apply Kd.R_drewN | apply Kd.R_drew)); exact Kd.R_mono (Kd.R_far (p := ⟨gb185, 2, none⟩) (Kd.R_far (p := ⟨gb185, 1, none⟩) (Kd.R_far (p := ⟨gb185, 0, none⟩) (Kd.R_far (p := ⟨gb184, 2, none⟩) (Kd.R_types (Kd.R_types HO188.out BK184.out (by decide)) BK185.out (by decide)) (fun _ hk => hk.1.2) (.slice Ao8 t186.length co8)) (fun _ hk => hk.2) (.string a0_0)) (fun _ hk => hk.2) (.int .i64 a0_1)) (fun _ hk => hk.2) (.slice Ao8 t186.length co8)) (fun _ hk => trivial), by repeat (first | exact HB.out | apply zc_ | apply za_ | apply zb_ | refine zd_ ?_ GE184.out | refine zd_ ?_ GE185.out)⟩

end Go.Proofs.YtmacedbpdhkagaaDoor.PFnTonaryFind
namespace Go.Proofs.YtmacedbpdhkagaaDoor.Pure
set_option linter.unusedVariables false
set_option linter.unusedSimpArgs false
open Go Go.RowKit Go.Proofs.YtmacedbpdhkagaaDoor.PFnTonaryFind Go.Proofs.YtmacedbpdhkagaaDoorW.PrintWords Go.Proofs.YtmacedbpdhkagaaDoorW.PrintLast Go.Proofs.YtmacedbpdhkagaaDoorW.PrintMore

theorem impl_tonesValid_ev (l : List S90) (a b : Int) : Ev (fun n => impl_tonesValid.f n l a b) (decide (a ≤ (l.length : Int) ∧ (l.length : Int) ≤ b) && melOk l) := by
 unfold impl_tonesValid.f
 by_cases h1 : (l.length : Int) ≥ a
 ·
  refine Ev.pos h1 ?_
  by_cases h2 : (l.length : Int) ≤ b
  ·
   refine Ev.pos h2 (Ev.bind (impl_MelodyValid_ev l) (Ev.eqr (Ev.now _) ?_))
   rw [decide_eq_true ⟨h1, h2⟩, Bool.true_and]
  ·
   exact Ev.neg h2 (Ev.eqr (Ev.now _) (by rw [decide_eq_false (fun h => h2 h.2), Bool.false_and]))
 ·
  exact Ev.neg h1 (Ev.eqr (Ev.now _) (by rw [decide_eq_false (fun h => h1 h.1), Bool.false_and]))
theorem bt_get (s : ByteArray) (i : Nat) (h : i < s.size) : ∃ c : UInt8, bt s (i : Int) = (c.toNat : Int) ∧ s.data.toList.drop i = c :: s.data.toList.drop (i + 1) := by
 refine ⟨s[i], ?_, ?_⟩
 ·
  rw [← bt_at s (i : Int) (by simpa using h)]
  simp
 ·
  have hl : i < s.data.toList.length := by simpa using h
  rw [List.drop_eq_getElem_cons hl]; rfl
theorem impl_Entry_valid_ev (e : S38) (hs : e.f0.size ≤ 9223372036854775806) : Ev (fun n => impl_Entry_valid.f n e.f0 e.f1 e.f2) (entOk e) := by
 unfold impl_Entry_valid.f entOk
 have no : Ev (fun n => impl_Entry_valid.j0 n true e.f0 e.f1 e.f2) false := by
  refine Ev.succ ?_
  simp only [impl_Entry_valid.j0]
  exact Ev.pos trivial (Ev.now _)
 refine Ev.conb (a := ((mRz e.f1).1, (mRz e.f1).2.1, (mRz e.f1).2.2.1, (mRz e.f1).2.2.2, mOk e.f1)) rfl ?_
 show Ev (fun n => if mOk e.f1 = true then _ else _) _
 cases hm : mOk e.f1
 ·
  exact Ev.neg (by simp) no
 refine Ev.pos rfl ?_
 rw [Bool.true_and]
 have hsz : e.f0.toList.length = e.f0.size := by rw [Lib.toList_data]; simp
 by_cases h0 : e.f0.toList = []
 ·
  refine Ev.pos h0 ?_
  have : e.f0.size = 0 := by rw [← hsz, h0]; rfl
  rw [decide_eq_false (by omega), Bool.false_and]
  exact no
 refine Ev.neg h0 ?_
 have hpos : 0 < e.f0.size := by
  rw [← hsz]; exact List.length_pos_iff.2 h0
 by_cases h1 : e.f0.size ≤ 10
 ·
  rw [decide_eq_true (show 1 ≤ e.f0.size ∧ e.f0.size ≤ 10 from ⟨hpos, h1⟩), Bool.true_and, decide_eq_false (show ¬ (e.f0.size : Int) > 10 by omega)]
  refine Ev.succ ?_
  simp only [impl_Entry_valid.j0]
  refine Ev.neg (by simp) ?_
  have key : ∀ d i : Nat, i + d = e.f0.size → Ev (fun n => impl_Entry_valid.l0 n (e.f0.size : Int) (i : Int) e.f0 e.f1 e.f2) (lowB (e.f0.data.toList.drop i) && (decide (1 ≤ e.f2.length ∧ e.f2.length ≤ 8) && melOk e.f2)) := by
   intro d
   induction d with
   | zero =>
    intro i hi
    refine Ev.succ ?_
    simp only [impl_Entry_valid.l0]
    rw [List.drop_of_length_le (by simp; omega)]
    have e1 := impl_tonesValid_ev e.f2 1 8
    rw [show (decide ((1 : Int) ≤ (e.f2.length : Int) ∧ (e.f2.length : Int) ≤ 8)) = decide (1 ≤ e.f2.length ∧ e.f2.length ≤ 8) from decide_eq_decide.2 (by omega)] at e1
    exact Ev.neg (by omega) (Ev.bind e1 (Ev.eqr (Ev.now _) (by simp [lowB])))
   | succ d ih =>
    intro i hi
    obtain ⟨c, hc, hdr⟩ := bt_get e.f0 i (by omega)
    refine Ev.succ ?_
    simp only [impl_Entry_valid.l0]
    rw [hc, hdr, w64 (x := (i : Int) + 1) (by omega) (by omega)]
    have e2 : lowB (c :: e.f0.data.toList.drop (i + 1)) = (decide (97 ≤ c.toNat ∧ c.toNat ≤ 122) && lowB (e.f0.data.toList.drop (i + 1))) := rfl
    rw [e2]
    refine Ev.pos (by omega) (Ev.pos (by omega) (Ev.pos (by omega) ?_))
    by_cases h97 : (c.toNat : Int) < 97
    ·
     refine Ev.pos h97 (Ev.eqr (Ev.now _) ?_)
     rw [decide_eq_false (by omega)]; rfl
    refine Ev.neg h97 ?_
    by_cases h122 : (c.toNat : Int) > 122
    ·
     refine Ev.pos h122 (Ev.eqr (Ev.now _) ?_)
     rw [decide_eq_false (by omega)]; rfl
    refine Ev.neg h122 ?_
    rw [decide_eq_true (show 97 ≤ c.toNat ∧ c.toNat ≤ 122 by omega), Bool.true_and]
    exact ih (i + 1) (by omega)
  exact key e.f0.size 0 (by omega)
 ·
  rw [decide_eq_false (show ¬ (1 ≤ e.f0.size ∧ e.f0.size ≤ 10) by omega), Bool.false_and, decide_eq_true (show (e.f0.size : Int) > 10 by omega)]
  exact no

open Go.MapKept Go.ChangeMaps in
def MapFn (w : World) (M : Nat) (F : Int → Option Value) : Prop :=
 ∃ es clock, w.heap[M]? = some (.map es clock) ∧ (es.toList.map (·.key)).Nodup ∧ (∀ e ∈ es.toList, ∃ k, e.key = .int .i64 k ∧ F k = some e.val) ∧ ∀ k v, F k = some v → ∃ e ∈ es.toList, e.key = .int .i64 k ∧ e.val = v
theorem MapFn.made {w : World} {M : Nat} (h : w.heap[M]? = some (.map #[] 0)) : MapFn w M (fun _ => none) := ⟨_, _, h, by simp, by simp, by simp⟩
theorem MapFn.lt {w : World} {M : Nat} {F : Int → Option Value} (h : MapFn w M F) : M < w.heap.size := by
 obtain ⟨es, clock, hb, _⟩ := h; exact blk_lt hb
theorem MapFn.move {w w' : World} {M : Nat} {F : Int → Option Value} (h : MapFn w M F) (hw : w'.heap[M]? = w.heap[M]?) : MapFn w' M F := by
 obtain ⟨es, clock, hb, h⟩ := h; exact ⟨es, clock, hw.trans hb, h⟩
theorem MapFn.look {P : Program} {w : World} {M : Nat} {F : Int → Option Value} (h : MapFn w M F) {t kt e : TypeId} (ht : P.underlying t = some (.map kt e)) (hk : P.underlying kt = some (.int .i64)) {z : Value} (hz : ∀ w, (zeroValue e).run P w = .ok z w) (k : Int) (c : Bool) :
 (Instr.lookup t (.map (some M)) (.int .i64 k) c).run P w = .ok (if c then .tuple #[(F k).getD z, .bool (F k).isSome] else (F k).getD z) w := by
 obtain ⟨es, clock, hb, _, h1, h2⟩ := h
 have hkey : MapKept.IsKey (.int .i64) (.int .i64 k) := by simp [MapKept.IsKey]
 have hks : ∀ x ∈ es.toList, MapKept.IsKey (.int .i64) x.key := fun x hx => by
  obtain ⟨k, hk, _⟩ := h1 x hx
  rw [hk]; simp [MapKept.IsKey]
 rcases MapKept.findNow_spec hkey es.toList 0 hks with ⟨f1, f2⟩ | ⟨j, e0, f1, f2, f3⟩
 ·
  have hF : F k = none := by
   cases hF : F k with
   | none => rfl
   | some v =>
    obtain ⟨x, hx, hx1, _⟩ := h2 k v hF
    exact absurd hx1 (f2 x hx)
  simp [Instr.lookup, run_underlying ht, MapKept.run_getObj_map hb, MapKept.run_checkKey hk hkey, MapKept.run_findKey hk f1, hz, Result.andThen, hF]
 ·
  have hm : e0 ∈ es.toList := List.mem_of_getElem? f2
  obtain ⟨k', hk', hF⟩ := h1 e0 hm
  have e1 : k' = k := by rw [f3] at hk'; cases hk'; rfl
  subst e1
  simp [Instr.lookup, run_underlying ht, MapKept.run_getObj_map hb, MapKept.run_checkKey hk hkey, MapKept.run_findKey hk f1, Result.andThen, hF]
theorem MapFn.put {P : Program} {w : World} {M : Nat} {F : Int → Option Value} (h : MapFn w M F) {t kt e : TypeId} (ht : P.underlying t = some (.map kt e)) (hk : P.underlying kt = some (.int .i64)) (k : Int) (v : Value) :
 ∃ es clock, (Instr.mapUpdate t (.map (some M)) (.int .i64 k) v).run P w = .ok () (ChangeMaps.setBlock w M (.map es clock)) ∧ MapFn (ChangeMaps.setBlock w M (.map es clock)) M (fun j => if j = k then some v else F j) := by
 obtain ⟨es, clock, hb, hn, h1, h2⟩ := h
 have hlt := blk_lt hb
 have hset : ∀ o, (ChangeMaps.setBlock w M o).heap[M]? = some o := fun o => by simp [ChangeMaps.setBlock, hlt]
 have hkey : MapKept.IsKey (.int .i64) (.int .i64 k) := by simp [MapKept.IsKey]
 have hks : ∀ x ∈ es.toList, MapKept.IsKey (.int .i64) x.key := fun x hx => by
  obtain ⟨k, hk, _⟩ := h1 x hx
  rw [hk]; simp [MapKept.IsKey]
 rcases MapKept.findNow_spec hkey es.toList 0 hks with ⟨f1, f2⟩ | ⟨j, e0, f1, f2, f3⟩
 ·
  refine ⟨es.push ⟨.int .i64 k, v, clock⟩, clock + 1, ?_, _, _, hset _, ?_, ?_, ?_⟩
  ·
   simp [Instr.mapUpdate, run_underlying ht, MapKept.run_getObj_map hb, MapKept.run_checkKey hk hkey, MapKept.run_findKey hk f1, MapKept.run_setObj_map _ hb, Result.andThen, ChangeMaps.setBlock]
  ·
   simp only [Array.toList_push, List.map_append, List.map_cons, List.map_nil]
   rw [List.nodup_append]
   refine ⟨hn, by simp, ?_⟩
   intro a ha b hb'
   obtain ⟨x, hx, rfl⟩ := List.mem_map.1 ha
   rw [List.mem_singleton.1 hb']
   exact f2 x hx
  ·
   intro x hx
   simp only [Array.toList_push, List.mem_append, List.mem_singleton] at hx
   rcases hx with hx | rfl
   ·
    obtain ⟨k', hk', hF⟩ := h1 x hx
    refine ⟨k', hk', ?_⟩
    have : k' ≠ k := fun e => f2 x hx (by rw [hk', e])
    show (if k' = k then _ else _) = _
    rw [if_neg this]; exact hF
   ·
    exact ⟨k, rfl, if_pos rfl⟩
  ·
   intro k' v' hF
   replace hF : (if k' = k then some v else F k') = some v' := hF
   simp only [Array.toList_push, List.mem_append, List.mem_singleton]
   by_cases e : k' = k
   ·
    subst e
    rw [if_pos rfl] at hF
    cases hF
    exact ⟨_, .inr rfl, rfl, rfl⟩
   ·
    rw [if_neg e] at hF
    obtain ⟨x, hx, hx1⟩ := h2 k' v' hF
    exact ⟨x, .inl hx, hx1⟩
 ·
  have hm : e0 ∈ es.toList := List.mem_of_getElem? f2
  have hjl := (List.getElem?_eq_some_iff.1 f2).1
  have hje : es[j]? = some e0 := by simpa using f2
  have hmod : (es.modify j fun e => { e with key := .int .i64 k, val := v }).toList = es.toList.set j { e0 with key := .int .i64 k, val := v } := by
   apply List.ext_getElem?
   intro i
   rw [Array.getElem?_toList, Array.getElem?_modify, List.getElem?_set]
   by_cases e : j = i
   ·
    subst e
    rw [if_pos rfl, if_pos rfl, hje, if_pos hjl]; rfl
   ·
    rw [if_neg e, if_neg e, Array.getElem?_toList]
  refine ⟨es.modify j fun e => { e with key := .int .i64 k, val := v }, clock, ?_, _, _, hset _, ?_, ?_, ?_⟩
  ·
   simp [Instr.mapUpdate, run_underlying ht, MapKept.run_getObj_map hb, MapKept.run_checkKey hk hkey, MapKept.run_findKey hk f1, MapKept.run_setObj_map _ hb, hje, f3, MapKept.run_keyThatStays hkey, Result.andThen, ChangeMaps.setBlock]
  ·
   rw [hmod, List.map_set]
   have : (es.toList.map (·.key)).set j (.int .i64 k) = es.toList.map (·.key) := by
    apply List.ext_getElem?
    intro i
    rw [List.getElem?_set]
    by_cases e : j = i
    ·
     subst e
     rw [if_pos rfl, List.length_map, if_pos hjl, List.getElem?_map, f2]
     simp [f3]
    ·
     rw [if_neg e]
   rw [this]; exact hn
  ·
   intro x hx
   rw [hmod] at hx
   obtain ⟨i, hi⟩ := List.mem_iff_getElem?.1 hx
   rw [List.getElem?_set] at hi
   by_cases e : j = i
   ·
    subst e
    rw [if_pos rfl, if_pos hjl] at hi
    cases hi
    exact ⟨k, rfl, if_pos rfl⟩
   ·
    rw [if_neg e] at hi
    obtain ⟨k', hk', hF⟩ := h1 x (List.mem_of_getElem? hi)
    refine ⟨k', hk', ?_⟩
    have : k' ≠ k := by
     rintro rfl
     have hnn := List.nodup_iff_pairwise_ne.1 hn
     have a1 : (es.toList.map (·.key))[i]? = some (.int .i64 k') := by rw [List.getElem?_map, hi]; simp [hk']
     have a2 : (es.toList.map (·.key))[j]? = some (.int .i64 k') := by rw [List.getElem?_map, f2]; simp [f3]
     obtain ⟨i1, i2⟩ := List.getElem?_eq_some_iff.1 a1
     obtain ⟨j1, j2⟩ := List.getElem?_eq_some_iff.1 a2
     exact e ((List.getElem_inj hn).1 (j2.trans i2.symm))
    show (if k' = k then _ else _) = _
    rw [if_neg this]; exact hF
  ·
   intro k' v' hF
   replace hF : (if k' = k then some v else F k') = some v' := hF
   rw [hmod]
   by_cases e : k' = k
   ·
    subst e
    rw [if_pos rfl] at hF
    cases hF
    exact ⟨_, List.mem_iff_getElem?.2 ⟨j, by rw [List.getElem?_set, if_pos rfl, if_pos hjl]⟩, rfl, rfl⟩
   ·
    rw [if_neg e] at hF
    obtain ⟨x, hx, hx1, hx2⟩ := h2 k' v' hF
    obtain ⟨i, hi⟩ := List.mem_iff_getElem?.1 hx
    have hji : j ≠ i := by
     rintro rfl
     rw [f2] at hi; cases hi
     rw [f3] at hx1; cases hx1; exact e rfl
    exact ⟨x, List.mem_iff_getElem?.2 ⟨i, by rw [List.getElem?_set, if_neg hji]; exact hi⟩, hx1, hx2⟩
theorem below_setBlock {w W : World} {B M : Nat} {o : Obj} (h : Below B w W) (hM : B ≤ M) : Below B w (ChangeMaps.setBlock W M o) :=
 h.trans ⟨rfl, rfl, rfl, by simp [ChangeMaps.setBlock], fun k hk => by simp [ChangeMaps.setBlock, show M ≠ k by omega]⟩
def TonAt (w : World) (base M : Nat) (own : Nat → Int) (F : Int → Option Value) (G : Int → List S38) : Prop :=
 base ≤ M ∧ MapFn w M F ∧ (∀ k, F k = none → G k = []) ∧ ∀ k v, F k = some v → Kd.S k38 38 w base (fun b => own b = k ∧ b ≠ M) v (G k)
def TonMap (w : World) (base M : Nat) (G : Int → List S38) : Prop := ∃ own F, TonAt w base M own F G
theorem TonAt.below {w w' : World} {base M : Nat} {own : Nat → Int} {F : Int → Option Value} {G : Int → List S38} (h : TonAt w base M own F G) (hb : Below w.heap.size w w') : TonAt w' base M own F G :=
 ⟨h.1, h.2.1.move (hb.block _ h.2.1.lt), h.2.2.1, fun k v hv => Kd.S_below (h.2.2.2 k v hv) hb⟩
theorem TonMap.made {w : World} {base M : Nat} (hb : base ≤ M) (h : w.heap[M]? = some (.map #[] 0)) : TonMap w base M (fun _ => []) :=
 ⟨fun _ => 0, fun _ => none, hb, MapFn.made h, fun _ _ => rfl, fun k v h => by cases h⟩
theorem TonMap.cong {w : World} {base M : Nat} {G G' : Int → List S38} (h : TonMap w base M G) (e : ∀ k, G k = G' k) : TonMap w base M G' := by
 rw [← show G = G' from funext e]; exact h
/-- What stands at a key: a row of its own. -/
theorem TonAt.row {w : World} {base M : Nat} {own : Nat → Int} {F : Int → Option Value} {G : Int → List S38} (h : TonAt w base M own F G) (k : Int) : Kd.S k38 38 w base (fun b => own b = k ∧ b ≠ M) ((F k).getD (.slice none 0 0)) (G k) := by
 cases hF : F k with
 | none => rw [h.2.2.1 k hF]; exact Kd.S_nil _ _ _ _ _
 | some v => exact h.2.2.2 k v hF
theorem TonAt.look {w : World} {base M : Nat} {own : Nat → Int} {F : Int → Option Value} {G : Int → List S38} (h : TonAt w base M own F G) (k : Int) : (Instr.lookup 72 (.map (some M)) (.int .i64 k) false).run Tryd.prog w = .ok ((F k).getD (.slice none 0 0)) w := by
 have := h.2.1.look (P := Tryd.prog) Tryd.underlying72 Tryd.underlying3 (z := .slice none 0 0) (fun _ => by kernel_rfl) k false
 simpa using this
/-- The row at a key is set. -/
theorem TonAt.put {w1 : World} {base M n : Nat} {own : Nat → Int} {F : Int → Option Value} {G : Int → List S38} {k : Int} {v : Value} {l : List S38} (hM : base ≤ M) (hMn : M < n)
 (hF : MapFn w1 M F) (hF0 : ∀ j, F j = none → G j = []) (ho : ∀ j, j ≠ k → Kd.S k38 38 w1 base (fun b => (own b = j ∧ b ≠ M) ∧ b < n) ((F j).getD (.slice none 0 0)) (G j)) (hv : Kd.S k38 38 w1 base (fun b => (own b = k ∧ b ≠ M) ∨ n ≤ b) v l) :
 ∃ es clock, (Instr.mapUpdate 72 (.map (some M)) (.int .i64 k) v).run Tryd.prog w1 = .ok () (ChangeMaps.setBlock w1 M (.map es clock)) ∧ TonMap (ChangeMaps.setBlock w1 M (.map es clock)) base M (fun j => if j = k then l else G j) := by
 obtain ⟨es, clock, hrun, hmf⟩ := hF.put (P := Tryd.prog) Tryd.underlying72 Tryd.underlying3 k v
 have keep : ∀ b, b ≠ M → (ChangeMaps.setBlock w1 M (.map es clock)).heap[b]? = w1.heap[b]? := fun b hb => by
  simp [ChangeMaps.setBlock, show M ≠ b from fun e => hb e.symm]
 refine ⟨es, clock, hrun, fun b => if b < n then own b else k, _, hM, hmf, fun j hj => ?_, fun j u hj => ?_⟩
 ·
  replace hj : (if j = k then some v else F j) = none := hj
  show (if j = k then l else G j) = []
  by_cases e : j = k
  ·
   rw [if_pos e] at hj; cases hj
  ·
   rw [if_neg e] at hj ⊢; exact hF0 j hj
 ·
  replace hj : (if j = k then some v else F j) = some u := hj
  show Kd.S k38 38 _ base _ u (if j = k then l else G j)
  by_cases e : j = k
  ·
   subst e
   rw [if_pos rfl] at hj ⊢
   cases hj
   refine Kd.S_mono (Kd.S_step hv (fun b hb _ => keep b ?_)) (fun b hb => ?_)
   ·
    rcases hb with hb | hb
    ·
     exact hb.2
    ·
     omega
   ·
    rcases hb with hb | hb
    ·
     refine ⟨?_, hb.2⟩
     show (if b < n then own b else j) = j
     split
     ·
      exact hb.1
     ·
      rfl
    ·
     refine ⟨?_, by omega⟩
     show (if b < n then own b else j) = j
     rw [if_neg (by omega)]
  ·
   rw [if_neg e] at hj ⊢
   have hr := ho j e
   rw [hj] at hr
   refine Kd.S_mono (Kd.S_step hr (fun b hb _ => keep b hb.1.2)) (fun b hb => ⟨?_, hb.1.2⟩)
   show (if b < n then own b else k) = j
   rw [if_pos hb.2]; exact hb.1.1
theorem TonAt.bound {w : World} {base M : Nat} {own : Nat → Int} {v : Value} {l : List S38} {j : Int} (h : Kd.S k38 38 w base (fun b => own b = j ∧ b ≠ M) v l) : Kd.S k38 38 w base (fun b => (own b = j ∧ b ≠ M) ∧ b < w.heap.size) v l :=
 Kd.S_mono (Kd.S_bound h) (fun b hb => ⟨hb.1, hb.2.2.1⟩)
/-- An entry is put behind the row of key k: what the map then is. (n: the world ahead of all that was made since.) -/
theorem TonAt.append {w w1 w2 : World} {base M : Nat} {own : Nat → Int} {F : Int → Option Value} {G : Int → List S38} {k : Int} {v : Value} {l : List S38} (h : TonAt w base M own F G) (hb : Below w.heap.size w w1)
 (hg : w1.grownBy w2 ((F k).getD (.slice none 0 0)).ownBlock) (hv : Kd.S k38 38 w2 base (fun b => (own b = k ∧ b ≠ M) ∨ w.heap.size ≤ b) v l) :
 ∃ es clock, (Instr.mapUpdate 72 (.map (some M)) (.int .i64 k) v).run Tryd.prog w2 = .ok () (ChangeMaps.setBlock w2 M (.map es clock)) ∧ TonMap (ChangeMaps.setBlock w2 M (.map es clock)) base M (fun j => if j = k then l else G j) := by
 have hrow := (Kd.S_R (h.row k)).1
 refine TonAt.put (n := w.heap.size) h.1 h.2.1.lt ((h.2.1.move (hb.block _ h.2.1.lt)).move (hg.block _ (Nat.lt_of_lt_of_le h.2.1.lt hb.size) (fun e => (hrow M e.symm).2 rfl))) h.2.2.1 (fun j hj => ?_) hv
 refine Kd.S_grown (Kd.S_below (TonAt.bound (h.row j)) hb) hg (fun b hb e => ?_)
 exact hj (hb.1.1.symm.trans (hrow b e.symm).1)
theorem TonAt.elder {w w1 : World} {base M : Nat} {own : Nat → Int} {F : Int → Option Value} {G : Int → List S38} (h : TonAt w base M own F G) (hb : Below w.heap.size w w1) (k : Int) : Kd.S k38 38 w1 base (fun b => ((own b = k ∧ b ≠ M) ∨ w.heap.size ≤ b) ∧ ¬ w.heap.size ≤ b) ((F k).getD (.slice none 0 0)) (G k) :=
 Kd.S_mono (Kd.S_below (TonAt.bound (h.row k)) hb) (fun _ hb => ⟨.inl hb.1, by omega⟩)
theorem TonAt.ne {w : World} {base M : Nat} {own : Nat → Int} {F : Int → Option Value} {G : Int → List S38} (h : TonAt w base M own F G) (k : Int) : ∀ b, w.heap.size ≤ b → some b ≠ ((F k).getD (.slice none 0 0)).ownBlock :=
 fun b hb e => by have := Kd.S_lt (h.row k) b e.symm; omega
theorem cell_setBlock {w : World} {M : Nat} {o : Obj} {a : Addr} {v : Value} (h : w.cell? a = some v) (hne : a.block ≠ M) : (ChangeMaps.setBlock w M o).cell? a = some v := by
 have hb : (ChangeMaps.setBlock w M o).heap[a.block]? = w.heap[a.block]? := by simp [ChangeMaps.setBlock, show M ≠ a.block from fun e => hne e.symm]
 simpa [World.cell?, hb] using h

end Go.Proofs.YtmacedbpdhkagaaDoor.Pure
namespace Go.Proofs.YtmacedbpdhkagaaDoor.Pure
set_option linter.unusedVariables false
set_option linter.unusedSimpArgs false
open Go Go.RowKit Go.Proofs.YtmacedbpdhkagaaDoor.PFnTonaryFind Go.Proofs.YtmacedbpdhkagaaDoorW.PrintWords Go.Proofs.YtmacedbpdhkagaaDoorW.PrintLast Go.Proofs.YtmacedbpdhkagaaDoorW.PrintMore

theorem leq_run (P : Program) (t : TypeId) (a b : ByteArray) (w : World) : (binOp .leq t (.string a) (.string b)).run P w = .ok (.bool (Op.bytesLess a.toList b.toList || a.toList == b.toList)) w := by
 have : binOp .leq t (.string a) (.string b) = pure (.bool (Op.bytesLess a.toList b.toList || a.toList == b.toList)) := by simp [binOp, Op.stringOp]
 rw [this]; rfl
theorem rd_drop (L : List S38) (i : Nat) (hi : i < L.length) : L.drop i = rd_T38 L (i : Int) :: L.drop (i + 1) := by
 rw [List.drop_eq_getElem_cons hi]
 unfold rd_T38
 rw [Int.toNat_natCast, List.getD_eq_getElem?_getD, List.getElem?_eq_getElem hi]; rfl
theorem rd_ent (L : List S38) (i : Nat) (hi : i < L.length) : rd_T38 L (i : Int) ∈ L := by
 unfold rd_T38
 rw [Int.toNat_natCast, List.getD_eq_getElem?_getD, List.getElem?_eq_getElem hi]; exact List.getElem_mem hi
theorem rd_take (L : List S38) (i : Nat) (hi : i < L.length) : L.take (i + 1) = L.take i ++ [rd_T38 L (i : Int)] := by
 rw [List.take_succ_eq_append_getElem hi]
 unfold rd_T38
 rw [Int.toNat_natCast, List.getD_eq_getElem?_getD, List.getElem?_eq_getElem hi]; rfl
theorem prev_next (L : List S38) (i : Nat) : prevOf L (i + 1) = some (rd_T38 L (i : Int)) := by
 unfold prevOf
 rw [if_neg (by omega), show (((i + 1 : Nat) : Int) - 1) = (i : Int) by omega]
theorem filt_next (L : List S38) (i : Nat) (hi : i < L.length) (j : Int) : (if j = (rd_T38 L (i : Int)).f1 then (L.take i).filter (fun e => e.f1 == (rd_T38 L (i : Int)).f1) ++ [rd_T38 L (i : Int)] else (L.take i).filter (fun e => e.f1 == j)) = (L.take (i + 1)).filter (fun e => e.f1 == j) := by
 rw [rd_take L i hi, List.filter_append]
 by_cases h : j = (rd_T38 L (i : Int)).f1
 ·
  subst h
  rw [if_pos rfl]
  simp
 ·
  rw [if_neg h]
  have : ((rd_T38 L (i : Int)).f1 == j) = false := by rw [beq_eq_false_iff_ne]; exact fun e => h e.symm
  simp [this]
/-- What tonaryOf ends in: whether the list is a tonary, and then its map. -/
def TonRes (L : List S38) (R : Bool) (w : World) (e : Ending) (w' : World) : Prop :=
 ∃ p, e = .returned (.tuple #[.map p, .bool R]) ∧ (R = true → ∃ M, p = some M ∧ TonMap w' w.heap.size M (fun k => L.filter (fun e => e.f1 == k))) ∧ Below w.heap.size w w'
set_option maxHeartbeats 1000000 in
set_option maxRecDepth 100000 in
theorem impl_tonaryOf_calls (L : List S38) (A0 : Option Addr) (c0 : Nat) (w : World) (ht : MTab w) (hr0 : Kd.C k38 w A0 L.length L) (hc0 : L.length ≤ c0) (hz : ∀ e ∈ L, e.f0.size ≤ 9000000000000000 ∧ e.f2.length ≤ 1000000000000) :
 Calls Tryd.prog 52 #[.slice A0 L.length c0] w (TonRes L (tonOk L) w) := by
 have hu1 := Tryd.underlying38
 have HT := Z_.mk ht
 have HR0 := Z_.mk hr0
 have HC0 := Z_.mk hc0
 have HZ := Z_.mk hz
 clear ht hr0 hc0 hz
 by_cases hbig : (L.length : Int) > 20
 ·
  have d0 : decide (20 < (L.length : Int)) = true := decide_eq_true hbig
  have d0' : decide (20 < L.length) = true := decide_eq_true (by omega)
  have e : tonOk L = false := by unfold tonOk; rw [decide_eq_false (by omega), Bool.false_and]
  rw [e]
  clear hbig e
  go_enter Tryd.func52, Tryd.ntmps52
  go_wp2
  go_ret2
  exact ⟨none, rfl, (fun h => by cases h), Below.refl _ _⟩
 have d0 : decide (20 < (L.length : Int)) = false := decide_eq_false hbig
 have d0' : decide (20 < L.length) = false := decide_eq_false (by omega)
 have hL : L.length ≤ 20 := by omega
 have hok : tonOk L = tOkFrom none L := by unfold tonOk; rw [decide_eq_true hL, Bool.true_and]
 obtain ⟨R, hR⟩ : ∃ R, R = tonOk L := ⟨_, rfl⟩
 have HOK := Z_.mk (hR.trans hok)
 rw [← hR]
 clear hbig hok hR
 have hmm := @run_makeMap Tryd.prog
 go_enter Tryd.func52, Tryd.ntmps52
 go_upto_region 4 with fail
 obtain ⟨M, hM⟩ : ∃ M, M = w.heap.size := ⟨_, rfl⟩
 have HM := Z_.mk hM
 have HB0 : Z_ (Below w.heap.size w (w.alloc (.map #[] 0))) := ⟨zc_ (Below.refl _ _) _⟩
 have HT0 : Z_ (TonMap (w.alloc (.map #[] 0)) w.heap.size M (fun k => (L.take 0).filter (fun e => e.f1 == k))) := ⟨(TonMap.made (by omega) (by rw [hM]; exact blk_new w _)).cong (fun _ => by simp)⟩
 rw [← hM]
 generalize w.alloc (.map #[] 0) = w0 at HB0 HT0 ⊢
 clear hmm hM
 go_wp2
 go_loopg [13] L.length (fun kq v13 w' => ∃ i : Nat, v13 = .int .i64 (i : Int) ∧ Z_ (kq = L.length - i ∧ i ≤ L.length ∧ tOkFrom (prevOf L i) (L.drop i) = R) ∧ Z_ (TonMap w' w.heap.size M (fun k => (L.take i).filter (fun e => e.f1 == k))) ∧ Z_ (Below w.heap.size w w'))
 case atStart => exact ⟨0, rfl, ⟨rfl, Nat.zero_le _, HOK.out.symm⟩, HT0, HB0⟩
 case round =>
  clear HB0 HT0
  obtain ⟨i, rfl, HX, HTM, HB⟩ := hrel
  by_cases hi : (i : Int) < (L.length : Int)
  ·
   have d1 : decide ((i : Int) < (L.length : Int)) = true := decide_eq_true hi
   have d1' : decide (i < L.length) = true := decide_eq_true (by omega)
   have p0 : (0 : Int) ≤ (i : Int) := by omega
   have q0 := eq_true p0
   have q1 := eq_true hi
   have q2 := eq_true (show i < L.length by omega)
   obtain ⟨ad, A2, c2, e0, ux0, ux1, ux2, hl2, hg2⟩ := at_T38 (Kd.C_below HR0.out HB.out) (i : Int) p0 hi
   subst e0
   obtain ⟨e, he⟩ : ∃ e, e = rd_T38 L (i : Int) := ⟨_, rfl⟩
   rw [← he] at ux0 ux1 ux2 hl2 hg2
   simp only [Int.toNat_natCast] at ux0 ux1 ux2
   have HG2 := Z_.mk hg2
   have HL2 := Z_.mk hl2
   have HE := Z_.mk he
   have HZE := Z_.mk (HZ.out e (by rw [he]; exact rd_ent L i (by omega)))
   have hfl : e.f2.length ≤ 1000000000000 := HZE.out.2
   obtain ⟨kv, hkv⟩ := Ev.rounds (impl_Entry_valid_ev e (by have := HZE.out.1; omega))
   have HKV := Z_.mk hkv
   have NX : Z_ (i < L.length) := ⟨by omega⟩
   obtain ⟨own, F, hTA⟩ := HTM.out
   have HTA0 := Z_.mk hTA
   clear hTA
   have HW := Z_.mk (w64 (x := (i : Int) + 1) (by omega) (by omega))
   clear hg2 hl2 he hkv
   go_upto_region 7 with (first
    | ((with_reducible refine zr_ (N := 6) rfl ?_); refine box_event ?hg (N := 6) ?hd (cs := #[.string ⟨#[]⟩, .int .i64 0, .slice none 0 0]) (t := 38) ?hr ?_; (case hd => rfl); (case hg => rfl); (case hr => first | (go_simp; done) | (go_simp; rfl)); intro g6 hg w6 hbox hb; have HK6 := Z_.mk hbox; have HB6 := Z_.mk hb; have N6 := Z_.mk (show wr.heap.size ≤ g6 from (by rw [hg]; exact Nat.le_refl _)); have cz0 : w6.cell? ⟨g6, 0, none⟩ = some (.string ⟨#[]⟩) := (zg_ HK6.out 0).trans rfl; have cz1 : w6.cell? ⟨g6, 1, none⟩ = some (.int .i64 0) := (zg_ HK6.out 1).trans rfl; have cz2 : w6.cell? ⟨g6, 2, none⟩ = some (.slice none 0 0) := (zg_ HK6.out 2).trans rfl; have fz0 := zi_ HK6.out 0; have fz1 := zi_ HK6.out 1; have fz2 := zi_ HK6.out 2; clear hg hbox hb))
   have W6 : Z_ ((((w6.setCell ⟨g6, 0, none⟩ (.string e.f0)).setCell ⟨g6, 1, none⟩ (.int .i64 e.f1)).setCell ⟨g6, 2, none⟩ (.slice A2 e.f2.length c2)).heap[g6]? = some (.cells #[.string e.f0, .int .i64 e.f1, .slice A2 e.f2.length c2] 38 (0, 0))) := ⟨blk_put (cs := #[.string e.f0, .int .i64 e.f1, .slice none 0 0]) (blk_put (cs := #[.string e.f0, .int .i64 0, .slice none 0 0]) (blk_put (cs := #[.string ⟨#[]⟩, .int .i64 0, .slice none 0 0]) HK6.out 0 _ rfl) 1 _ rfl) 2 _ rfl⟩
   have HB7 : Z_ (Below wr.heap.size wr (((w6.setCell ⟨g6, 0, none⟩ (.string e.f0)).setCell ⟨g6, 1, none⟩ (.int .i64 e.f1)).setCell ⟨g6, 2, none⟩ (.slice A2 e.f2.length c2))) := ⟨zd_ (zd_ (zd_ HB6.out N6.out) N6.out) N6.out⟩
   clear HK6 HB6 cz0 cz1 cz2 fz0 fz1 fz2 ux0 ux1 ux2
   generalize (((w6.setCell ⟨g6, 0, none⟩ (.string e.f0)).setCell ⟨g6, 1, none⟩ (.int .i64 e.f1)).setCell ⟨g6, 2, none⟩ (.slice A2 e.f2.length c2)) = w7 at W6 HB7 ⊢
   have y0 : w7.cell? ⟨g6, 0, none⟩ = some (.string e.f0) := (zg_ W6.out 0).trans rfl
   have y1 : w7.cell? ⟨g6, 1, none⟩ = some (.int .i64 e.f1) := (zg_ W6.out 1).trans rfl
   have y2 : w7.cell? ⟨g6, 2, none⟩ = some (.slice A2 e.f2.length c2) := (zg_ W6.out 2).trans rfl
   cases hve : entOk e
   ·
    have hRf : R = false := by
     have := HX.out.2.2
     rw [rd_drop L i NX.out, ← HE.out] at this
     rw [← this]
     cases prevOf L i <;> (simp only [tOkFrom]; rw [hve]; rfl)
    subst hRf
    rw [hve] at HKV
    clear hve
    go_wp2_with (go_at_call 73; refine (impl_Entry_valid.calls kv e.f0 e.f1 A2 c2 e.f2 false _ (HT.out.below (ze_ HB.out HB7.out)) (Kd.C_below HG2.out HB7.out) HL2.out HKV.out).mono ?_; rintro e_ w8 ⟨rfl, hb8⟩; have HB8 := Z_.mk (ze_ (ze_ HB.out HB7.out) hb8); clear hb8)
    go_ret2
    exact ⟨none, rfl, (fun h => by cases h), HB8.out⟩
   rw [hve] at HKV
   have HVE := Z_.mk hve
   clear hve
   go_upto_region 9 with (first
    | (go_at_call 73; refine (impl_Entry_valid.calls kv e.f0 e.f1 A2 c2 e.f2 true _ (HT.out.below (ze_ HB.out HB7.out)) (Kd.C_below HG2.out HB7.out) HL2.out HKV.out).mono ?_; rintro e_ w8 ⟨rfl, hb8⟩; have HB8 := Z_.mk (ze_ HB7.out hb8); have W8 := Z_.mk (zq_ W6.out hb8); clear hb8))
   have HB9 := Z_.mk (ze_ HB.out HB8.out)
   have HTA8 := Z_.mk (HTA0.out.below HB8.out)
   have NE6 := Z_.mk (HTA0.out.ne e.f1 g6 N6.out)
   have NM6 : Z_ (g6 ≠ M) := ⟨by have h1 := HTA0.out.2.1.lt; have h2 := N6.out; omega⟩
   have HG8 := Z_.mk (Kd.C_below HG2.out HB8.out)
   have HR8 := Z_.mk (Kd.C_below HR0.out HB9.out)
   clear y0 y1 y2 W6 HB7 HB8 HTM HG2 HTA0 N6
   have y0 : w8.cell? ⟨g6, 0, none⟩ = some (.string e.f0) := (zg_ W8.out 0).trans rfl
   have y1 : w8.cell? ⟨g6, 1, none⟩ = some (.int .i64 e.f1) := (zg_ W8.out 1).trans rfl
   by_cases h0 : i = 0
   ·
    subst h0
    have tok : Z_ (tOkFrom (some e) (L.drop 1) = R) := ⟨by
     have := HX.out.2.2
     rw [rd_drop L 0 NX.out, ← HE.out] at this
     rw [← this]
     show _ = tOkFrom (prevOf L 0) (e :: L.drop (0 + 1))
     rw [show prevOf L 0 = none from rfl]
     simp only [tOkFrom]
     rw [HVE.out, Bool.true_and]⟩
    go_quiet (fail)
    have HBt := Z_.mk (za_ HB9.out nq)
    have HTA := Z_.mk (show TonAt (w8.drewN nq) w.heap.size M own F (fun k => (L.take 0).filter (fun e => e.f1 == k)) from HTA8.out.below (za_ (Below.refl _ _) _))
    have HGt := Z_.mk (show Kd.C k90 (w8.drewN nq) A2 e.f2.length e.f2 from HG8.out)
    have Wt := Z_.mk (show (w8.drewN nq).heap[g6]? = some (.cells #[.string e.f0, .int .i64 e.f1, .slice A2 e.f2.length c2] 38 (0, 0)) from W8.out)
    clear y0 y1 W8 HB9 HTA8 HG8 HR8
    try clear z0 z1
    generalize (w8.drewN nq) = w9 at HBt HTA HGt Wt ⊢
    obtain ⟨v0, hv0⟩ : ∃ v0, v0 = (F e.f1).getD (.slice none 0 0) := ⟨_, rfl⟩
    have HV0 := Z_.mk hv0
    rw [← hv0] at NE6
    clear hv0
    have lkA : (Instr.lookup 72 (.map (some M)) (.int .i64 e.f1) false).run Tryd.prog w9.drew = .ok v0 w9.drew := by rw [HV0.out]; exact (HTA.out.below (zb_ (Below.refl _ _))).look e.f1
    have y0 : w9.drew.cell? ⟨g6, 0, none⟩ = some (.string e.f0) := (zg_ Wt.out 0).trans rfl
    have y1 : w9.drew.cell? ⟨g6, 1, none⟩ = some (.int .i64 e.f1) := (zg_ Wt.out 1).trans rfl
    have y2 : w9.drew.cell? ⟨g6, 2, none⟩ = some (.slice A2 e.f2.length c2) := (zg_ Wt.out 2).trans rfl
    have HCP := Z_.mk (show impl_Entry_copied.f e.f0 e.f1 e.f2 = some (e.f0, e.f1, e.f2) by unfold impl_Entry_copied.f impl_copiedTones.f; rw [if_pos hfl]; rfl)
    have HGD := Z_.mk (show Kd.C k90 w9.drew A2 e.f2.length e.f2 from HGt.out)
    have HLL : (L.take 0).length ≤ 20 := by rw [List.length_take]; omega
    obtain ⟨X, hX⟩ : ∃ X, X = (L.take 0).filter (fun x => x.f1 == e.f1) := ⟨_, rfl⟩
    have hXl : X.length ≤ 20 := by rw [hX]; exact Nat.le_trans (List.length_filter_le _ _) HLL
    have HXX := Z_.mk hX
    clear hX HLL
    go_upto_region 11 with fail
    go_region_held3 (fun w' => w'.cell? ⟨g6, 0, none⟩ = some (.string e.f0) ∧ w'.cell? ⟨g6, 1, none⟩ = some (.int .i64 e.f1) ∧ w'.cell? ⟨g6, 2, none⟩ = some (.slice A2 e.f2.length c2))
     (first
      | exact ⟨y0, y1, y2⟩
      | go_keep
      | exact ⟨zl_ hb12 y0, zl_ hb12 y1, zl_ hb12 y2⟩
      | exact ⟨cell_grown hg13 (zl_ hb12 y0) NE6.out, cell_grown hg13 (zl_ hb12 y1) NE6.out, cell_grown hg13 (zl_ hb12 y2) NE6.out⟩
      | exact ⟨cell_setBlock (cell_grown hg13 (zl_ hb12 y0) NE6.out) NM6.out, cell_setBlock (cell_grown hg13 (zl_ hb12 y1) NE6.out) NM6.out, cell_setBlock (cell_grown hg13 (zl_ hb12 y2) NE6.out) NM6.out⟩
      | fail)
     (first
      | (go_at_call 55; (with_reducible refine (impl_Entry_copied.calls e.f0 e.f1 A2 c2 e.f2 e.f0 e.f1 e.f2 w9.drew HGD.out HL2.out HCP.out).mono ?_); rintro e_ w12 ⟨v2, rfl, ho2, hb12⟩; obtain ⟨Av, cv, rfl⟩ := Kd.R_slice ho2; have hbW : Below w9.heap.size w9 w12 := ze_ (zb_ (Below.refl _ _)) hb12; have lkB := (HTA.out.below hbW).look e.f1; rw [← HV0.out] at lkB; have lkC := (HTA.out.below (ze_ hbW (zc_ (Below.refl _ _) (.cells #[.string e.f0, .int .i64 e.f1, .slice Av e.f2.length cv] 38 (0, 0))))).look e.f1; rw [← HV0.out] at lkC; have HM2 := Z_.mk (k38_mkM w12 w.heap.size (fun b => w9.heap.size ≤ b) e (Kd.R_lower (Kd.R_mono (Kd.R_bound ho2) (fun b hb => hb.2.1)) HBt.out.size)); have HO12 := Z_.mk (show Kd.S k38 38 w12 w.heap.size (fun b => ((own b = e.f1 ∧ b ≠ M) ∨ w9.heap.size ≤ b) ∧ ¬ w9.heap.size ≤ b) v0 X by (rw [HV0.out, HXX.out]; exact HTA.out.elder hbW e.f1)); have HBW := Z_.mk hbW; clear ho2 hbW)
      | (refine Kd.S_append_step k38 (w0 := w) (W := w12) w.heap.size (by rfl) (.tmp 62) (.tmp 65) 24 38 (.agg #[.string ⟨#[]⟩, .int .i64 0, .slice none 0 0]) 48 (by rfl) Tryd.underlying24 info38 rfl (by decide) (by omega) v0 X e [.string e.f0, .int .i64 e.f1, .slice Av e.f2.length cv] (fun b => (own b = e.f1 ∧ b ≠ M) ∨ w9.heap.size ≤ b) (fun b => w9.heap.size ≤ b) (by rfl) (by rfl) HM2.out (fun b hb => ⟨.inr hb, by rw [HV0.out]; exact HTA.out.ne e.f1 b hb⟩) (fun b hb => .inr (Nat.le_trans HBW.out.size hb)) HO12.out (ze_ HBt.out HBW.out) (ze_ HBt.out HBW.out).size (by omega) ?_; intro v13 w13 ho13 hb13 hg13 _; obtain ⟨es, clk, hput, hmap⟩ := TonAt.append HTA.out HBW.out (by rw [← HV0.out]; exact hg13) ho13; have HMAP := Z_.mk hmap; have HB13 := Z_.mk hb13; clear hmap hb13 ho13)
      | fail)
    all_goals
     have HBE := Z_.mk (below_setBlock HB13.out (show w.heap.size ≤ M by rw [HM.out]; exact Nat.le_refl _) (o := .map es clk))
     have HMX := Z_.mk (HMAP.out.cong (G' := fun k => (L.take 1).filter (fun e => e.f1 == k)) (fun j => by rw [HXX.out, HE.out]; exact filt_next L 0 NX.out j))
     have NX2 : Z_ (L.length - 1 < gk ∧ 1 ≤ L.length ∧ tOkFrom (prevOf L 1) (L.drop 1) = R) := ⟨by have h1 := HX.out.1; have h2 := NX.out; omega, NX.out, by rw [show prevOf L 1 = some e by rw [HE.out]; exact prev_next L 0]; exact tok.out⟩
     clear HB13 HMAP hput hg13 hb12
     generalize ChangeMaps.setBlock w13 M (.map es clk) = w14 at HBE HMX ⊢
     go_wp2
     go_roundg (L.length - 1)
     case measure => exact NX2.out.1
     case rel => exact ⟨1, by first | rfl | (rw [HW.out]; rfl), ⟨rfl, NX2.out.2.1, NX2.out.2.2⟩, HMX, HBE⟩
   have g0 : decide (0 < (i : Int)) = true := decide_eq_true (by omega)
   have g0' : decide (0 < i) = true := decide_eq_true (by omega)
   have gi : (0 : Int) < (i : Int) := by omega
   obtain ⟨pd, A3, c3, e1, vx0, vx1, vx2, _, _⟩ := at_T38 HR8.out ((i : Int) - 1) (by omega) (by omega)
   injection e1 with e1
   subst e1
   obtain ⟨p, hp⟩ : ∃ p, p = rd_T38 L ((i : Int) - 1) := ⟨_, rfl⟩
   rw [← hp] at vx0 vx1
   have HP := Z_.mk (show prevOf L i = some p by unfold prevOf; rw [if_neg h0, hp])
   rw [show ((i : Int) - 1).toNat = i - 1 by omega] at vx0 vx1
   have z0 : w8.cell? (ad.add ((i - 1) * 3)) = some (.string p.f0) := vx0
   have z1 : w8.cell? ⟨(ad.add ((i - 1) * 3)).block, (ad.add ((i - 1) * 3)).off + 1, none⟩ = some (.int .i64 p.f1) := vx1
   have r1 := eq_true (show (1 : Int) ≤ (i : Int) by omega)
   have r1' := eq_true (show 1 ≤ i by omega)
   have r2 := eq_true (show (i : Int) - 1 < (L.length : Int) by omega)
   have r3 : IntKind.i64.wrap ((i : Int) - 1) = (i : Int) - 1 := by rw [Go.IntKind.wrap_i64]; omega
   have tok : Z_ ((befE p e && tOkFrom (some e) (L.drop (i + 1))) = R) := ⟨by
    have := HX.out.2.2
    rw [rd_drop L i NX.out, ← HE.out, HP.out] at this
    rw [← this]
    simp only [tOkFrom]
    rw [HVE.out, Bool.true_and]⟩
   clear hp vx0 vx1 vx2 h0
   by_cases h1 : e.f1 < p.f1
   ·
    have t1 : decide (e.f1 < p.f1) = true := decide_eq_true h1
    have hb : befE p e = false := by unfold befE; rw [if_neg (by omega), if_neg (by omega)]
    rw [hb, Bool.false_and] at tok
    have hRf := tok.out.symm
    subst hRf
    clear h1 hb
    go_quiet (fail)
    go_wp2
    go_ret2
    exact ⟨none, rfl, (fun h => by cases h), za_ HB9.out _⟩
   have t1 : decide (e.f1 < p.f1) = false := decide_eq_false h1
   by_cases h2 : e.f1 = p.f1
   ·
    have t2 : (e.f1 == p.f1) = true := by rw [beq_iff_eq]; exact h2
    have hb : befE p e = nmLt p.f0 e.f0 := by unfold befE; rw [if_neg (by omega), if_pos h2.symm]
    rw [hb] at tok
    have t3 := nmLt_tot e.f0 p.f0
    cases hA : Op.bytesLess e.f0.toList p.f0.toList
    ·
     cases hB : (e.f0.toList == p.f0.toList)
     ·
      rw [hA, hB] at t3
      have hn : nmLt p.f0 e.f0 = true := by cases h : nmLt p.f0 e.f0 <;> rw [h] at t3 <;> simp at t3 ⊢
      rw [hn] at tok
      have tok : Z_ (tOkFrom (some e) (L.drop (i + 1)) = R) := ⟨by have := tok.out; rw [Bool.true_and] at this; exact this⟩
      have hle : ∀ w, (binOp .leq 9 (.string e.f0) (.string p.f0)).run Tryd.prog w = .ok (.bool false) w := fun w => by rw [leq_run, hA, hB]; rfl
      clear h1 h2 hb hn t3 hA hB
      go_quiet (fail)
      have HBt := Z_.mk (za_ HB9.out nq)
      have HTA := Z_.mk (show TonAt (w8.drewN nq) w.heap.size M own F (fun k => (L.take i).filter (fun e => e.f1 == k)) from HTA8.out.below (za_ (Below.refl _ _) _))
      have HGt := Z_.mk (show Kd.C k90 (w8.drewN nq) A2 e.f2.length e.f2 from HG8.out)
      have Wt := Z_.mk (show (w8.drewN nq).heap[g6]? = some (.cells #[.string e.f0, .int .i64 e.f1, .slice A2 e.f2.length c2] 38 (0, 0)) from W8.out)
      clear y0 y1 W8 HB9 HTA8 HG8 HR8
      try clear z0 z1
      generalize (w8.drewN nq) = w9 at HBt HTA HGt Wt ⊢
      obtain ⟨v0, hv0⟩ : ∃ v0, v0 = (F e.f1).getD (.slice none 0 0) := ⟨_, rfl⟩
      have HV0 := Z_.mk hv0
      rw [← hv0] at NE6
      clear hv0
      have lkA : (Instr.lookup 72 (.map (some M)) (.int .i64 e.f1) false).run Tryd.prog w9.drew = .ok v0 w9.drew := by rw [HV0.out]; exact (HTA.out.below (zb_ (Below.refl _ _))).look e.f1
      have y0 : w9.drew.cell? ⟨g6, 0, none⟩ = some (.string e.f0) := (zg_ Wt.out 0).trans rfl
      have y1 : w9.drew.cell? ⟨g6, 1, none⟩ = some (.int .i64 e.f1) := (zg_ Wt.out 1).trans rfl
      have y2 : w9.drew.cell? ⟨g6, 2, none⟩ = some (.slice A2 e.f2.length c2) := (zg_ Wt.out 2).trans rfl
      have HCP := Z_.mk (show impl_Entry_copied.f e.f0 e.f1 e.f2 = some (e.f0, e.f1, e.f2) by unfold impl_Entry_copied.f impl_copiedTones.f; rw [if_pos hfl]; rfl)
      have HGD := Z_.mk (show Kd.C k90 w9.drew A2 e.f2.length e.f2 from HGt.out)
      have HLL : (L.take i).length ≤ 20 := by rw [List.length_take]; omega
      obtain ⟨X, hX⟩ : ∃ X, X = (L.take i).filter (fun x => x.f1 == e.f1) := ⟨_, rfl⟩
      have hXl : X.length ≤ 20 := by rw [hX]; exact Nat.le_trans (List.length_filter_le _ _) HLL
      have HXX := Z_.mk hX
      clear hX HLL
      go_upto_region 11 with fail
      go_region_held3 (fun w' => w'.cell? ⟨g6, 0, none⟩ = some (.string e.f0) ∧ w'.cell? ⟨g6, 1, none⟩ = some (.int .i64 e.f1) ∧ w'.cell? ⟨g6, 2, none⟩ = some (.slice A2 e.f2.length c2))
       (first
        | exact ⟨y0, y1, y2⟩
        | go_keep
        | exact ⟨zl_ hb12 y0, zl_ hb12 y1, zl_ hb12 y2⟩
        | exact ⟨cell_grown hg13 (zl_ hb12 y0) NE6.out, cell_grown hg13 (zl_ hb12 y1) NE6.out, cell_grown hg13 (zl_ hb12 y2) NE6.out⟩
        | exact ⟨cell_setBlock (cell_grown hg13 (zl_ hb12 y0) NE6.out) NM6.out, cell_setBlock (cell_grown hg13 (zl_ hb12 y1) NE6.out) NM6.out, cell_setBlock (cell_grown hg13 (zl_ hb12 y2) NE6.out) NM6.out⟩
        | fail)
       (first
        | (go_at_call 55; (with_reducible refine (impl_Entry_copied.calls e.f0 e.f1 A2 c2 e.f2 e.f0 e.f1 e.f2 w9.drew HGD.out HL2.out HCP.out).mono ?_); rintro e_ w12 ⟨v2, rfl, ho2, hb12⟩; obtain ⟨Av, cv, rfl⟩ := Kd.R_slice ho2; have hbW : Below w9.heap.size w9 w12 := ze_ (zb_ (Below.refl _ _)) hb12; have lkB := (HTA.out.below hbW).look e.f1; rw [← HV0.out] at lkB; have lkC := (HTA.out.below (ze_ hbW (zc_ (Below.refl _ _) (.cells #[.string e.f0, .int .i64 e.f1, .slice Av e.f2.length cv] 38 (0, 0))))).look e.f1; rw [← HV0.out] at lkC; have HM2 := Z_.mk (k38_mkM w12 w.heap.size (fun b => w9.heap.size ≤ b) e (Kd.R_lower (Kd.R_mono (Kd.R_bound ho2) (fun b hb => hb.2.1)) HBt.out.size)); have HO12 := Z_.mk (show Kd.S k38 38 w12 w.heap.size (fun b => ((own b = e.f1 ∧ b ≠ M) ∨ w9.heap.size ≤ b) ∧ ¬ w9.heap.size ≤ b) v0 X by (rw [HV0.out, HXX.out]; exact HTA.out.elder hbW e.f1)); have HBW := Z_.mk hbW; clear ho2 hbW)
        | (refine Kd.S_append_step k38 (w0 := w) (W := w12) w.heap.size (by rfl) (.tmp 62) (.tmp 65) 24 38 (.agg #[.string ⟨#[]⟩, .int .i64 0, .slice none 0 0]) 48 (by rfl) Tryd.underlying24 info38 rfl (by decide) (by omega) v0 X e [.string e.f0, .int .i64 e.f1, .slice Av e.f2.length cv] (fun b => (own b = e.f1 ∧ b ≠ M) ∨ w9.heap.size ≤ b) (fun b => w9.heap.size ≤ b) (by rfl) (by rfl) HM2.out (fun b hb => ⟨.inr hb, by rw [HV0.out]; exact HTA.out.ne e.f1 b hb⟩) (fun b hb => .inr (Nat.le_trans HBW.out.size hb)) HO12.out (ze_ HBt.out HBW.out) (ze_ HBt.out HBW.out).size (by omega) ?_; intro v13 w13 ho13 hb13 hg13 _; obtain ⟨es, clk, hput, hmap⟩ := TonAt.append HTA.out HBW.out (by rw [← HV0.out]; exact hg13) ho13; have HMAP := Z_.mk hmap; have HB13 := Z_.mk hb13; clear hmap hb13 ho13)
        | fail)
      all_goals
       have HBE := Z_.mk (below_setBlock HB13.out (show w.heap.size ≤ M by rw [HM.out]; exact Nat.le_refl _) (o := .map es clk))
       have HMX := Z_.mk (HMAP.out.cong (G' := fun k => (L.take (i + 1)).filter (fun e => e.f1 == k)) (fun j => by rw [HXX.out, HE.out]; exact filt_next L i NX.out j))
       have NX2 : Z_ (L.length - (i + 1) < gk ∧ (i + 1) ≤ L.length ∧ tOkFrom (prevOf L (i + 1)) (L.drop (i + 1)) = R) := ⟨by have h1 := HX.out.1; have h2 := NX.out; omega, NX.out, by rw [show prevOf L (i + 1) = some e by rw [HE.out]; exact prev_next L i]; exact tok.out⟩
       clear HB13 HMAP hput hg13 hb12
       generalize ChangeMaps.setBlock w13 M (.map es clk) = w14 at HBE HMX ⊢
       go_wp2
       go_roundg (L.length - (i + 1))
       case measure => exact NX2.out.1
       case rel => exact ⟨(i + 1), by first | rfl | (rw [HW.out]; rfl), ⟨rfl, NX2.out.2.1, NX2.out.2.2⟩, HMX, HBE⟩
     ·
      rw [hA, hB] at t3
      have hn : nmLt p.f0 e.f0 = false := by cases h : nmLt p.f0 e.f0 <;> rw [h] at t3 <;> simp at t3 ⊢
      have hRf : R = false := by have := tok.out; rw [hn, Bool.false_and] at this; exact this.symm
      subst hRf
      have hle : ∀ w, (binOp .leq 9 (.string e.f0) (.string p.f0)).run Tryd.prog w = .ok (.bool true) w := fun w => by rw [leq_run, hA, hB]; rfl
      clear h1 h2 hb hn t3 hA hB
      go_quiet (fail)
      go_wp2
      go_ret2
      exact ⟨none, rfl, (fun h => by cases h), za_ HB9.out _⟩
    ·
     rw [hA] at t3
     have hn : nmLt p.f0 e.f0 = false := by cases h : nmLt p.f0 e.f0 <;> rw [h] at t3 <;> simp at t3 ⊢
     have hRf : R = false := by have := tok.out; rw [hn, Bool.false_and] at this; exact this.symm
     subst hRf
     have hle : ∀ w, (binOp .leq 9 (.string e.f0) (.string p.f0)).run Tryd.prog w = .ok (.bool true) w := fun w => by rw [leq_run, hA]; rfl
     clear h1 h2 hb hn t3 hA
     go_quiet (fail)
     go_wp2
     go_ret2
     exact ⟨none, rfl, (fun h => by cases h), za_ HB9.out _⟩
   ·
    have t2 : (e.f1 == p.f1) = false := by rw [beq_eq_false_iff_ne]; exact h2
    have hb : befE p e = true := by unfold befE; rw [if_pos (by omega)]
    rw [hb] at tok
    have tok : Z_ (tOkFrom (some e) (L.drop (i + 1)) = R) := ⟨by have := tok.out; rw [Bool.true_and] at this; exact this⟩
    clear h1 h2 hb
    go_quiet (fail)
    have HBt := Z_.mk (za_ HB9.out nq)
    have HTA := Z_.mk (show TonAt (w8.drewN nq) w.heap.size M own F (fun k => (L.take i).filter (fun e => e.f1 == k)) from HTA8.out.below (za_ (Below.refl _ _) _))
    have HGt := Z_.mk (show Kd.C k90 (w8.drewN nq) A2 e.f2.length e.f2 from HG8.out)
    have Wt := Z_.mk (show (w8.drewN nq).heap[g6]? = some (.cells #[.string e.f0, .int .i64 e.f1, .slice A2 e.f2.length c2] 38 (0, 0)) from W8.out)
    clear y0 y1 W8 HB9 HTA8 HG8 HR8
    try clear z0 z1
    generalize (w8.drewN nq) = w9 at HBt HTA HGt Wt ⊢
    obtain ⟨v0, hv0⟩ : ∃ v0, v0 = (F e.f1).getD (.slice none 0 0) := ⟨_, rfl⟩
    have HV0 := Z_.mk hv0
    rw [← hv0] at NE6
    clear hv0
    have lkA : (Instr.lookup 72 (.map (some M)) (.int .i64 e.f1) false).run Tryd.prog w9.drew = .ok v0 w9.drew := by rw [HV0.out]; exact (HTA.out.below (zb_ (Below.refl _ _))).look e.f1
    have y0 : w9.drew.cell? ⟨g6, 0, none⟩ = some (.string e.f0) := (zg_ Wt.out 0).trans rfl
    have y1 : w9.drew.cell? ⟨g6, 1, none⟩ = some (.int .i64 e.f1) := (zg_ Wt.out 1).trans rfl
    have y2 : w9.drew.cell? ⟨g6, 2, none⟩ = some (.slice A2 e.f2.length c2) := (zg_ Wt.out 2).trans rfl
    have HCP := Z_.mk (show impl_Entry_copied.f e.f0 e.f1 e.f2 = some (e.f0, e.f1, e.f2) by unfold impl_Entry_copied.f impl_copiedTones.f; rw [if_pos hfl]; rfl)
    have HGD := Z_.mk (show Kd.C k90 w9.drew A2 e.f2.length e.f2 from HGt.out)
    have HLL : (L.take i).length ≤ 20 := by rw [List.length_take]; omega
    obtain ⟨X, hX⟩ : ∃ X, X = (L.take i).filter (fun x => x.f1 == e.f1) := ⟨_, rfl⟩
    have hXl : X.length ≤ 20 := by rw [hX]; exact Nat.le_trans (List.length_filter_le _ _) HLL
    have HXX := Z_.mk hX
    clear hX HLL
    go_upto_region 11 with fail
    go_region_held3 (fun w' => w'.cell? ⟨g6, 0, none⟩ = some (.string e.f0) ∧ w'.cell? ⟨g6, 1, none⟩ = some (.int .i64 e.f1) ∧ w'.cell? ⟨g6, 2, none⟩ = some (.slice A2 e.f2.length c2))
     (first
      | exact ⟨y0, y1, y2⟩
      | go_keep
      | exact ⟨zl_ hb12 y0, zl_ hb12 y1, zl_ hb12 y2⟩
      | exact ⟨cell_grown hg13 (zl_ hb12 y0) NE6.out, cell_grown hg13 (zl_ hb12 y1) NE6.out, cell_grown hg13 (zl_ hb12 y2) NE6.out⟩
      | exact ⟨cell_setBlock (cell_grown hg13 (zl_ hb12 y0) NE6.out) NM6.out, cell_setBlock (cell_grown hg13 (zl_ hb12 y1) NE6.out) NM6.out, cell_setBlock (cell_grown hg13 (zl_ hb12 y2) NE6.out) NM6.out⟩
      | fail)
     (first
      | (go_at_call 55; (with_reducible refine (impl_Entry_copied.calls e.f0 e.f1 A2 c2 e.f2 e.f0 e.f1 e.f2 w9.drew HGD.out HL2.out HCP.out).mono ?_); rintro e_ w12 ⟨v2, rfl, ho2, hb12⟩; obtain ⟨Av, cv, rfl⟩ := Kd.R_slice ho2; have hbW : Below w9.heap.size w9 w12 := ze_ (zb_ (Below.refl _ _)) hb12; have lkB := (HTA.out.below hbW).look e.f1; rw [← HV0.out] at lkB; have lkC := (HTA.out.below (ze_ hbW (zc_ (Below.refl _ _) (.cells #[.string e.f0, .int .i64 e.f1, .slice Av e.f2.length cv] 38 (0, 0))))).look e.f1; rw [← HV0.out] at lkC; have HM2 := Z_.mk (k38_mkM w12 w.heap.size (fun b => w9.heap.size ≤ b) e (Kd.R_lower (Kd.R_mono (Kd.R_bound ho2) (fun b hb => hb.2.1)) HBt.out.size)); have HO12 := Z_.mk (show Kd.S k38 38 w12 w.heap.size (fun b => ((own b = e.f1 ∧ b ≠ M) ∨ w9.heap.size ≤ b) ∧ ¬ w9.heap.size ≤ b) v0 X by (rw [HV0.out, HXX.out]; exact HTA.out.elder hbW e.f1)); have HBW := Z_.mk hbW; clear ho2 hbW)
      | (refine Kd.S_append_step k38 (w0 := w) (W := w12) w.heap.size (by rfl) (.tmp 62) (.tmp 65) 24 38 (.agg #[.string ⟨#[]⟩, .int .i64 0, .slice none 0 0]) 48 (by rfl) Tryd.underlying24 info38 rfl (by decide) (by omega) v0 X e [.string e.f0, .int .i64 e.f1, .slice Av e.f2.length cv] (fun b => (own b = e.f1 ∧ b ≠ M) ∨ w9.heap.size ≤ b) (fun b => w9.heap.size ≤ b) (by rfl) (by rfl) HM2.out (fun b hb => ⟨.inr hb, by rw [HV0.out]; exact HTA.out.ne e.f1 b hb⟩) (fun b hb => .inr (Nat.le_trans HBW.out.size hb)) HO12.out (ze_ HBt.out HBW.out) (ze_ HBt.out HBW.out).size (by omega) ?_; intro v13 w13 ho13 hb13 hg13 _; obtain ⟨es, clk, hput, hmap⟩ := TonAt.append HTA.out HBW.out (by rw [← HV0.out]; exact hg13) ho13; have HMAP := Z_.mk hmap; have HB13 := Z_.mk hb13; clear hmap hb13 ho13)
      | fail)
    all_goals
     have HBE := Z_.mk (below_setBlock HB13.out (show w.heap.size ≤ M by rw [HM.out]; exact Nat.le_refl _) (o := .map es clk))
     have HMX := Z_.mk (HMAP.out.cong (G' := fun k => (L.take (i + 1)).filter (fun e => e.f1 == k)) (fun j => by rw [HXX.out, HE.out]; exact filt_next L i NX.out j))
     have NX2 : Z_ (L.length - (i + 1) < gk ∧ (i + 1) ≤ L.length ∧ tOkFrom (prevOf L (i + 1)) (L.drop (i + 1)) = R) := ⟨by have h1 := HX.out.1; have h2 := NX.out; omega, NX.out, by rw [show prevOf L (i + 1) = some e by rw [HE.out]; exact prev_next L i]; exact tok.out⟩
     clear HB13 HMAP hput hg13 hb12
     generalize ChangeMaps.setBlock w13 M (.map es clk) = w14 at HBE HMX ⊢
     go_wp2
     go_roundg (L.length - (i + 1))
     case measure => exact NX2.out.1
     case rel => exact ⟨(i + 1), by first | rfl | (rw [HW.out]; rfl), ⟨rfl, NX2.out.2.1, NX2.out.2.2⟩, HMX, HBE⟩
  ·
   have d1 : decide ((i : Int) < (L.length : Int)) = false := decide_eq_false hi
   have d1' : decide (i < L.length) = false := decide_eq_false (by omega)
   have hiL : i = L.length := by have := HX.out.2.1; omega
   have hRt : R = true := by
    have := HX.out.2.2
    rw [hiL, List.drop_length] at this
    rw [← this]
    cases prevOf L L.length <;> rfl
   subst hRt
   have HF := Z_.mk (show TonMap wr w.heap.size M (fun k => L.filter (fun e => e.f1 == k)) from HTM.out.cong (fun k => by rw [hiL, List.take_length]))
   clear hi hiL
   go_wp2
   go_ret2
   exact ⟨some M, rfl, (fun _ => ⟨M, rfl, HF.out⟩), HB.out⟩

end Go.Proofs.YtmacedbpdhkagaaDoor.Pure
