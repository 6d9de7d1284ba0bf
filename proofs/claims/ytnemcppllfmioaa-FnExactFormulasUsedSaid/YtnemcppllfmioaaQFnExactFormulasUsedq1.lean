/- Lemmas on the printed functions for the law FnExactFormulasUsed. -/
import Derived.Test.YtnemcppllfmioaaQFnExactFormulasUsedq0
import Derived.Deep.RegionHeld3
import Derived.BigRegion
import Derived.Deep.Slices
import Derived.Laws.CopyOwn
namespace Go.Proofs.Ytnemcppllfmioaa.Pure
set_option linter.unusedVariables false
set_option linter.unusedSimpArgs false
open Go Go.RowKit Go.Proofs.Ytnemcppllfmioaa.PFnExactFormulasUsed Go.Proofs.YtnemcppllfmioaaW.PrintWords Go.Proofs.YtnemcppllfmioaaW.PrintLast Go.Proofs.YtnemcppllfmioaaW.PrintMore

/-! outcome.with -/
structure OutC where
  f0 : Int
  f1 : Int
  f2 : Int
def outW (o : OutC) (f : S55) (r : OutC) : OutC := if o.f0 > 0 then ⟨wrap64 (o.f0 + r.f0), mn (wrap64 (f.f1 + r.f1)) o.f1, mn (wrap64 (1 + r.f2)) o.f2⟩ else ⟨wrap64 (o.f0 + r.f0), wrap64 (f.f1 + r.f1), wrap64 (1 + r.f2)⟩
def outV (o : OutC) : Value := .agg #[.int .i64 o.f0, .int .i64 o.f1, .int .i64 o.f2]
attribute [local go_sem] max2_int min2_int max_two min_two max_three min_three max_four min_four
theorem first_of {a b : Int} {x : Bool} (h : decide (a < b) = x) : (a < b) = (x = true) := by subst h; simp
set_option maxHeartbeats 4000000 in
set_option maxRecDepth 100000 in
theorem impl_outcome_with_some (a b d fw x y z U V M N : Int) (A : Option Addr) (n c : Nat) (w : World) (h : 0 < a) (hU : IntKind.i64.wrap (fw + y) = U) (hV : IntKind.i64.wrap (1 + z) = V) (b1 b2 : Bool) (h1 : decide (b < U) = b1) (h2 : decide (d < V) = b2) (hM : M = if b1 then b else U) (hN : N = if b2 then d else V) :
    Calls Try.prog 106 #[.agg #[.int .i64 a, .int .i64 b, .int .i64 d], .agg #[.slice A n c, .int .i64 fw], .agg #[.int .i64 x, .int .i64 y, .int .i64 z]] w fun e w' => e = .returned (.agg #[.int .i64 (wrap64 (a + x)), .int .i64 M, .int .i64 N]) ∧ Below w.heap.size w w' := by
  have hu1 := Try.underlying109
  have hu2 := Try.underlying55
  have d1 : decide (0 < a) = true := decide_eq_true h
  have HU := Aside0.mk hU
  have HV := Aside0.mk hV
  clear h hU hV
  cases b1 <;> cases b2
  all_goals
    simp only [Bool.false_eq_true, if_false, if_true] at hM hN
    rw [hM, hN]
    have q1 := first_of h1
    have q2 := first_of h2
    simp only [Bool.false_eq_true, eq_self] at q1 q2
    clear hM hN h1 h2
    go_enter Try.func106, Try.ntmps106
    go_upto_region 1 with (first
      | ((with_reducible refine gate_dst (N := 3) rfl ?_); refine box_event ?hg (N := 3) ?hd (cs := #[.int .i64 a, .int .i64 b, .int .i64 d]) (t := 109) ?hr ?_; (case hd => rfl); (case hg => rfl); (case hr => first | (go_simp; done) | (go_simp; rfl)); intro g3 hg w3 hbox hb; have HB := Aside0.mk hb; have K3 := Aside0.mk hbox; have G3 := Aside0.mk (show w.heap.size ≤ g3 from (by rw [hg]; exact Nat.le_refl _)); clear hg hbox hb)
      | ((with_reducible refine gate_dst (N := 4) rfl ?_); refine box_event ?hg (N := 4) ?hd (cs := #[.slice A n c, .int .i64 fw]) (t := 55) ?hr ?_; (case hd => rfl); (case hg => rfl); (case hr => first | (go_simp; done) | (go_simp; rfl)); intro g4 hg w4 hbox hb; have K3' := Aside0.mk (blk_below K3.out hb); have K4 := Aside0.mk hbox; have HB' := Aside0.mk (below_step HB.out hb); have G4 := Aside0.mk (show w.heap.size ≤ g4 from (by rw [hg]; exact HB.out.size)); clear HB K3; clear hg hbox hb)
      | ((with_reducible refine gate_dst (N := 5) rfl ?_); refine box_event ?hg (N := 5) ?hd (cs := #[.int .i64 x, .int .i64 y, .int .i64 z]) (t := 109) ?hr ?_; (case hd => rfl); (case hg => rfl); (case hr => first | (go_simp; done) | (go_simp; rfl)); intro g5 hg w5 hbox hb; have K3'' := Aside0.mk (blk_below K3'.out hb); have K4' := Aside0.mk (blk_below K4.out hb); have K5 := Aside0.mk hbox; have HB'' := Aside0.mk (below_step HB'.out hb); have G5 := Aside0.mk (show w.heap.size ≤ g5 from (by rw [hg]; exact HB'.out.size)); clear HB' K3' K4; clear hg hbox hb)
      | ((with_reducible refine gate_dst (N := 6) rfl ?_); refine box_event ?hg (N := 6) ?hd (cs := #[.int .i64 0, .int .i64 0, .int .i64 0]) (t := 109) ?hr ?_; (case hd => rfl); (case hg => rfl); (case hr => first | (go_simp; done) | (go_simp; rfl)); intro g6 hg w6 hbox hb; have L3 := Aside0.mk (blk_below K3''.out hb); have L4 := Aside0.mk (blk_below K4'.out hb); have L5 := Aside0.mk (blk_below K5.out hb); have L6 := Aside0.mk hbox; have HB6 := Aside0.mk (below_step HB''.out hb); have G6 := Aside0.mk (show w.heap.size ≤ g6 from (by rw [hg]; exact HB''.out.size)); have N3 := Aside0.mk (show g6 ≠ g3 from (by rw [hg]; exact (Nat.ne_of_lt (blk_lt K3''.out)).symm)); have N4 := Aside0.mk (show g6 ≠ g4 from (by rw [hg]; exact (Nat.ne_of_lt (blk_lt K4'.out)).symm)); have N5 := Aside0.mk (show g6 ≠ g5 from (by rw [hg]; exact (Nat.ne_of_lt (blk_lt K5.out)).symm)); clear HB'' K3'' K4' K5; clear hg hbox hb))
    have c30 : w6.cell? ⟨g3, 0, none⟩ = some (.int .i64 a) := (blk_cell L3.out 0).trans rfl
    have c31 : w6.cell? ⟨g3, 1, none⟩ = some (.int .i64 b) := (blk_cell L3.out 1).trans rfl
    have c32 : w6.cell? ⟨g3, 2, none⟩ = some (.int .i64 d) := (blk_cell L3.out 2).trans rfl
    have c41 : w6.cell? ⟨g4, 1, none⟩ = some (.int .i64 fw) := (blk_cell L4.out 1).trans rfl
    have c50 : w6.cell? ⟨g5, 0, none⟩ = some (.int .i64 x) := (blk_cell L5.out 0).trans rfl
    have c51 : w6.cell? ⟨g5, 1, none⟩ = some (.int .i64 y) := (blk_cell L5.out 1).trans rfl
    have c52 : w6.cell? ⟨g5, 2, none⟩ = some (.int .i64 z) := (blk_cell L5.out 2).trans rfl
    have c60 : w6.cell? ⟨g6, 0, none⟩ = some (.int .i64 0) := (blk_cell L6.out 0).trans rfl
    have c61 : w6.cell? ⟨g6, 1, none⟩ = some (.int .i64 0) := (blk_cell L6.out 1).trans rfl
    have c62 : w6.cell? ⟨g6, 2, none⟩ = some (.int .i64 0) := (blk_cell L6.out 2).trans rfl
    have f60 := blk_frozen L6.out 0
    have f61 := blk_frozen L6.out 1
    have f62 := blk_frozen L6.out 2
    clear L3 L4 L5
    go_quiet (fail)
    rw [HU.out, HV.out]
    go_wp2
    go_quiet (fail)
    go_wp2
    refine bodyPost_ret (results_cell_row rfl _ _ g6 109 #[.int .i64 (wrap64 (a + x)), .int .i64 _, .int .i64 _] (0, 0) _ rfl (blk_put (cs := #[.int .i64 _, .int .i64 _, .int .i64 0]) (blk_put (cs := #[.int .i64 _, .int .i64 0, .int .i64 0]) (blk_put (cs := #[.int .i64 0, .int .i64 0, .int .i64 0]) (blk_drewN L6.out _) 0 _ rfl) 1 _ rfl) 2 _ rfl) Try.underlying109 rfl (by kernel_rfl)) rfl ?_
    exact ⟨rfl, by repeat (first | exact HB6.out | apply pw_below_drewN | refine below_set ?_ G6.out)⟩
set_option maxHeartbeats 4000000 in
set_option maxRecDepth 100000 in
theorem impl_outcome_with_none (a b d fw x y z U V : Int) (A : Option Addr) (n c : Nat) (w : World) (h : ¬ 0 < a) (hU : IntKind.i64.wrap (fw + y) = U) (hV : IntKind.i64.wrap (1 + z) = V) :
    Calls Try.prog 106 #[.agg #[.int .i64 a, .int .i64 b, .int .i64 d], .agg #[.slice A n c, .int .i64 fw], .agg #[.int .i64 x, .int .i64 y, .int .i64 z]] w fun e w' => e = .returned (.agg #[.int .i64 (wrap64 (a + x)), .int .i64 U, .int .i64 V]) ∧ Below w.heap.size w w' := by
  have hu1 := Try.underlying109
  have hu2 := Try.underlying55
  have d1 : decide (0 < a) = false := decide_eq_false h
  have HU := Aside0.mk hU
  have HV := Aside0.mk hV
  clear h hU hV
  go_enter Try.func106, Try.ntmps106
  go_upto_region 1 with (first
    | ((with_reducible refine gate_dst (N := 3) rfl ?_); refine box_event ?hg (N := 3) ?hd (cs := #[.int .i64 a, .int .i64 b, .int .i64 d]) (t := 109) ?hr ?_; (case hd => rfl); (case hg => rfl); (case hr => first | (go_simp; done) | (go_simp; rfl)); intro g3 hg w3 hbox hb; have HB := Aside0.mk hb; have K3 := Aside0.mk hbox; have G3 := Aside0.mk (show w.heap.size ≤ g3 from (by rw [hg]; exact Nat.le_refl _)); clear hg hbox hb)
    | ((with_reducible refine gate_dst (N := 4) rfl ?_); refine box_event ?hg (N := 4) ?hd (cs := #[.slice A n c, .int .i64 fw]) (t := 55) ?hr ?_; (case hd => rfl); (case hg => rfl); (case hr => first | (go_simp; done) | (go_simp; rfl)); intro g4 hg w4 hbox hb; have K3' := Aside0.mk (blk_below K3.out hb); have K4 := Aside0.mk hbox; have HB' := Aside0.mk (below_step HB.out hb); have G4 := Aside0.mk (show w.heap.size ≤ g4 from (by rw [hg]; exact HB.out.size)); clear HB K3; clear hg hbox hb)
    | ((with_reducible refine gate_dst (N := 5) rfl ?_); refine box_event ?hg (N := 5) ?hd (cs := #[.int .i64 x, .int .i64 y, .int .i64 z]) (t := 109) ?hr ?_; (case hd => rfl); (case hg => rfl); (case hr => first | (go_simp; done) | (go_simp; rfl)); intro g5 hg w5 hbox hb; have K3'' := Aside0.mk (blk_below K3'.out hb); have K4' := Aside0.mk (blk_below K4.out hb); have K5 := Aside0.mk hbox; have HB'' := Aside0.mk (below_step HB'.out hb); have G5 := Aside0.mk (show w.heap.size ≤ g5 from (by rw [hg]; exact HB'.out.size)); clear HB' K3' K4; clear hg hbox hb)
    | ((with_reducible refine gate_dst (N := 6) rfl ?_); refine box_event ?hg (N := 6) ?hd (cs := #[.int .i64 0, .int .i64 0, .int .i64 0]) (t := 109) ?hr ?_; (case hd => rfl); (case hg => rfl); (case hr => first | (go_simp; done) | (go_simp; rfl)); intro g6 hg w6 hbox hb; have L3 := Aside0.mk (blk_below K3''.out hb); have L4 := Aside0.mk (blk_below K4'.out hb); have L5 := Aside0.mk (blk_below K5.out hb); have L6 := Aside0.mk hbox; have HB6 := Aside0.mk (below_step HB''.out hb); have G6 := Aside0.mk (show w.heap.size ≤ g6 from (by rw [hg]; exact HB''.out.size)); have N3 := Aside0.mk (show g6 ≠ g3 from (by rw [hg]; exact (Nat.ne_of_lt (blk_lt K3''.out)).symm)); have N4 := Aside0.mk (show g6 ≠ g4 from (by rw [hg]; exact (Nat.ne_of_lt (blk_lt K4'.out)).symm)); have N5 := Aside0.mk (show g6 ≠ g5 from (by rw [hg]; exact (Nat.ne_of_lt (blk_lt K5.out)).symm)); clear HB'' K3'' K4' K5; clear hg hbox hb))
  have c30 : w6.cell? ⟨g3, 0, none⟩ = some (.int .i64 a) := (blk_cell L3.out 0).trans rfl
  have c31 : w6.cell? ⟨g3, 1, none⟩ = some (.int .i64 b) := (blk_cell L3.out 1).trans rfl
  have c32 : w6.cell? ⟨g3, 2, none⟩ = some (.int .i64 d) := (blk_cell L3.out 2).trans rfl
  have c41 : w6.cell? ⟨g4, 1, none⟩ = some (.int .i64 fw) := (blk_cell L4.out 1).trans rfl
  have c50 : w6.cell? ⟨g5, 0, none⟩ = some (.int .i64 x) := (blk_cell L5.out 0).trans rfl
  have c51 : w6.cell? ⟨g5, 1, none⟩ = some (.int .i64 y) := (blk_cell L5.out 1).trans rfl
  have c52 : w6.cell? ⟨g5, 2, none⟩ = some (.int .i64 z) := (blk_cell L5.out 2).trans rfl
  have c60 : w6.cell? ⟨g6, 0, none⟩ = some (.int .i64 0) := (blk_cell L6.out 0).trans rfl
  have c61 : w6.cell? ⟨g6, 1, none⟩ = some (.int .i64 0) := (blk_cell L6.out 1).trans rfl
  have c62 : w6.cell? ⟨g6, 2, none⟩ = some (.int .i64 0) := (blk_cell L6.out 2).trans rfl
  have f60 := blk_frozen L6.out 0
  have f61 := blk_frozen L6.out 1
  have f62 := blk_frozen L6.out 2
  clear L3 L4 L5
  go_quiet (fail)
  rw [HU.out, HV.out]
  go_wp2
  refine bodyPost_ret (results_cell_row rfl _ _ g6 109 #[.int .i64 (wrap64 (a + x)), .int .i64 _, .int .i64 _] (0, 0) _ rfl (blk_put (cs := #[.int .i64 _, .int .i64 _, .int .i64 0]) (blk_put (cs := #[.int .i64 _, .int .i64 0, .int .i64 0]) (blk_put (cs := #[.int .i64 0, .int .i64 0, .int .i64 0]) (blk_drewN L6.out _) 0 _ rfl) 1 _ rfl) 2 _ rfl) Try.underlying109 rfl (by kernel_rfl)) rfl ?_
  exact ⟨rfl, by repeat (first | exact HB6.out | apply pw_below_drewN | refine below_set ?_ G6.out)⟩
theorem impl_outcome_with_calls (o : OutC) (f : S55) (A : Option Addr) (n c : Nat) (r : OutC) (w : World) :
    Calls Try.prog 106 #[.agg #[.int .i64 o.f0, .int .i64 o.f1, .int .i64 o.f2], .agg #[.slice A n c, .int .i64 f.f1], .agg #[.int .i64 r.f0, .int .i64 r.f1, .int .i64 r.f2]] w fun e w' => e = .returned (.agg #[.int .i64 (outW o f r).f0, .int .i64 (outW o f r).f1, .int .i64 (outW o f r).f2]) ∧ Below w.heap.size w w' := by
  unfold outW
  by_cases h : o.f0 > 0
  · rw [if_pos h]
    exact impl_outcome_with_some o.f0 o.f1 o.f2 f.f1 r.f0 r.f1 r.f2 _ _ _ _ A n c w h (i64_w _) (i64_w _) _ _ rfl rfl (by unfold mn; by_cases h : o.f1 < wrap64 (f.f1 + r.f1) <;> simp [h]) (by unfold mn; by_cases h : o.f2 < wrap64 (1 + r.f2) <;> simp [h])
  · rw [if_neg h]
    exact impl_outcome_with_none o.f0 o.f1 o.f2 f.f1 r.f0 r.f1 r.f2 _ _ A n c w h (i64_w _) (i64_w _)

/-! impl_begins: as the print has it, but the cut list has a name of its own -/
def impl_begins.f (k : Nat) (l0 : List Int) (l1 : List Int) : Option (Bool) := if (l0.length : Int) ≥ (l1.length : Int) then (if 0 ≤ (l1.length : Int) then (if (l1.length : Int) ≤ (l0.length : Int) then ((impl_equalNumbers.f k (l0.take ((l1.length : Int) : Int).toNat) l1).bind fun t207 => (some t207)) else (none)) else (none)) else (some false)
theorem impl_begins.mono : ∀ a0 a1 k, LeO (impl_begins.f k a0 a1) (impl_begins.f (k + 1) a0 a1) := by
  intro a0 a1 k
  unfold impl_begins.f
  repeat' first
      | (with_reducible exact impl_equalNumbers.mono _ _ _)
      | (with_reducible exact LeO.refl _)
      | (with_reducible exact LeO.none _)
      | (with_reducible refine LeO.ite ?_ ?_)
      | (with_reducible refine LeO.bind ?_ (fun _ => ?_))
      | exact impl_equalNumbers.mono _ _ _
      | exact LeO.none _
      | refine LeO.ite ?_ ?_
      | refine LeO.bind ?_ (fun _ => ?_)
set_option maxHeartbeats 8000000 in
set_option maxRecDepth 100000 in
theorem impl_begins.calls (k : Nat) (A0 : Option Addr) (c0 : Nat) (l0 : List Int) (A1 : Option Addr) (c1 : Nat) (l1 : List Int) (r : Bool) (w : World) (hr0 : Kd.C (Kd.int .i64) w A0 l0.length l0) (hc0 : l0.length ≤ c0) (hr1 : Kd.C (Kd.int .i64) w A1 l1.length l1) (hc1 : l1.length ≤ c1) (h : impl_begins.f k l0 l1 = some r) :
    Calls Try.prog 72 #[.slice A0 l0.length c0, .slice A1 l1.length c1] w fun e w' => e = .returned (.bool r) ∧ Drawn0 w w' := by
  have HR0 := Aside0.mk hr0
  have HC0 := Aside0.mk hc0
  clear hr0 hc0
  have HR1 := Aside0.mk hr1
  have HC1 := Aside0.mk hc1
  clear hr1 hc1
  have H : (if (l0.length : Int) ≥ (l1.length : Int) then (if 0 ≤ (l1.length : Int) then (if (l1.length : Int) ≤ (l0.length : Int) then ((impl_equalNumbers.f k (l0.take ((l1.length : Int) : Int).toNat) l1).bind fun t207 => (some t207)) else (none)) else (none)) else (some false)) = some r := h
  clear h
  by_cases c3 : (l0.length : Int) ≥ (l1.length : Int)
  · rw [if_pos c3] at H
    have c3b0 : decide ((l1.length : Int) ≤ (l0.length : Int)) = true := decide_eq_true c3
    have c3b1 : decide (l1.length ≤ l0.length) = true := decide_eq_true (Int.ofNat_le.mp c3)
    clear c3
    by_cases c4 : 0 ≤ (l1.length : Int)
    · rw [if_pos c4] at H
      have c4b0 := eq_true c4
      have c4b1 : decide (0 ≤ (l1.length : Int)) = true := decide_eq_true c4
      clear c4
      by_cases c5 : (l1.length : Int) ≤ (l0.length : Int)
      · rw [if_pos c5] at H
        have c5b0 := eq_true c5
        have c5b1 : decide ((l1.length : Int) ≤ (l0.length : Int)) = true := decide_eq_true c5
        clear c5
        replace H := Option.bind_eq_some_iff.mp H
        obtain ⟨t207, A60, H⟩ := H
        replace H : (some t207) = some r := H
        have A6 := Aside0.mk A60
        clear A60
        obtain rfl := Option.some.inj H
        obtain ⟨i07, hi07, _, hsz7, _⟩ := info_parts info3
        obtain ⟨hcut7, hA7, hC7⟩ := print_take_of (P := Try.prog) (Value.int .i64) 0 46 3 .i64 Try.underlying46 hi07 hsz7 A0 c0 l0 (l1.length : Int) (of_decide_eq_true (by first | (with_reducible assumption) | assumption)) (of_decide_eq_true (by first | (with_reducible assumption) | assumption)) HC0.out
        have HR206 := Aside0.mk (Kd.C_of_reads (h1 := fun _ => rfl) (hA7 _ (Kd.reads_of_C HR0.out)))
        have HC206 := Aside0.mk hC7
        clear hA7 hC7 hi07 hsz7
        generalize (l0.take ((l1.length : Int) : Int).toNat) = TT7 at hcut7 HR206 HC206 A6
        go_enter Try.func72, Try.ntmps72
        go_wp2_with (first | (go_at_call 104; (with_reducible refine (impl_equalNumbers.calls k _ _ TT7 _ _ l1 t207 _ ?side1 ?side2 ?side3 ?side4 A6.out).mono ?_); (case side1 => repeat (first | exact HR206.out | (with_reducible refine Kd.C_alloc ?_ _) | (with_reducible refine Kd.C_drewN ?_ _) | (with_reducible refine Kd.C_drew ?_))); (case side2 => exact HC206.out); (case side3 => repeat (first | exact HR1.out | (with_reducible refine Kd.C_alloc ?_ _) | (with_reducible refine Kd.C_drewN ?_ _) | (with_reducible refine Kd.C_drew ?_))); (case side4 => exact HC1.out); rintro e w' ⟨rfl, ⟨nd, rfl⟩⟩))
        go_ret
        exact ⟨by first | rfl | (simp; done) | (simp [*]; done), by repeat (first | exact Drawn0.refl _ | apply Drawn0.step)⟩
      · rw [if_neg c5] at H
        exact absurd H (by simp)
    · rw [if_neg c4] at H
      exact absurd H (by simp)
  · rw [if_neg c3] at H
    have c3b0 : decide ((l1.length : Int) ≤ (l0.length : Int)) = false := decide_eq_false c3
    have c3b1 : decide (l1.length ≤ l0.length) = false := decide_eq_false (fun h => c3 (Int.ofNat_le.mpr h))
    clear c3
    obtain rfl := Option.some.inj H
    go_enter Try.func72, Try.ntmps72
    go_wp2
    go_ret
    exact ⟨by first | rfl | (simp; done) | (simp [*]; done), by repeat (first | exact Drawn0.refl _ | apply Drawn0.step)⟩

/-! spec_l6fAt: as the print has it, but the cut list has a name of its own -/
def spec_l6fAt.f (k : Nat) (l0_0 : List Int) (a0_1 : Int) (l1 : List Int) (a2 : Int) : Option (Bool) := if (wrap64 (a2 + (l0_0.length : Int))) ≤ (l1.length : Int) then (if 0 ≤ a2 then (if a2 ≤ (wrap64 (a2 + (l0_0.length : Int))) then ((spec_l2Same.f k ((l1.take ((wrap64 (a2 + (l0_0.length : Int))) : Int).toNat).drop (a2 : Int).toNat) l0_0).bind fun t151 => (some t151)) else (none)) else (none)) else (some false)
theorem spec_l6fAt.mono : ∀ a0 a1 a2 a3 k, LeO (spec_l6fAt.f k a0 a1 a2 a3) (spec_l6fAt.f (k + 1) a0 a1 a2 a3) := by
  intro a0 a1 a2 a3 k
  unfold spec_l6fAt.f
  repeat' first
      | (with_reducible exact spec_l2Same.mono _ _ _)
      | (with_reducible exact LeO.refl _)
      | (with_reducible exact LeO.none _)
      | (with_reducible refine LeO.ite ?_ ?_)
      | (with_reducible refine LeO.bind ?_ (fun _ => ?_))
      | exact spec_l2Same.mono _ _ _
      | exact LeO.none _
      | refine LeO.ite ?_ ?_
      | refine LeO.bind ?_ (fun _ => ?_)
set_option maxHeartbeats 8000000 in
set_option maxRecDepth 100000 in
theorem spec_l6fAt.calls (k : Nat) (A0_0 : Option Addr) (c0_0 : Nat) (l0_0 : List Int) (a0_1 : Int) (A1 : Option Addr) (c1 : Nat) (l1 : List Int) (a2 : Int) (r : Bool) (w : World) (hr0_0 : Kd.C (Kd.int .i64) w A0_0 l0_0.length l0_0) (hc0_0 : l0_0.length ≤ c0_0) (hr1 : Kd.C (Kd.int .i64) w A1 l1.length l1) (hc1 : l1.length ≤ c1) (h : spec_l6fAt.f k l0_0 a0_1 l1 a2 = some r) :
    Calls Try.prog 83 #[.agg #[.slice A0_0 l0_0.length c0_0, .int .i64 a0_1], .slice A1 l1.length c1, .int .i64 a2] w fun e w' => e = .returned (.bool r) ∧ Below w.heap.size w w' := by
  have hu55 := Try.underlying55
  have HR0_0 := Aside0.mk hr0_0
  have HC0_0 := Aside0.mk hc0_0
  clear hr0_0 hc0_0
  have HR1 := Aside0.mk hr1
  have HC1 := Aside0.mk hc1
  clear hr1 hc1
  have HB := Aside0.mk (Below.refl w.heap.size w)
  have H : (if (wrap64 (a2 + (l0_0.length : Int))) ≤ (l1.length : Int) then (if 0 ≤ a2 then (if a2 ≤ (wrap64 (a2 + (l0_0.length : Int))) then ((spec_l2Same.f k ((l1.take ((wrap64 (a2 + (l0_0.length : Int))) : Int).toNat).drop (a2 : Int).toNat) l0_0).bind fun t151 => (some t151)) else (none)) else (none)) else (some false)) = some r := h
  clear h
  by_cases c4 : (wrap64 (a2 + (l0_0.length : Int))) ≤ (l1.length : Int)
  · rw [if_pos c4] at H
    have c4b0 : decide ((wrap64 (a2 + (l0_0.length : Int))) ≤ (l1.length : Int)) = true := decide_eq_true c4
    clear c4
    by_cases c5 : 0 ≤ a2
    · rw [if_pos c5] at H
      have c5b0 := eq_true c5
      have c5b1 : decide (0 ≤ a2) = true := decide_eq_true c5
      clear c5
      by_cases c6 : a2 ≤ (wrap64 (a2 + (l0_0.length : Int)))
      · rw [if_pos c6] at H
        have c6b0 := eq_true c6
        have c6b1 : decide (a2 ≤ (wrap64 (a2 + (l0_0.length : Int)))) = true := decide_eq_true c6
        have c7b0 := eq_true (of_decide_eq_true (by first | (with_reducible assumption) | assumption) : (wrap64 (a2 + (l0_0.length : Int))) ≤ (l1.length : Int))
        replace H := Option.bind_eq_some_iff.mp H
        obtain ⟨t151, A80, H⟩ := H
        replace H : (some t151) = some r := H
        have A8 := Aside0.mk A80
        clear A80
        obtain rfl := Option.some.inj H
        go_enter Try.func83, Try.ntmps83
        go_wp2_with (first | ((with_reducible refine gate_dst (N := 3) rfl ?_); refine box_event ?hg (N := 3) ?hd (cs := #[.slice A0_0 l0_0.length c0_0, .int .i64 a0_1]) (t := 55) ?hr ?_; (case hd => rfl); (case hg => rfl); (case hr => first | (go_simp; done) | (go_simp; rfl)); intro gb149 hg w9 hbox hb; have n0_ := Aside0.mk (below_step (by repeat (first | (with_reducible first | exact HB.out | apply below_alloc | apply pw_below_drewN | apply below_drew1) | exact HB.out)) hb); have n1_ := Aside0.mk (hbox); have n2_ := Aside0.mk ((by rw [hg]; exact (below_size (by repeat (first | (with_reducible first | exact HB.out | apply below_alloc | apply pw_below_drewN | apply below_drew1) | exact HB.out))) : w.heap.size ≤ gb149)); have n3_ := Aside0.mk ((by rw [hg]; exact (below_size (by repeat (first | (with_reducible first | exact HB.out | apply below_alloc | apply pw_below_drewN | apply below_drew1) | exact HB.out))) : w.heap.size ≤ gb149)); clear HB; have HB := n0_; have BK149 := n1_; have GW149 := n2_; have GE149 := n3_; clear n0_ n1_ n2_ n3_; clear hb hbox hg; have hcz10_0 : w9.cell? ⟨gb149, 0, none⟩ = some (.slice A0_0 l0_0.length c0_0) := (blk_cell BK149.out 0).trans rfl; have hcz10_1 : w9.cell? ⟨gb149, 1, none⟩ = some (.int .i64 a0_1) := (blk_cell BK149.out 1).trans rfl; have hfz10_0 := blk_frozen BK149.out 0; have hfz10_1 := blk_frozen BK149.out 1; obtain ⟨i011, hi011, _, hsz11, _⟩ := info_parts info3; obtain ⟨A11, hcut11, hA11, hC11⟩ := print_mid_of (P := Try.prog) (Value.int .i64) 0 46 3 .i64 .i64 Try.underlying46 hi011 hsz11 A1 c1 l1 a2 (wrap64 (a2 + (l0_0.length : Int))) (of_decide_eq_true (by first | (with_reducible assumption) | assumption)) (by first | omega | exact of_decide_eq_true (by first | (with_reducible assumption) | assumption)) (of_decide_eq_true (by first | (with_reducible assumption) | assumption)) HC1.out; have HR150 := Aside0.mk (Kd.C_of_reads (h1 := fun _ => rfl) (hA11 _ (Kd.reads_of_C HR1.out))); have HC150 := Aside0.mk hC11; clear hA11 hC11 hi011 hsz11; generalize ((l1.take ((wrap64 (a2 + (l0_0.length : Int))) : Int).toNat).drop (a2 : Int).toNat) = TT11 at hcut11 HR150 HC150 A8) | (go_at_call 102; (with_reducible refine (spec_l2Same.calls k _ _ TT11 _ _ l0_0 t151 _ ?side1 ?side2 ?side3 ?side4 A8.out).mono ?_); (case side1 => repeat (first | exact (Kd.C_below HR150.out HB.out) | (with_reducible refine Kd.C_alloc ?_ _) | (with_reducible refine Kd.C_drewN ?_ _) | (with_reducible refine Kd.C_drew ?_))); (case side2 => exact HC150.out); (case side3 => repeat (first | exact (Kd.C_below HR0_0.out HB.out) | (with_reducible refine Kd.C_alloc ?_ _) | (with_reducible refine Kd.C_drewN ?_ _) | (with_reducible refine Kd.C_drew ?_))); (case side4 => exact HC0_0.out); rintro e w' ⟨rfl, ⟨nd, rfl⟩⟩; (try first | exact ⟨rfl, _, World.drewN_drewN _ _ _⟩ | exact ⟨rfl, _, Eq.trans (World.drewN_drewN _ _ _) (congrArg (World.drewN _) (Nat.add_assoc _ _ _))⟩)))
        repeat (go_quiet (first | ((with_reducible refine gate_dst (N := 3) rfl ?_); refine box_event ?hg (N := 3) ?hd (cs := #[.slice A0_0 l0_0.length c0_0, .int .i64 a0_1]) (t := 55) ?hr ?_; (case hd => rfl); (case hg => rfl); (case hr => first | (go_simp; done) | (go_simp; rfl)); intro gb149 hg w9 hbox hb; have n0_ := Aside0.mk (below_step (by repeat (first | (with_reducible first | exact HB.out | apply below_alloc | apply pw_below_drewN | apply below_drew1) | exact HB.out)) hb); have n1_ := Aside0.mk (hbox); have n2_ := Aside0.mk ((by rw [hg]; exact (below_size (by repeat (first | (with_reducible first | exact HB.out | apply below_alloc | apply pw_below_drewN | apply below_drew1) | exact HB.out))) : w.heap.size ≤ gb149)); have n3_ := Aside0.mk ((by rw [hg]; exact (below_size (by repeat (first | (with_reducible first | exact HB.out | apply below_alloc | apply pw_below_drewN | apply below_drew1) | exact HB.out))) : w.heap.size ≤ gb149)); clear HB; have HB := n0_; have BK149 := n1_; have GW149 := n2_; have GE149 := n3_; clear n0_ n1_ n2_ n3_; clear hb hbox hg; have hcz10_0 : w9.cell? ⟨gb149, 0, none⟩ = some (.slice A0_0 l0_0.length c0_0) := (blk_cell BK149.out 0).trans rfl; have hcz10_1 : w9.cell? ⟨gb149, 1, none⟩ = some (.int .i64 a0_1) := (blk_cell BK149.out 1).trans rfl; have hfz10_0 := blk_frozen BK149.out 0; have hfz10_1 := blk_frozen BK149.out 1; obtain ⟨i011, hi011, _, hsz11, _⟩ := info_parts info3; obtain ⟨A11, hcut11, hA11, hC11⟩ := print_mid_of (P := Try.prog) (Value.int .i64) 0 46 3 .i64 .i64 Try.underlying46 hi011 hsz11 A1 c1 l1 a2 (wrap64 (a2 + (l0_0.length : Int))) (of_decide_eq_true (by first | (with_reducible assumption) | assumption)) (by first | omega | exact of_decide_eq_true (by first | (with_reducible assumption) | assumption)) (of_decide_eq_true (by first | (with_reducible assumption) | assumption)) HC1.out; have HR150 := Aside0.mk (Kd.C_of_reads (h1 := fun _ => rfl) (hA11 _ (Kd.reads_of_C HR1.out))); have HC150 := Aside0.mk hC11; clear hA11 hC11 hi011 hsz11; generalize ((l1.take ((wrap64 (a2 + (l0_0.length : Int))) : Int).toNat).drop (a2 : Int).toNat) = TT11 at hcut11 HR150 HC150 A8) | (go_at_call 102; (with_reducible refine (spec_l2Same.calls k _ _ TT11 _ _ l0_0 t151 _ ?side1 ?side2 ?side3 ?side4 A8.out).mono ?_); (case side1 => repeat (first | exact (Kd.C_below HR150.out HB.out) | (with_reducible refine Kd.C_alloc ?_ _) | (with_reducible refine Kd.C_drewN ?_ _) | (with_reducible refine Kd.C_drew ?_))); (case side2 => exact HC150.out); (case side3 => repeat (first | exact (Kd.C_below HR0_0.out HB.out) | (with_reducible refine Kd.C_alloc ?_ _) | (with_reducible refine Kd.C_drewN ?_ _) | (with_reducible refine Kd.C_drew ?_))); (case side4 => exact HC0_0.out); rintro e w' ⟨rfl, ⟨nd, rfl⟩⟩; (try first | exact ⟨rfl, _, World.drewN_drewN _ _ _⟩ | exact ⟨rfl, _, Eq.trans (World.drewN_drewN _ _ _) (congrArg (World.drewN _) (Nat.add_assoc _ _ _))⟩))); try go_wp2_with (first | ((with_reducible refine gate_dst (N := 3) rfl ?_); refine box_event ?hg (N := 3) ?hd (cs := #[.slice A0_0 l0_0.length c0_0, .int .i64 a0_1]) (t := 55) ?hr ?_; (case hd => rfl); (case hg => rfl); (case hr => first | (go_simp; done) | (go_simp; rfl)); intro gb149 hg w9 hbox hb; have n0_ := Aside0.mk (below_step (by repeat (first | (with_reducible first | exact HB.out | apply below_alloc | apply pw_below_drewN | apply below_drew1) | exact HB.out)) hb); have n1_ := Aside0.mk (hbox); have n2_ := Aside0.mk ((by rw [hg]; exact (below_size (by repeat (first | (with_reducible first | exact HB.out | apply below_alloc | apply pw_below_drewN | apply below_drew1) | exact HB.out))) : w.heap.size ≤ gb149)); have n3_ := Aside0.mk ((by rw [hg]; exact (below_size (by repeat (first | (with_reducible first | exact HB.out | apply below_alloc | apply pw_below_drewN | apply below_drew1) | exact HB.out))) : w.heap.size ≤ gb149)); clear HB; have HB := n0_; have BK149 := n1_; have GW149 := n2_; have GE149 := n3_; clear n0_ n1_ n2_ n3_; clear hb hbox hg; have hcz10_0 : w9.cell? ⟨gb149, 0, none⟩ = some (.slice A0_0 l0_0.length c0_0) := (blk_cell BK149.out 0).trans rfl; have hcz10_1 : w9.cell? ⟨gb149, 1, none⟩ = some (.int .i64 a0_1) := (blk_cell BK149.out 1).trans rfl; have hfz10_0 := blk_frozen BK149.out 0; have hfz10_1 := blk_frozen BK149.out 1; obtain ⟨i011, hi011, _, hsz11, _⟩ := info_parts info3; obtain ⟨A11, hcut11, hA11, hC11⟩ := print_mid_of (P := Try.prog) (Value.int .i64) 0 46 3 .i64 .i64 Try.underlying46 hi011 hsz11 A1 c1 l1 a2 (wrap64 (a2 + (l0_0.length : Int))) (of_decide_eq_true (by first | (with_reducible assumption) | assumption)) (by first | omega | exact of_decide_eq_true (by first | (with_reducible assumption) | assumption)) (of_decide_eq_true (by first | (with_reducible assumption) | assumption)) HC1.out; have HR150 := Aside0.mk (Kd.C_of_reads (h1 := fun _ => rfl) (hA11 _ (Kd.reads_of_C HR1.out))); have HC150 := Aside0.mk hC11; clear hA11 hC11 hi011 hsz11; generalize ((l1.take ((wrap64 (a2 + (l0_0.length : Int))) : Int).toNat).drop (a2 : Int).toNat) = TT11 at hcut11 HR150 HC150 A8) | (go_at_call 102; (with_reducible refine (spec_l2Same.calls k _ _ TT11 _ _ l0_0 t151 _ ?side1 ?side2 ?side3 ?side4 A8.out).mono ?_); (case side1 => repeat (first | exact (Kd.C_below HR150.out HB.out) | (with_reducible refine Kd.C_alloc ?_ _) | (with_reducible refine Kd.C_drewN ?_ _) | (with_reducible refine Kd.C_drew ?_))); (case side2 => exact HC150.out); (case side3 => repeat (first | exact (Kd.C_below HR0_0.out HB.out) | (with_reducible refine Kd.C_alloc ?_ _) | (with_reducible refine Kd.C_drewN ?_ _) | (with_reducible refine Kd.C_drew ?_))); (case side4 => exact HC0_0.out); rintro e w' ⟨rfl, ⟨nd, rfl⟩⟩; (try first | exact ⟨rfl, _, World.drewN_drewN _ _ _⟩ | exact ⟨rfl, _, Eq.trans (World.drewN_drewN _ _ _) (congrArg (World.drewN _) (Nat.add_assoc _ _ _))⟩))))
        go_ret
        exact ⟨by first | rfl | (simp [errW_none, errW_some] <;> rfl) | (simp [*, errW_none, errW_some] <;> rfl), by repeat (first | (with_reducible first | exact HB.out | apply below_alloc | apply pw_below_drewN | apply below_drew1 | refine below_set ?_ GE149.out) | exact HB.out)⟩
      · rw [if_neg c6] at H
        exact absurd H (by simp)
    · rw [if_neg c5] at H
      exact absurd H (by simp)
  · rw [if_neg c4] at H
    have c4b0 : decide ((wrap64 (a2 + (l0_0.length : Int))) ≤ (l1.length : Int)) = false := decide_eq_false c4
    clear c4
    obtain rfl := Option.some.inj H
    go_enter Try.func83, Try.ntmps83
    go_wp2_with (first | ((with_reducible refine gate_dst (N := 3) rfl ?_); refine box_event ?hg (N := 3) ?hd (cs := #[.slice A0_0 l0_0.length c0_0, .int .i64 a0_1]) (t := 55) ?hr ?_; (case hd => rfl); (case hg => rfl); (case hr => first | (go_simp; done) | (go_simp; rfl)); intro gb149 hg w12 hbox hb; have n0_ := Aside0.mk (below_step (by repeat (first | (with_reducible first | exact HB.out | apply below_alloc | apply pw_below_drewN | apply below_drew1) | exact HB.out)) hb); have n1_ := Aside0.mk (hbox); have n2_ := Aside0.mk ((by rw [hg]; exact (below_size (by repeat (first | (with_reducible first | exact HB.out | apply below_alloc | apply pw_below_drewN | apply below_drew1) | exact HB.out))) : w.heap.size ≤ gb149)); have n3_ := Aside0.mk ((by rw [hg]; exact (below_size (by repeat (first | (with_reducible first | exact HB.out | apply below_alloc | apply pw_below_drewN | apply below_drew1) | exact HB.out))) : w.heap.size ≤ gb149)); clear HB; have HB := n0_; have BK149 := n1_; have GW149 := n2_; have GE149 := n3_; clear n0_ n1_ n2_ n3_; clear hb hbox hg; have hcz13_0 : w12.cell? ⟨gb149, 0, none⟩ = some (.slice A0_0 l0_0.length c0_0) := (blk_cell BK149.out 0).trans rfl; have hcz13_1 : w12.cell? ⟨gb149, 1, none⟩ = some (.int .i64 a0_1) := (blk_cell BK149.out 1).trans rfl; have hfz13_0 := blk_frozen BK149.out 0; have hfz13_1 := blk_frozen BK149.out 1))
    repeat (go_quiet (first | ((with_reducible refine gate_dst (N := 3) rfl ?_); refine box_event ?hg (N := 3) ?hd (cs := #[.slice A0_0 l0_0.length c0_0, .int .i64 a0_1]) (t := 55) ?hr ?_; (case hd => rfl); (case hg => rfl); (case hr => first | (go_simp; done) | (go_simp; rfl)); intro gb149 hg w12 hbox hb; have n0_ := Aside0.mk (below_step (by repeat (first | (with_reducible first | exact HB.out | apply below_alloc | apply pw_below_drewN | apply below_drew1) | exact HB.out)) hb); have n1_ := Aside0.mk (hbox); have n2_ := Aside0.mk ((by rw [hg]; exact (below_size (by repeat (first | (with_reducible first | exact HB.out | apply below_alloc | apply pw_below_drewN | apply below_drew1) | exact HB.out))) : w.heap.size ≤ gb149)); have n3_ := Aside0.mk ((by rw [hg]; exact (below_size (by repeat (first | (with_reducible first | exact HB.out | apply below_alloc | apply pw_below_drewN | apply below_drew1) | exact HB.out))) : w.heap.size ≤ gb149)); clear HB; have HB := n0_; have BK149 := n1_; have GW149 := n2_; have GE149 := n3_; clear n0_ n1_ n2_ n3_; clear hb hbox hg; have hcz13_0 : w12.cell? ⟨gb149, 0, none⟩ = some (.slice A0_0 l0_0.length c0_0) := (blk_cell BK149.out 0).trans rfl; have hcz13_1 : w12.cell? ⟨gb149, 1, none⟩ = some (.int .i64 a0_1) := (blk_cell BK149.out 1).trans rfl; have hfz13_0 := blk_frozen BK149.out 0; have hfz13_1 := blk_frozen BK149.out 1)); try go_wp2_with (first | ((with_reducible refine gate_dst (N := 3) rfl ?_); refine box_event ?hg (N := 3) ?hd (cs := #[.slice A0_0 l0_0.length c0_0, .int .i64 a0_1]) (t := 55) ?hr ?_; (case hd => rfl); (case hg => rfl); (case hr => first | (go_simp; done) | (go_simp; rfl)); intro gb149 hg w12 hbox hb; have n0_ := Aside0.mk (below_step (by repeat (first | (with_reducible first | exact HB.out | apply below_alloc | apply pw_below_drewN | apply below_drew1) | exact HB.out)) hb); have n1_ := Aside0.mk (hbox); have n2_ := Aside0.mk ((by rw [hg]; exact (below_size (by repeat (first | (with_reducible first | exact HB.out | apply below_alloc | apply pw_below_drewN | apply below_drew1) | exact HB.out))) : w.heap.size ≤ gb149)); have n3_ := Aside0.mk ((by rw [hg]; exact (below_size (by repeat (first | (with_reducible first | exact HB.out | apply below_alloc | apply pw_below_drewN | apply below_drew1) | exact HB.out))) : w.heap.size ≤ gb149)); clear HB; have HB := n0_; have BK149 := n1_; have GW149 := n2_; have GE149 := n3_; clear n0_ n1_ n2_ n3_; clear hb hbox hg; have hcz13_0 : w12.cell? ⟨gb149, 0, none⟩ = some (.slice A0_0 l0_0.length c0_0) := (blk_cell BK149.out 0).trans rfl; have hcz13_1 : w12.cell? ⟨gb149, 1, none⟩ = some (.int .i64 a0_1) := (blk_cell BK149.out 1).trans rfl; have hfz13_0 := blk_frozen BK149.out 0; have hfz13_1 := blk_frozen BK149.out 1)))
    go_ret
    exact ⟨by first | rfl | (simp [errW_none, errW_some] <;> rfl) | (simp [*, errW_none, errW_some] <;> rfl), by repeat (first | (with_reducible first | exact HB.out | apply below_alloc | apply pw_below_drewN | apply below_drew1 | refine below_set ?_ GE149.out) | exact HB.out)⟩

/-! formulas -/
def inR (a b n : Int) : Bool := decide (a ≤ n ∧ n ≤ b)
def fOk (x : S55) : Bool := decide (1 ≤ (x.f0.length : Int) ∧ (x.f0.length : Int) ≤ 5) && (x.f0.all (inR (-7) 7) && decide (1 ≤ x.f1 ∧ x.f1 ≤ 9))
def goF : List S55 → List S55 → Bool
  | _, [] => true
  | acc, x :: xs => fOk x && (!(acc.any (fun y => y.f0 == x.f0)) && goF (acc ++ [x]) xs)
def fsOk (l : List S55) : Bool := decide ((l.length : Int) ≤ 8) && goF [] l
theorem goF_all : ∀ {l acc : List S55}, goF acc l = true → ∀ x ∈ l, fOk x = true
  | [], _, _, x, h => by simp at h
  | y :: ys, acc, h, x, hx => by
    simp only [goF, Bool.and_eq_true] at h
    rcases List.mem_cons.1 hx with rfl | hx
    · exact h.1
    · exact goF_all h.2.2 x hx
theorem fsOk_len {l : List S55} (h : fsOk l = true) : l.length ≤ 8 := by
  unfold fsOk at h; simp at h; have := h.1; omega
theorem fsOk_all {l : List S55} (h : fsOk l = true) : ∀ x ∈ l, fOk x = true := by
  unfold fsOk at h; simp at h; exact goF_all h.2
theorem fOk_len {x : S55} (h : fOk x = true) : 1 ≤ x.f0.length ∧ x.f0.length ≤ 5 := by
  unfold fOk at h; simp at h; omega
theorem fOk_weight {x : S55} (h : fOk x = true) : 1 ≤ x.f1 ∧ x.f1 ≤ 9 := by
  unfold fOk at h; simp at h; omega
theorem rd_mem {l : List S55} {k : Int} (h0 : 0 ≤ k) (h1 : k < l.length) : rd_T55 l k ∈ l := by
  have hlt : k.toNat < l.length := by omega
  unfold rd_T55
  rw [List.getD_eq_getElem?_getD, List.getElem?_eq_getElem hlt]
  exact List.getElem_mem hlt
theorem take_rd (l : List S55) (i : Nat) (hi : i < l.length) : l.take (i + 1) = l.take i ++ [l.getD i z55] := by
  rw [List.take_succ_eq_append_getElem hi, List.getD_eq_getElem?_getD, List.getElem?_eq_getElem hi]; rfl

theorem impl_allWithin_ev (l : List Int) (hl : l.length ≤ 1000000000000) (b : Int) (hb : 0 ≤ b) (hb' : b ≤ 1000) : Ev (fun k => impl_allWithin.f k l b) (l.all (inR (-b) b)) := by
  unfold impl_allWithin.f
  have := Ev.over (0 : Int) l (fun k (_ : Unit) i => impl_allWithin.l0 k b l l.length i) (fun _ rest => rest.all (inR (-b) b)) (fun _ _ => True) (by
    intro s _
    refine Ev.succ ?_
    simp only [impl_allWithin.l0]
    exact Ev.neg (by omega) (Ev.now _)) (by
    intro s i rest _ hi _ ih
    refine Ev.succ ?_
    simp only [impl_allWithin.l0]
    rw [w64 (x := -b) (by omega) (by omega), w64 (by omega) (by omega)]
    refine Ev.pos (by omega) (Ev.pos (by omega) (Ev.pos (by omega) ?_))
    have hrd : rd l (i : Int) = l.getD i 0 := rfl
    rw [hrd]
    generalize l.getD i 0 = n
    simp only [List.all_cons]
    by_cases h1 : n < -b
    · have e : inR (-b) b n = false := decide_eq_false (by omega)
      rw [e]; exact Ev.pos h1 (Ev.now _)
    · refine Ev.neg h1 ?_
      by_cases h2 : n > b
      · have e : inR (-b) b n = false := decide_eq_false (by omega)
        rw [e]; exact Ev.pos h2 (Ev.now _)
      · have e : inR (-b) b n = true := decide_eq_true (by omega)
        rw [e]
        exact Ev.neg h2 (ih () trivial)) 0 () (Nat.zero_le _) trivial
  simpa using this
theorem impl_equalNumbers_ev (a b : List Int) (hl : a.length ≤ 1000000000000) : Ev (fun k => impl_equalNumbers.f k a b) (a == b) := by
  unfold impl_equalNumbers.f
  by_cases hlen : (a.length : Int) = (b.length : Int)
  · refine Ev.pos hlen ?_
    have := Ev.over (0 : Int) a (fun k (_ : Unit) i => impl_equalNumbers.l0 k b a a.length i) (fun _ rest => rest == b.drop (a.length - rest.length)) (fun _ _ => True) (by
      intro s _
      refine Ev.succ ?_
      simp only [impl_equalNumbers.l0]
      refine Ev.eqr (Ev.neg (by omega) (Ev.now _)) ?_
      have : b.drop a.length = [] := List.drop_eq_nil_of_le (by omega)
      simp [this]) (by
      intro s i rest _ hi hdr ih
      have hrl : rest.length + 1 + i = a.length := by
        have := congrArg List.length hdr
        simp at this; omega
      refine Ev.succ ?_
      simp only [impl_equalNumbers.l0]
      rw [w64 (by omega) (by omega)]
      refine Ev.pos (by omega) (Ev.pos (by omega) (Ev.pos (by omega) (Ev.pos (by omega) ?_)))
      have hra : rd a (i : Int) = a.getD i 0 := rfl
      have hrb : rd b (i : Int) = b.getD i 0 := rfl
      rw [hra, hrb]
      have e2 : a.length - (a.getD i 0 :: rest).length = i := by simp; omega
      have e1 : a.length - rest.length = i + 1 := by omega
      have e3 : b.drop i = b.getD i 0 :: b.drop (i + 1) := by
        rw [List.drop_eq_getElem_cons (by omega), List.getD_eq_getElem?_getD, List.getElem?_eq_getElem (by omega)]; rfl
      rw [e2, e3]
      have ih := ih () trivial
      rw [e1] at ih
      by_cases h : a.getD i 0 = b.getD i 0
      · refine Ev.pos h (Ev.eqr ih ?_)
        rw [h, Bool.eq_iff_iff]; simp
      · refine Ev.neg h (Ev.eqr (Ev.now _) ?_)
        symm; rw [beq_eq_false_iff_ne]; intro hc; exact h (List.cons.inj hc).1) 0 () (Nat.zero_le _) trivial
    simpa using this
  · refine Ev.neg hlen (Ev.eqr (Ev.now _) ?_)
    symm; rw [beq_eq_false_iff_ne]; rintro rfl; exact hlen rfl
theorem impl_Formula_valid_ev (x : S55) (hl : x.f0.length ≤ 1000000000000) : Ev (fun k => impl_Formula_valid.f k x.f0 x.f1) (fOk x) := by
  unfold impl_Formula_valid.f fOk
  by_cases h1 : (x.f0.length : Int) ≥ 1
  · refine Ev.pos h1 ?_
    by_cases h2 : (x.f0.length : Int) ≤ 5
    · refine Ev.pos h2 ?_
      rw [decide_eq_true (⟨h1, h2⟩ : 1 ≤ (x.f0.length : Int) ∧ (x.f0.length : Int) ≤ 5), Bool.true_and]
      refine Ev.bind (impl_allWithin_ev x.f0 hl 7 (by omega) (by omega)) ?_
      cases x.f0.all (inR (-7) 7)
      · exact Ev.neg (by simp) (Ev.now _)
      · refine Ev.pos rfl ?_
        by_cases h3 : x.f1 ≥ 1
        · refine Ev.pos h3 (Ev.eqr (Ev.now _) ?_)
          rw [Bool.true_and, Bool.eq_iff_iff]; simp; omega
        · refine Ev.neg h3 (Ev.eqr (Ev.now _) ?_)
          rw [Bool.true_and]; symm; exact decide_eq_false (by omega)
    · refine Ev.neg h2 (Ev.eqr (Ev.now _) ?_)
      rw [decide_eq_false (by omega : ¬ (1 ≤ (x.f0.length : Int) ∧ (x.f0.length : Int) ≤ 5))]; rfl
  · refine Ev.neg h1 (Ev.eqr (Ev.now _) ?_)
    rw [decide_eq_false (by omega : ¬ (1 ≤ (x.f0.length : Int) ∧ (x.f0.length : Int) ≤ 5))]; rfl
theorem impl_FormulasValid_ev (l : List S55) (hl : ∀ x ∈ l, x.f0.length ≤ 1000000000000) : Ev (fun k => impl_FormulasValid.f k l) (fsOk l) := by
  unfold impl_FormulasValid.f fsOk
  by_cases h8 : (l.length : Int) > 8
  · refine Ev.pos h8 (Ev.eqr (Ev.now _) ?_)
    rw [decide_eq_false (by omega : ¬ (l.length : Int) ≤ 8)]; rfl
  refine Ev.neg h8 ?_
  rw [decide_eq_true (by omega : (l.length : Int) ≤ 8), Bool.true_and]
  have := Ev.over z55 l (fun k (_ : Unit) i => impl_FormulasValid.l0 k l l l.length i) (fun _ rest => goF (l.take (l.length - rest.length)) rest) (fun _ _ => True) (by
    intro s _
    refine Ev.succ ?_
    simp only [impl_FormulasValid.l0]
    exact Ev.neg (by omega) (Ev.now _)) (by
    intro s i rest _ hi hdr ih
    have hrl : rest.length + 1 + i = l.length := by
      have := congrArg List.length hdr
      simp at this; omega
    have hm : l.getD i z55 ∈ l := by
      rw [List.getD_eq_getElem?_getD, List.getElem?_eq_getElem hi]; exact List.getElem_mem hi
    have hx := hl _ hm
    refine Ev.succ ?_
    simp only [impl_FormulasValid.l0]
    refine Ev.pos (by omega) (Ev.pos (by omega) (Ev.pos (by omega) ?_))
    have hrd : rd_T55 l (i : Int) = l.getD i z55 := rfl
    have e2 : l.length - (l.getD i z55 :: rest).length = i := by simp; omega
    have e1 : l.length - rest.length = i + 1 := by omega
    have ih := ih () trivial
    rw [e1, take_rd l i hi] at ih
    rw [hrd, e2]
    generalize l.getD i z55 = x at hx ih
    simp only [goF]
    refine Ev.bind (impl_Formula_valid_ev x hx) ?_
    cases hf : fOk x
    · exact Ev.neg (by simp) (Ev.now _)
    refine Ev.pos rfl (Ev.pos (by omega) (Ev.someb ?_))
    simp only [Int.toNat_natCast, Bool.true_and]
    have htl : (l.take i).length = i := by simp; omega
    have inner := Ev.over z55 (l.take i) (fun k (_ : Unit) j => impl_FormulasValid.l1 k l l l.length i (l.take i) ((l.take i).length : Int) j x.f0 x.f1) (fun _ rest' => !(rest'.any (fun y => y.f0 == x.f0)) && goF (l.take i ++ [x]) rest) (fun _ _ => True) (by
      intro s _
      refine Ev.succ ?_
      simp only [impl_FormulasValid.l1]
      refine Ev.neg (by omega) ?_
      rw [w64 (by omega) (by omega)]
      exact ih) (by
      intro s j rest' _ hj _ ih'
      have hjm : (l.take i).getD j z55 ∈ l := by
        rw [List.getD_eq_getElem?_getD, List.getElem?_eq_getElem hj]; exact List.mem_of_mem_take (List.getElem_mem hj)
      have hxj := hl _ hjm
      refine Ev.succ ?_
      simp only [impl_FormulasValid.l1]
      refine Ev.pos (by omega) (Ev.pos (by omega) (Ev.pos (by omega) ?_))
      have hrd' : rd_T55 (l.take i) (j : Int) = (l.take i).getD j z55 := rfl
      rw [hrd']
      generalize (l.take i).getD j z55 = y at hxj
      refine Ev.bind (impl_equalNumbers_ev _ _ hxj) ?_
      simp only [List.any_cons]
      cases y.f0 == x.f0
      · refine Ev.neg (by simp) ?_
        rw [w64 (by omega) (by omega)]
        simpa using ih' () trivial
      · exact Ev.pos rfl (Ev.now _)) 0 () (Nat.zero_le _) trivial
    simpa using inner) 0 () (Nat.zero_le _) trivial
  simpa using this

/-! what a reader reads: plain -/
def isPre (p s : List Int) : Bool := decide (p.length ≤ s.length) && (s.take p.length == p)
theorem impl_begins_ev (s p : List Int) (hs : s.length ≤ 1000000000000) : Ev (fun k => impl_begins.f k s p) (isPre p s) := by
  unfold impl_begins.f isPre
  by_cases h : (s.length : Int) ≥ (p.length : Int)
  · rw [decide_eq_true (by omega : p.length ≤ s.length), Bool.true_and]
    refine Ev.pos h (Ev.pos (by omega) (Ev.pos (by omega) ?_))
    rw [Int.toNat_natCast]
    refine Ev.bind (impl_equalNumbers_ev _ p (by rw [List.length_take]; omega)) (Ev.now _)
  · rw [decide_eq_false (by omega : ¬ p.length ≤ s.length)]
    exact Ev.neg h (Ev.now _)
def rdA (rec : List Int → OutC) (s : List Int) : List S55 → OutC → OutC
  | [], acc => acc
  | f :: fs, acc => if isPre f.f0 s = true then (if (rec (s.drop f.f0.length)).f0 = 0 then rdA rec s fs acc else rdA rec s fs (outW acc f (rec (s.drop f.f0.length)))) else rdA rec s fs acc
def rdC (rec : List Int → OutC) (s : List Int) : Int → List S55 → List (Int × OutC)
  | _, [] => []
  | i, f :: fs => if isPre f.f0 s = true then (if (rec (s.drop f.f0.length)).f0 = 0 then rdC rec s (i + 1) fs else (i, rec (s.drop f.f0.length)) :: rdC rec s (i + 1) fs) else rdC rec s (i + 1) fs
def rdG (L : List S55) : Nat → List Int → OutC
  | 0, s => if s = [] then ⟨1, 0, 0⟩ else ⟨0, 0, 0⟩
  | n + 1, s => if s = [] then ⟨1, 0, 0⟩ else rdA (rdG L n) s L ⟨0, 0, 0⟩
def rdO (L : List S55) (s : List Int) : OutC := rdG L s.length s
/-- The formulas with which readings begin, and what is left behind each. -/
def rdCalls (L : List S55) (s : List Int) : List (Int × OutC) := if s = [] then [] else rdC (rdO L) s 0 L
theorem isPre_len {p s : List Int} (h : isPre p s = true) : p.length ≤ s.length := by
  unfold isPre at h; simp at h; exact h.1
theorem rdA_congr {rec rec' : List Int → OutC} {s : List Int} : ∀ {L : List S55} {acc : OutC}, (∀ f ∈ L, isPre f.f0 s = true → rec (s.drop f.f0.length) = rec' (s.drop f.f0.length)) → rdA rec s L acc = rdA rec' s L acc
  | [], _, _ => rfl
  | f :: fs, acc, h => by
    simp only [rdA]
    by_cases hp : isPre f.f0 s = true
    · rw [if_pos hp, if_pos hp, h f List.mem_cons_self hp, rdA_congr (fun g hg => h g (List.mem_cons_of_mem _ hg)), rdA_congr (fun g hg => h g (List.mem_cons_of_mem _ hg))]
    · rw [if_neg hp, if_neg hp, rdA_congr (fun g hg => h g (List.mem_cons_of_mem _ hg))]
theorem rdG_more {L : List S55} (hL : ∀ f ∈ L, 1 ≤ f.f0.length) : ∀ (n : Nat) (s : List Int), s.length ≤ n → ∀ m, s.length ≤ m → rdG L n s = rdG L m s
  | 0, s, h, m, _ => by
    obtain rfl : s = [] := List.eq_nil_of_length_eq_zero (by omega)
    cases m <;> simp [rdG]
  | n + 1, s, h, m, h' => by
    by_cases hs : s = []
    · subst hs
      cases m <;> simp [rdG]
    · cases m with
      | zero => exact absurd (List.eq_nil_of_length_eq_zero (by omega)) hs
      | succ m =>
        simp only [rdG]
        rw [if_neg hs, if_neg hs]
        refine rdA_congr (fun f hf hp => ?_)
        have h1 := hL f hf
        have h2 : 0 < s.length := List.length_pos_iff.2 hs
        exact rdG_more hL n _ (by rw [List.length_drop]; omega) m (by rw [List.length_drop]; omega)
theorem rdO_nil (L : List S55) : rdO L [] = ⟨1, 0, 0⟩ := by simp [rdO, rdG]
theorem rdO_step {L : List S55} (hL : ∀ f ∈ L, 1 ≤ f.f0.length) {s : List Int} (hs : s ≠ []) : rdO L s = rdA (rdO L) s L ⟨0, 0, 0⟩ := by
  have h2 : 0 < s.length := List.length_pos_iff.2 hs
  obtain ⟨n, hn⟩ : ∃ n, s.length = n + 1 := ⟨s.length - 1, by omega⟩
  conv => lhs; unfold rdO
  rw [hn]
  simp only [rdG]
  rw [if_neg hs]
  refine rdA_congr (fun f hf hp => ?_)
  have h1 := hL f hf
  exact rdG_more hL n _ (by rw [List.length_drop]; omega) _ (Nat.le_refl _)
def okR (L : List S55) (S : List Int) : Bool := fsOk L && (decide (S.length ≤ 23) && S.all (inR (-20) 20))
theorem okR_of {L : List S55} {S : List Int} (h : okR L S = true) : fsOk L = true ∧ S.length ≤ 23 := by
  unfold okR at h; simp at h; exact ⟨h.1, h.2.1⟩
def fMany (L : List S55) (S : List Int) : Int := if okR L S = true then (rdO L S).f0 else -1
def fFew (L : List S55) (S : List Int) : Int := if okR L S = true then (if (rdO L S).f0 = 0 then -1 else (rdO L S).f2) else -1

/-! words for own walks -/
theorem cut_take {P : Program} {α : Type} (d : Kd α) (t e : TypeId) {i : TypeInfo} (ht : P.underlying t = some (.slice e)) (hi : P.info? e = some i) {w : World} {A : Option Addr} {c : Nat} {xs : List α} (j : Int) (hr : d.C w A xs.length xs) (hc : xs.length ≤ c) (h0 : 0 ≤ j) (hm : j ≤ xs.length) :
    (∀ W : World, (Instr.slice t (.slice A xs.length c) none (some (.int .i64 j)) none).run P W = .ok (.slice A j.toNat c) W) ∧ d.C w A j.toNat (xs.take j.toNat) ∧ j.toNat ≤ c ∧ (xs.take j.toNat).length = j.toNat := by
  have e1 : (xs.take j.toNat).length = j.toNat := by rw [List.length_take]; omega
  have h := Kd.C_take (m := j.toNat) hr (by omega)
  rw [e1] at h
  exact ⟨cut_to t e .i64 ht hi A _ c j h0 hm hc, h, by omega, e1⟩
theorem cut_drop {P : Program} {α : Type} (d : Kd α) (t e : TypeId) {i : TypeInfo} (ht : P.underlying t = some (.slice e)) (hi : P.info? e = some i) (hsz : i.size = d.sz) {w : World} {A : Option Addr} {c : Nat} {xs : List α} (j : Int) (hr : d.C w A xs.length xs) (hc : xs.length ≤ c) (h0 : 0 ≤ j) (hm : j ≤ xs.length) :
    ∃ A' c', (∀ W : World, (Instr.slice t (.slice A xs.length c) (some (.int .i64 j)) none none).run P W = .ok (.slice A' (xs.length - j.toNat) c') W) ∧ d.C w A' (xs.length - j.toNat) (xs.drop j.toNat) ∧ xs.length - j.toNat ≤ c' ∧ (xs.drop j.toNat).length = xs.length - j.toNat := by
  have e1 : (xs.drop j.toNat).length = xs.length - j.toNat := by rw [List.length_drop]
  have h := Kd.C_drop (m := j.toNat) (c := c) hr (by omega) hc
  rw [e1] at h
  exact ⟨_, _, cut_from t e .i64 ht hi d.sz hsz A _ c j h0 hm, h, by omega, e1⟩
theorem later_cell {w1 : World} {a : Addr} {v : Value} (h : w1.cell? a = some v) : ∀ o, (w1.alloc o).cell? a = some v := fun o => pw_cell_below (below_alloc (Below.refl _ _) o) h
theorem lit_R {α : Type} (d : Kd α) (W : World) (base e : Nat) (hbase : base ≤ W.heap.size) {xs : List α} {inner : List Value} (hrep : Reps (d.M W base (fun _ => False)) d.sz xs inner) (hm : xs.length ≤ 9223372036854775807) :
    d.R e (W.alloc (.cells inner.toArray e)) base (fun _ => True) (.slice (some ⟨W.heap.size, 0, none⟩) xs.length xs.length) xs := by
  refine ⟨fun _ _ => trivial, inner, ?_, ?_⟩
  · have h2 := World.ownsRow_lit (base := base) (e := e) (size := d.sz) W inner.toArray xs.length hbase (by simpa [maxLen] using hm) (by simpa using hrep.1)
    simpa using h2
  · refine hrep.imp_ (fun p c hp => d.M_mono (fun k hk => hk.elim) (Kd.M_below hp (below_alloc (Below.refl _ _) _)))
theorem lit_C {α : Type} (d : Kd α) (W : World) (e : Nat) {xs : List α} {inner : List Value} (hrep : Reps (d.M W W.heap.size (fun _ => False)) d.sz xs inner) (hm : xs.length ≤ 9223372036854775807) :
    d.C (W.alloc (.cells inner.toArray e)) (some ⟨W.heap.size, 0, none⟩) xs.length xs := (Kd.R_reads' (lit_R d W _ e (Nat.le_refl _) hrep hm)).2.2

/-! the reader -/
/-- The reader's block at R, its map's block at M: what is in the map is so. -/
structure RdSt (w0 w : World) (L : List S55) (S : List Int) (A0 : Option Addr) (c0 : Nat) (A1 : Option Addr) (c1 : Nat) (R M : Nat) : Prop where
  below : Below w0.heap.size w0 w
  blk : w.heap[R]? = some (.cells #[.slice A0 L.length c0, .slice A1 S.length c1, .map (some M)] 134 (0, 0))
  memo : ∃ F, MapFn w M F ∧ ∀ k v, F k = some v → ∃ p : Nat, k = (p : Int) ∧ p ≤ S.length ∧ v = outV (rdO L (S.drop p))
theorem RdSt.kept {w0 w w' : World} {L : List S55} {S : List Int} {A0 : Option Addr} {c0 : Nat} {A1 : Option Addr} {c1 : Nat} {R M : Nat} (h : RdSt w0 w L S A0 c0 A1 c1 R M) (hb : Below w.heap.size w w') : RdSt w0 w' L S A0 c0 A1 c1 R M := by
  obtain ⟨F, hF, hF'⟩ := h.memo
  exact ⟨below_then h.below h.below.size hb, blk_below h.blk hb, F, hF.move (hb.block _ hF.lt), hF'⟩
theorem RdSt.far {w0 w w' : World} {L : List S55} {S : List Int} {A0 : Option Addr} {c0 : Nat} {A1 : Option Addr} {c1 : Nat} {R M : Nat} (h : RdSt w0 w L S A0 c0 A1 c1 R M) (hb : Below w0.heap.size w0 w') (hR : w'.heap[R]? = w.heap[R]?) (hM : w'.heap[M]? = w.heap[M]?) : RdSt w0 w' L S A0 c0 A1 c1 R M := by
  obtain ⟨F, hF, hF'⟩ := h.memo
  exact ⟨hb, hR.trans h.blk, F, hF.move hM, hF'⟩
theorem RdSt.ne {w0 w : World} {L : List S55} {S : List Int} {A0 : Option Addr} {c0 : Nat} {A1 : Option Addr} {c1 : Nat} {R M : Nat} (h : RdSt w0 w L S A0 c0 A1 c1 R M) {g t : Nat} {cs : Array Value} {fr : Nat × Nat} (hg : w.heap[g]? = some (.cells cs t fr)) : g ≠ M := by
  rintro rfl
  obtain ⟨F, ⟨es, clock, hb, _⟩, _⟩ := h.memo
  rw [hb] at hg; cases hg
theorem RdSt.set {w0 w : World} {L : List S55} {S : List Int} {A0 : Option Addr} {c0 : Nat} {A1 : Option Addr} {c1 : Nat} {R M : Nat} (h : RdSt w0 w L S A0 c0 A1 c1 R M) {g : Nat} (hB : w0.heap.size ≤ g) (hR : g ≠ R) (hM : g ≠ M) (j : Nat) (v : Value) : RdSt w0 (w.setCell ⟨g, j, none⟩ v) L S A0 c0 A1 c1 R M :=
  h.far (below_set h.below hB) (Below.heap_setCell w ⟨g, j, none⟩ v R hR.symm) (Below.heap_setCell w ⟨g, j, none⟩ v M hM.symm)

set_option maxHeartbeats 8000000 in
set_option maxRecDepth 100000 in
theorem impl_read_end {L : List S55} {S : List Int} {A0 : Option Addr} {c0 : Nat} {A1 : Option Addr} {c1 : Nat} {w0 : World} {R M : Nat} (hr0 : Kd.C k55 w0 A0 L.length L) (hc0 : L.length ≤ c0) (hr1 : Kd.C (Kd.int .i64) w0 A1 S.length S) (hc1 : S.length ≤ c1)
    (hL : ∀ f ∈ L, 1 ≤ f.f0.length ∧ f.f0.length ≤ 5) (hLl : L.length ≤ 8) (hSl : S.length ≤ 23) (hM : w0.heap.size ≤ M) (hR : w0.heap.size ≤ R) (hRM : R ≠ M) (w : World) (v : Value) (hst : RdSt w0 w L S A0 c0 A1 c1 R M) :
    Calls Try.prog 78 #[.pointer (some ⟨R, 0, none⟩), .int .i64 (S.length : Int), v] w fun e w' => e = .returned (outV (rdO L (S.drop S.length))) ∧ RdSt w0 w' L S A0 c0 A1 c1 R M ∧ Kept w w' (fun k => k = M) := by
  have hu1 := Try.underlying109
  have hu2 := Try.underlying55
  have hu3 := Try.underlying134
  clear hr0 hc0 hr1 hc1 hL
  have hS : S.drop S.length = [] := List.drop_length
  rw [hS, rdO_nil]
  have HST := Aside0.mk hst
  have cR1 : w.cell? ⟨R, 1, none⟩ = some (.slice A1 S.length c1) := (blk_cell hst.blk 1).trans rfl
  clear hst hS
  go_enter Try.func78, Try.ntmps78
  go_wp2_with (first
    | ((with_reducible refine gate_dst (N := 6) rfl ?_); refine box_event ?hg (N := 6) ?hd (cs := #[.int .i64 0, .int .i64 0, .int .i64 0]) (t := 109) ?hr ?_; (case hd => rfl); (case hg => rfl); (case hr => first | (go_simp; done) | (go_simp; rfl)); intro g6 hg w6 hbox hb; have W6 := Aside0.mk hbox; have HB9 := Aside0.mk hb; have N6 := Aside0.mk (show w.heap.size ≤ g6 from (by rw [hg]; exact Nat.le_refl _)); have cS1 := pw_cell_below hb cR1; have y0 : w6.cell? ⟨g6, 0, none⟩ = some (.int .i64 0) := (blk_cell W6.out 0).trans rfl; have y1 : w6.cell? ⟨g6, 1, none⟩ = some (.int .i64 0) := (blk_cell W6.out 1).trans rfl; have y2 : w6.cell? ⟨g6, 2, none⟩ = some (.int .i64 0) := (blk_cell W6.out 2).trans rfl; have f0 := blk_frozen W6.out 0; have f1 := blk_frozen W6.out 1; have f2 := blk_frozen W6.out 2; clear hg hbox hb))
  refine bodyPost_ret (results_cell_row rfl _ _ g6 109 #[.int .i64 1, .int .i64 0, .int .i64 0] (0, 0) _ rfl (blk_put (cs := #[.int .i64 1, .int .i64 0, .int .i64 0]) (blk_put (cs := #[.int .i64 1, .int .i64 0, .int .i64 0]) (blk_put (cs := #[.int .i64 0, .int .i64 0, .int .i64 0]) W6.out 0 _ rfl) 1 _ rfl) 2 _ rfl) Try.underlying109 rfl (by kernel_rfl)) rfl ?_
  exact ⟨rfl, HST.out.kept (below_set (below_set (below_set HB9.out N6.out) N6.out) N6.out), Kept.of_below (below_set (below_set (below_set HB9.out N6.out) N6.out) N6.out) _⟩
set_option maxHeartbeats 8000000 in
set_option maxRecDepth 100000 in
theorem impl_read_nil {L : List S55} {S : List Int} {A0 : Option Addr} {c0 : Nat} {A1 : Option Addr} {c1 : Nat} {w0 : World} {R M : Nat} (hr0 : Kd.C k55 w0 A0 L.length L) (hc0 : L.length ≤ c0) (hr1 : Kd.C (Kd.int .i64) w0 A1 S.length S) (hc1 : S.length ≤ c1)
    (hL : ∀ f ∈ L, 1 ≤ f.f0.length ∧ f.f0.length ≤ 5) (hLl : L.length ≤ 8) (hSl : S.length ≤ 23) (hM : w0.heap.size ≤ M) (hR : w0.heap.size ≤ R) (hRM : R ≠ M) (n : Nat) :
    ∀ (p : Nat) (w : World), p ≤ S.length → S.length - p ≤ n → RdSt w0 w L S A0 c0 A1 c1 R M →
    Calls Try.prog 78 #[.pointer (some ⟨R, 0, none⟩), .int .i64 (p : Int), .nilFunc] w fun e w' => e = .returned (outV (rdO L (S.drop p))) ∧ RdSt w0 w' L S A0 c0 A1 c1 R M ∧ Kept w w' (fun k => k = M) := by
  have HR0 := Aside0.mk hr0
  have HC0 := Aside0.mk hc0
  have HR1 := Aside0.mk hr1
  have HC1 := Aside0.mk hc1
  have HLL := Aside0.mk hL
  have HMR := Aside0.mk (And.intro hM (And.intro hR hRM))
  clear hr0 hc0 hr1 hc1 hL hM hR hRM
  have hu1 := Try.underlying109
  have hu2 := Try.underlying55
  have hu3 := Try.underlying134
  induction n with
  | zero =>
    intro p w hp hn hst
    obtain rfl : p = S.length := by omega
    exact impl_read_end HR0.out HC0.out HR1.out HC1.out HLL.out hLl hSl HMR.out.1 HMR.out.2.1 HMR.out.2.2 w _ hst
  | succ n ih =>
    intro p w hp hn hst
    have IH := Aside0.mk ih
    clear ih
    have HST := Aside0.mk hst
    have HP := Aside0.mk (And.intro hp hn)
    obtain ⟨F, hF, hF'⟩ := hst.memo
    have HF := Aside0.mk (And.intro hF hF')
    have cR0 : w.cell? ⟨R, 0, none⟩ = some (.slice A0 L.length c0) := (blk_cell hst.blk 0).trans rfl
    have cR1 : w.cell? ⟨R, 1, none⟩ = some (.slice A1 S.length c1) := (blk_cell hst.blk 1).trans rfl
    have cR2 : w.cell? ⟨R, 2, none⟩ = some (.map (some M)) := (blk_cell hst.blk 2).trans rfl
    clear hst hF hF'
    by_cases hps : p = S.length
    · subst hps
      exact impl_read_end HR0.out HC0.out HR1.out HC1.out HLL.out hLl hSl HMR.out.1 HMR.out.2.1 HMR.out.2.2 w _ HST.out
    have e1 : ((p : Int) == (S.length : Int)) = false := by rw [beq_eq_false_iff_ne]; omega
    have e1' : (p == S.length) = false := by rw [beq_eq_false_iff_ne]; exact hps
    have hne : S.drop p ≠ [] := by
      intro h
      have := congrArg List.length h
      rw [List.length_drop, List.length_nil] at this
      omega
    have HNE := Aside0.mk hne
    clear hne hps hp hn
    cases hFp : F (p : Int) with
    | some v =>
      have hv : v = outV (rdO L (S.drop p)) := by
        obtain ⟨p', h1, _, h3⟩ := HF.out.2 _ _ hFp
        obtain rfl : p = p' := by omega
        exact h3
      obtain ⟨O, hO⟩ : ∃ O, O = rdO L (S.drop p) := ⟨_, rfl⟩
      rw [← hO] at hv ⊢
      rw [hv] at hFp
      obtain ⟨x, y, z⟩ := O
      have HFP := Aside0.mk hFp
      clear hv hO hFp
      have hq : ∀ w, (binOp .eql 112 .nilFunc .nilFunc).run Try.prog w = .ok (.bool true) w := fun _ => by kernel_rfl
      go_enter Try.func78, Try.ntmps78
      go_upto_region 3 with (first
        | ((with_reducible refine gate_dst (N := 6) rfl ?_); refine box_event ?hg (N := 6) ?hd (cs := #[.int .i64 0, .int .i64 0, .int .i64 0]) (t := 109) ?hr ?_; (case hd => rfl); (case hg => rfl); (case hr => first | (go_simp; done) | (go_simp; rfl)); intro g6 hg w6 hbox hb; have HK6 := Aside0.mk hbox; have HB6 := Aside0.mk hb; have N6 := Aside0.mk (show w.heap.size ≤ g6 from (by rw [hg]; exact Nat.le_refl _)); have cS1 := pw_cell_below hb cR1; have cS2 := pw_cell_below hb cR2; have cS0 := pw_cell_below hb cR0; have HL6 := Aside0.mk (MapFn.look (HF.out.1.move (hb.block _ HF.out.1.lt)) Try.underlying132 Try.underlying3 (z := .agg #[.int .i64 0, .int .i64 0, .int .i64 0]) (fun _ => by kernel_rfl) (p : Int) true); clear hg hbox hb))
      have hlk := HL6.out
      rw [HFP.out] at hlk
      simp only [if_true, Option.getD_some, Option.isSome_some, outV] at hlk
      go_upto_region 4 with (first
        | ((with_reducible refine gate_dst (N := 7) rfl ?_); refine box_event ?hg (N := 7) ?hd (cs := #[.int .i64 0, .int .i64 0, .int .i64 0]) (t := 109) ?hr ?_; (case hd => rfl); (case hg => rfl); (case hr => first | (go_simp; done) | (go_simp; rfl)); intro g7 hg w7 hbox hb; have HK7 := Aside0.mk hbox; have HB7 := Aside0.mk (below_step HB6.out hb); have HK6' := Aside0.mk (blk_below HK6.out hb); have NE := Aside0.mk (show g6 ≠ g7 from (by rw [hg]; exact Nat.ne_of_lt (blk_lt HK6.out))); have N7 := Aside0.mk (show w.heap.size ≤ g7 from (by rw [hg]; exact HB6.out.size)); have cz0 : w7.cell? ⟨g7, 0, none⟩ = some (.int .i64 0) := (blk_cell HK7.out 0).trans rfl; have cz1 : w7.cell? ⟨g7, 1, none⟩ = some (.int .i64 0) := (blk_cell HK7.out 1).trans rfl; have cz2 : w7.cell? ⟨g7, 2, none⟩ = some (.int .i64 0) := (blk_cell HK7.out 2).trans rfl; have fz0 := blk_frozen HK7.out 0; have fz1 := blk_frozen HK7.out 1; have fz2 := blk_frozen HK7.out 2; clear hg hbox hb))
      have W7 : Aside0 ((((w7.setCell ⟨g7, 0, none⟩ (.int .i64 x)).setCell ⟨g7, 1, none⟩ (.int .i64 y)).setCell ⟨g7, 2, none⟩ (.int .i64 z)).heap[g7]? = some (.cells #[.int .i64 x, .int .i64 y, .int .i64 z] 109 (0, 0))) := ⟨blk_put (cs := #[.int .i64 x, .int .i64 y, .int .i64 0]) (blk_put (cs := #[.int .i64 x, .int .i64 0, .int .i64 0]) (blk_put (cs := #[.int .i64 0, .int .i64 0, .int .i64 0]) HK7.out 0 _ rfl) 1 _ rfl) 2 _ rfl⟩
      have W6 : Aside0 ((((w7.setCell ⟨g7, 0, none⟩ (.int .i64 x)).setCell ⟨g7, 1, none⟩ (.int .i64 y)).setCell ⟨g7, 2, none⟩ (.int .i64 z)).heap[g6]? = some (.cells #[.int .i64 0, .int .i64 0, .int .i64 0] 109 (0, 0))) := ⟨blk_far (blk_far (blk_far HK6'.out NE.out _) NE.out _) NE.out _⟩
      have HB9 : Aside0 (Below w.heap.size w (((w7.setCell ⟨g7, 0, none⟩ (.int .i64 x)).setCell ⟨g7, 1, none⟩ (.int .i64 y)).setCell ⟨g7, 2, none⟩ (.int .i64 z))) := ⟨below_set (below_set (below_set HB7.out N7.out) N7.out) N7.out⟩
      clear HB7 HK7 HK6' HB6 HK6 cz0 cz1 cz2 fz0 fz1 fz2 cS0 cS1 cS2
      generalize (((w7.setCell ⟨g7, 0, none⟩ (.int .i64 x)).setCell ⟨g7, 1, none⟩ (.int .i64 y)).setCell ⟨g7, 2, none⟩ (.int .i64 z)) = w9 at W7 W6 HB9 ⊢
      have cS0 := pw_cell_below HB9.out cR0
      have cS1 := pw_cell_below HB9.out cR1
      have cS2 := pw_cell_below HB9.out cR2
      have y0 : w9.cell? ⟨g6, 0, none⟩ = some (.int .i64 0) := (blk_cell W6.out 0).trans rfl
      have y1 : w9.cell? ⟨g6, 1, none⟩ = some (.int .i64 0) := (blk_cell W6.out 1).trans rfl
      have y2 : w9.cell? ⟨g6, 2, none⟩ = some (.int .i64 0) := (blk_cell W6.out 2).trans rfl
      have f0 := blk_frozen W6.out 0
      have f1 := blk_frozen W6.out 1
      have f2 := blk_frozen W6.out 2
      have s0 : w9.cell? ⟨g7, 0, none⟩ = some (.int .i64 x) := (blk_cell W7.out 0).trans rfl
      have s1 : w9.cell? ⟨g7, 1, none⟩ = some (.int .i64 y) := (blk_cell W7.out 1).trans rfl
      have s2 : w9.cell? ⟨g7, 2, none⟩ = some (.int .i64 z) := (blk_cell W7.out 2).trans rfl
      go_wp2
      refine bodyPost_ret (results_cell_row rfl _ _ g6 109 #[.int .i64 x, .int .i64 y, .int .i64 z] (0, 0) _ rfl (blk_put (cs := #[.int .i64 x, .int .i64 y, .int .i64 0]) (blk_put (cs := #[.int .i64 x, .int .i64 0, .int .i64 0]) (blk_put (cs := #[.int .i64 0, .int .i64 0, .int .i64 0]) W6.out 0 _ rfl) 1 _ rfl) 2 _ rfl) Try.underlying109 rfl (by kernel_rfl)) rfl ?_
      exact ⟨rfl, HST.out.kept (below_set (below_set (below_set HB9.out N6.out) N6.out) N6.out), Kept.of_below (below_set (below_set (below_set HB9.out N6.out) N6.out) N6.out) _⟩
    | none =>
      have HFP := Aside0.mk hFp
      clear hFp
      have hs := rdO_step (fun f hf => (HLL.out f hf).1) HNE.out
      have HS := Aside0.mk hs
      clear hs
      have hq : ∀ w, (binOp .eql 112 .nilFunc .nilFunc).run Try.prog w = .ok (.bool true) w := fun _ => by kernel_rfl
      have hq2 : ∀ w, (binOp .neq 112 .nilFunc .nilFunc).run Try.prog w = .ok (.bool false) w := fun _ => by kernel_rfl
      go_enter Try.func78, Try.ntmps78
      go_upto_region 3 with (first
        | ((with_reducible refine gate_dst (N := 6) rfl ?_); refine box_event ?hg (N := 6) ?hd (cs := #[.int .i64 0, .int .i64 0, .int .i64 0]) (t := 109) ?hr ?_; (case hd => rfl); (case hg => rfl); (case hr => first | (go_simp; done) | (go_simp; rfl)); intro g6 hg w6 hbox hb; have HK6 := Aside0.mk hbox; have HB6 := Aside0.mk hb; have N6 := Aside0.mk (show w.heap.size ≤ g6 from (by rw [hg]; exact Nat.le_refl _)); have cS1 := pw_cell_below hb cR1; have cS2 := pw_cell_below hb cR2; have cS0 := pw_cell_below hb cR0; have HL6 := Aside0.mk (MapFn.look (HF.out.1.move (hb.block _ HF.out.1.lt)) Try.underlying132 Try.underlying3 (z := .agg #[.int .i64 0, .int .i64 0, .int .i64 0]) (fun _ => by kernel_rfl) (p : Int) true); clear hg hbox hb))
      have hlk := HL6.out
      rw [HFP.out] at hlk
      simp only [if_true, Option.getD_none, Option.isSome_none] at hlk
      go_upto_region 4 with (first
        | ((with_reducible refine gate_dst (N := 7) rfl ?_); refine box_event ?hg (N := 7) ?hd (cs := #[.int .i64 0, .int .i64 0, .int .i64 0]) (t := 109) ?hr ?_; (case hd => rfl); (case hg => rfl); (case hr => first | (go_simp; done) | (go_simp; rfl)); intro g7 hg w7 hbox hb; have HK7 := Aside0.mk hbox; have HB7 := Aside0.mk (below_step HB6.out hb); have HK6' := Aside0.mk (blk_below HK6.out hb); have NE := Aside0.mk (show g6 ≠ g7 from (by rw [hg]; exact Nat.ne_of_lt (blk_lt HK6.out))); have N7 := Aside0.mk (show w.heap.size ≤ g7 from (by rw [hg]; exact HB6.out.size)); have cz0 : w7.cell? ⟨g7, 0, none⟩ = some (.int .i64 0) := (blk_cell HK7.out 0).trans rfl; have cz1 : w7.cell? ⟨g7, 1, none⟩ = some (.int .i64 0) := (blk_cell HK7.out 1).trans rfl; have cz2 : w7.cell? ⟨g7, 2, none⟩ = some (.int .i64 0) := (blk_cell HK7.out 2).trans rfl; have fz0 := blk_frozen HK7.out 0; have fz1 := blk_frozen HK7.out 1; have fz2 := blk_frozen HK7.out 2; clear hg hbox hb))
      have W7 : Aside0 ((((w7.setCell ⟨g7, 0, none⟩ (.int .i64 0)).setCell ⟨g7, 1, none⟩ (.int .i64 0)).setCell ⟨g7, 2, none⟩ (.int .i64 0)).heap[g7]? = some (.cells #[.int .i64 0, .int .i64 0, .int .i64 0] 109 (0, 0))) := ⟨blk_put (cs := #[.int .i64 0, .int .i64 0, .int .i64 0]) (blk_put (cs := #[.int .i64 0, .int .i64 0, .int .i64 0]) (blk_put (cs := #[.int .i64 0, .int .i64 0, .int .i64 0]) HK7.out 0 _ rfl) 1 _ rfl) 2 _ rfl⟩
      have W6 : Aside0 ((((w7.setCell ⟨g7, 0, none⟩ (.int .i64 0)).setCell ⟨g7, 1, none⟩ (.int .i64 0)).setCell ⟨g7, 2, none⟩ (.int .i64 0)).heap[g6]? = some (.cells #[.int .i64 0, .int .i64 0, .int .i64 0] 109 (0, 0))) := ⟨blk_far (blk_far (blk_far HK6'.out NE.out _) NE.out _) NE.out _⟩
      have HB9 : Aside0 (Below w.heap.size w (((w7.setCell ⟨g7, 0, none⟩ (.int .i64 0)).setCell ⟨g7, 1, none⟩ (.int .i64 0)).setCell ⟨g7, 2, none⟩ (.int .i64 0))) := ⟨below_set (below_set (below_set HB7.out N7.out) N7.out) N7.out⟩
      clear HB7 HK7 HK6' HB6 HK6 cz0 cz1 cz2 fz0 fz1 fz2 cS0 cS1 cS2
      generalize (((w7.setCell ⟨g7, 0, none⟩ (.int .i64 0)).setCell ⟨g7, 1, none⟩ (.int .i64 0)).setCell ⟨g7, 2, none⟩ (.int .i64 0)) = w9 at W7 W6 HB9 ⊢
      have cS0 := pw_cell_below HB9.out cR0
      have cS1 := pw_cell_below HB9.out cR1
      have cS2 := pw_cell_below HB9.out cR2
      have y0 : w9.cell? ⟨g6, 0, none⟩ = some (.int .i64 0) := (blk_cell W6.out 0).trans rfl
      have y1 : w9.cell? ⟨g6, 1, none⟩ = some (.int .i64 0) := (blk_cell W6.out 1).trans rfl
      have y2 : w9.cell? ⟨g6, 2, none⟩ = some (.int .i64 0) := (blk_cell W6.out 2).trans rfl
      have f0 := blk_frozen W6.out 0
      have f1 := blk_frozen W6.out 1
      have f2 := blk_frozen W6.out 2
      go_upto_region 7 with (first
        | ((with_reducible refine gate_dst (N := 9) rfl ?_); refine box_event ?hg (N := 9) ?hd (cs := #[.int .i64 0, .int .i64 0, .int .i64 0]) (t := 109) ?hr ?_; (case hd => rfl); (case hg => rfl); (case hr => first | (go_simp; done) | (go_simp; rfl)); intro g9 hg w10 hbox hb; have HK9 := Aside0.mk hbox; have HB10 := Aside0.mk (below_step HB9.out hb); have W6' := Aside0.mk (blk_below W6.out hb); have NE9 := Aside0.mk (show g6 ≠ g9 from (by rw [hg]; exact Nat.ne_of_lt (blk_lt W6.out))); have N9 := Aside0.mk (show w.heap.size ≤ g9 from (by rw [hg]; exact HB9.out.size)); have cz0 : w10.cell? ⟨g9, 0, none⟩ = some (.int .i64 0) := (blk_cell HK9.out 0).trans rfl; have cz1 : w10.cell? ⟨g9, 1, none⟩ = some (.int .i64 0) := (blk_cell HK9.out 1).trans rfl; have cz2 : w10.cell? ⟨g9, 2, none⟩ = some (.int .i64 0) := (blk_cell HK9.out 2).trans rfl; have fz0 := blk_frozen HK9.out 0; have fz1 := blk_frozen HK9.out 1; have fz2 := blk_frozen HK9.out 2; clear cS0 cS1 cS2; have cS0 := pw_cell_below HB10.out cR0; have cS1 := pw_cell_below HB10.out cR1; have cS2 := pw_cell_below HB10.out cR2; clear hg hbox hb))
      have W9 : Aside0 ((((w10.setCell ⟨g9, 0, none⟩ (.int .i64 0)).setCell ⟨g9, 1, none⟩ (.int .i64 0)).setCell ⟨g9, 2, none⟩ (.int .i64 0)).heap[g9]? = some (.cells #[.int .i64 0, .int .i64 0, .int .i64 0] 109 (0, 0))) := ⟨blk_put (cs := #[.int .i64 0, .int .i64 0, .int .i64 0]) (blk_put (cs := #[.int .i64 0, .int .i64 0, .int .i64 0]) (blk_put (cs := #[.int .i64 0, .int .i64 0, .int .i64 0]) HK9.out 0 _ rfl) 1 _ rfl) 2 _ rfl⟩
      have W6b : Aside0 ((((w10.setCell ⟨g9, 0, none⟩ (.int .i64 0)).setCell ⟨g9, 1, none⟩ (.int .i64 0)).setCell ⟨g9, 2, none⟩ (.int .i64 0)).heap[g6]? = some (.cells #[.int .i64 0, .int .i64 0, .int .i64 0] 109 (0, 0))) := ⟨blk_far (blk_far (blk_far W6'.out NE9.out _) NE9.out _) NE9.out _⟩
      have HB11 : Aside0 (Below w.heap.size w (((w10.setCell ⟨g9, 0, none⟩ (.int .i64 0)).setCell ⟨g9, 1, none⟩ (.int .i64 0)).setCell ⟨g9, 2, none⟩ (.int .i64 0))) := ⟨below_set (below_set (below_set HB10.out N9.out) N9.out) N9.out⟩
      clear HB10 HK9 W6' W6 W7 HB9 cz0 cz1 cz2 fz0 fz1 fz2 cS0 cS1 cS2 y0 y1 y2 f0 f1 f2
      generalize (((w10.setCell ⟨g9, 0, none⟩ (.int .i64 0)).setCell ⟨g9, 1, none⟩ (.int .i64 0)).setCell ⟨g9, 2, none⟩ (.int .i64 0)) = w11 at W9 W6b HB11 ⊢
      have cS0 := pw_cell_below HB11.out cR0
      have HST11 := Aside0.mk (HST.out.kept HB11.out)
      have HKP := Aside0.mk (Kept.of_below HB11.out (fun k => k = M))
      clear HB11 HL6 hlk cR0 cR1 cR2
      go_wp2
      go_loopg [42] L.length (fun kq v42 w' => ∃ (i : Nat) (acc : OutC), v42 = .int .i64 (i : Int) ∧ Aside0 (kq = L.length - i ∧ i ≤ L.length ∧ rdA (rdO L) (S.drop p) (L.drop i) acc = rdO L (S.drop p)) ∧ Aside0 (w'.heap[g9]? = some (.cells #[.int .i64 acc.f0, .int .i64 acc.f1, .int .i64 acc.f2] 109 (0, 0)) ∧ w'.heap[g6]? = some (.cells #[.int .i64 0, .int .i64 0, .int .i64 0] 109 (0, 0))) ∧ Aside0 (RdSt w0 w' L S A0 c0 A1 c1 R M) ∧ Aside0 (Kept w w' (fun k => k = M)))
      case atStart => exact ⟨0, ⟨0, 0, 0⟩, rfl, ⟨rfl, Nat.zero_le _, HS.out.symm⟩, ⟨W9.out, W6b.out⟩, HST11, HKP⟩
      case round =>
        clear W9 W6b HST11 HKP cS0
        obtain ⟨i, acc, rfl, HX, HG, HR, HKP⟩ := hrel
        by_cases hi : (i : Int) < (L.length : Int)
        · have d1 : decide ((i : Int) < (L.length : Int)) = true := decide_eq_true hi
          have p0 : (0 : Int) ≤ (i : Int) := by omega
          obtain ⟨ad, Af, cf, e0, ux0, ux1, hcf, hrf⟩ := at_T55 (Kd.C_below HR0.out HR.out.below) (i : Int) p0 hi
          subst e0
          obtain ⟨f, hf⟩ : ∃ f, f = rd_T55 L (i : Int) := ⟨_, rfl⟩
          rw [← hf] at ux0 ux1 hcf hrf
          simp only [Int.toNat_natCast] at ux0 ux1
          have hdr : L.drop i = f :: L.drop (i + 1) := by
            rw [List.drop_eq_getElem_cons (by omega), hf]
            unfold rd_T55
            rw [Int.toNat_natCast, List.getD_eq_getElem?_getD, List.getElem?_eq_getElem (by omega)]; rfl
          have hfl := HLL.out f (by rw [hf]; exact rd_mem p0 hi)
          have hX := HX.out.2.2
          rw [hdr] at hX
          simp only [rdA] at hX
          obtain ⟨T, hT⟩ : ∃ T, T = S.drop p := ⟨_, rfl⟩
          have HTT := Aside0.mk hT
          have hTl : T.length = S.length - p := by rw [hT, List.length_drop]
          obtain ⟨i3, hi3, hz3, hs3, hy3⟩ := info_parts info3
          obtain ⟨At, ct, hcut, hrt, hct, _⟩ := cut_drop (Kd.int .i64) 46 3 Try.underlying46 hi3 hs3 (p : Int) HR1.out HC1.out (by omega) (by have := HP.out.1; omega)
          simp only [Int.toNat_natCast] at hcut hrt hct
          rw [← hT, ← hTl] at hrt
          rw [← hTl] at hcut hct
          rw [← hT] at hX
          obtain ⟨kb, hkb⟩ := Ev.rounds (impl_begins_ev T f.f0 (by omega))
          have HKB := Aside0.mk hkb
          have HRT := Aside0.mk hrt
          have HCT := Aside0.mk hct
          have HRF := Aside0.mk hrf
          have HCF := Aside0.mk hcf
          have HFL := Aside0.mk hfl
          have q0 := eq_true p0
          have q1 := eq_true hi
          have bi : i ≤ 1000000000000 := by omega
          have bp : p ≤ 23 := by have := HP.out.1; omega
          have bf : f.f0.length ≤ 5 := hfl.2
          have HIL := Aside0.mk (show i + 1 ≤ L.length by omega)
          have HSI := Aside0.mk (show p ≤ S.length by have := HP.out.1; omega)
          have HTL := Aside0.mk hTl
          have cR0 : wr.cell? ⟨R, 0, none⟩ = some (.slice (some ad) L.length c0) := (blk_cell HR.out.blk 0).trans rfl
          have cR1 : wr.cell? ⟨R, 1, none⟩ = some (.slice A1 S.length c1) := (blk_cell HR.out.blk 1).trans rfl
          have HXX := Aside0.mk hX
          clear hi p0 hf hdr hfl hX hT hTl hi3 hs3 hz3 hy3 hrt hct hrf hcf hkb i3
          go_upto_region 10 with (first
            | ((with_reducible refine gate_dst (N := 11) rfl ?_); refine box_event ?hg (N := 11) ?hd (cs := #[.slice none 0 0, .int .i64 0]) (t := 55) ?hr ?_; (case hd => rfl); (case hg => rfl); (case hr => first | (go_simp; done) | (go_simp; rfl)); intro g11 hg w12 hbox hb; have HK11 := Aside0.mk hbox; have HB12 := Aside0.mk hb; have N11 := Aside0.mk (show wr.heap.size ≤ g11 from (by rw [hg]; exact Nat.le_refl _)); have cz0 : w12.cell? ⟨g11, 0, none⟩ = some (.slice none 0 0) := (blk_cell HK11.out 0).trans rfl; have cz1 : w12.cell? ⟨g11, 1, none⟩ = some (.int .i64 0) := (blk_cell HK11.out 1).trans rfl; have fz0 := blk_frozen HK11.out 0; have fz1 := blk_frozen HK11.out 1; clear hg hbox hb))
          have WB : Aside0 (((w12.setCell ⟨g11, 0, none⟩ (.slice Af f.f0.length cf)).setCell ⟨g11, 1, none⟩ (.int .i64 f.f1)).heap[g11]? = some (.cells #[.slice Af f.f0.length cf, .int .i64 f.f1] 55 (0, 0))) := ⟨blk_put (cs := #[.slice Af f.f0.length cf, .int .i64 0]) (blk_put (cs := #[.slice none 0 0, .int .i64 0]) HK11.out 0 _ rfl) 1 _ rfl⟩
          have HBA : Aside0 (Below wr.heap.size wr ((w12.setCell ⟨g11, 0, none⟩ (.slice Af f.f0.length cf)).setCell ⟨g11, 1, none⟩ (.int .i64 f.f1))) := ⟨below_set (below_set HB12.out N11.out) N11.out⟩
          clear HK11 HB12 cz0 cz1 fz0 fz1 ux0 ux1
          generalize ((w12.setCell ⟨g11, 0, none⟩ (.slice Af f.f0.length cf)).setCell ⟨g11, 1, none⟩ (.int .i64 f.f1)) = wA at WB HBA ⊢
          have a0 := pw_cell_below HBA.out cR1
          have a1 : wA.cell? ⟨g11, 0, none⟩ = some (.slice Af f.f0.length cf) := (blk_cell WB.out 0).trans rfl
          clear cR0 cR1
          have HRA := Aside0.mk (HR.out.kept HBA.out)
          have HKA := Aside0.mk (HKP.out.below HBA.out)
          have HGA := Aside0.mk (And.intro (blk_below HG.out.1 HBA.out) (blk_below HG.out.2 HBA.out))
          have HRTA := Aside0.mk (Kd.C_below HRT.out HRA.out.below)
          have HRFA := Aside0.mk (Kd.C_below HRF.out HBA.out)
          cases hb : isPre f.f0 T
          · rw [hb] at HKB HXX
            have NX : Aside0 (L.length - (i + 1) < gk ∧ i + 1 ≤ L.length ∧ rdA (rdO L) T (L.drop (i + 1)) acc = rdO L T) := ⟨by have := HX.out.1; have := HIL.out; omega, HIL.out, by have := HXX.out; simpa using this⟩
            clear hb
            go_quiet ((go_at_call 72; ((with_reducible refine (impl_begins.calls kb _ _ T _ _ f.f0 false _ ?side1 ?side2 ?side3 ?side4 HKB.out).mono ?_); (case side1 => repeat (first | exact HRTA.out | (with_reducible refine Kd.C_drewN ?_ _))); (case side2 => exact HCT.out); (case side3 => repeat (first | exact HRFA.out | (with_reducible refine Kd.C_drewN ?_ _))); (case side4 => exact HCF.out); rintro e w' ⟨rfl, ⟨nd, rfl⟩⟩; (first | exact ⟨rfl, _, World.drewN_drewN _ _ _⟩ | exact ⟨rfl, _, Eq.trans (World.drewN_drewN _ _ _) (congrArg (World.drewN _) (Nat.add_assoc _ _ _))⟩))))
            go_wp2
            go_roundg (L.length - (i + 1))
            case measure => exact NX.out.1
            case rel => exact ⟨i + 1, acc, by simp, ⟨rfl, NX.out.2.1, by rw [← HTT.out]; exact NX.out.2.2⟩, HGA, ⟨HRA.out.kept (pw_below_drewN (Below.refl _ _) _)⟩, ⟨HKA.out⟩⟩
          · rw [hb] at HKB HXX
            have hpl := isPre_len hb
            have hp' : p + f.f0.length ≤ S.length := by have := HTL.out; have := HSI.out; omega
            obtain ⟨O, hO⟩ : ∃ O, O = rdO L (T.drop f.f0.length) := ⟨_, rfl⟩
            have hdd : S.drop (p + f.f0.length) = T.drop f.f0.length := by rw [HTT.out, List.drop_drop]
            have HC := Aside0.mk (show ∀ w, RdSt w0 w L S (some ad) c0 A1 c1 R M → Calls Try.prog 78 #[.pointer (some ⟨R, 0, none⟩), .int .i64 ((p : Int) + (f.f0.length : Int)), .nilFunc] w fun e w' => e = .returned (.agg #[.int .i64 O.f0, .int .i64 O.f1, .int .i64 O.f2]) ∧ RdSt w0 w' L S (some ad) c0 A1 c1 R M ∧ Kept w w' (fun k => k = M) from fun w h => by
              have h1 := HFL.out.1
              have h2 := HP.out.2
              have := IH.out (p + f.f0.length) w hp' (by omega) h
              rw [hdd, ← hO, Int.natCast_add] at this
              exact this)
            have hX := HXX.out
            rw [if_pos rfl, ← hO] at hX
            have HX2 := Aside0.mk hX
            clear hb hpl hO hdd hX hp'
            go_quiet ((go_at_call 72; ((with_reducible refine (impl_begins.calls kb _ _ T _ _ f.f0 true _ ?side1 ?side2 ?side3 ?side4 HKB.out).mono ?_); (case side1 => repeat (first | exact HRTA.out | (with_reducible refine Kd.C_drewN ?_ _))); (case side2 => exact HCT.out); (case side3 => repeat (first | exact HRFA.out | (with_reducible refine Kd.C_drewN ?_ _))); (case side4 => exact HCF.out); rintro e w' ⟨rfl, ⟨nd, rfl⟩⟩; (first | exact ⟨rfl, _, World.drewN_drewN _ _ _⟩ | exact ⟨rfl, _, Eq.trans (World.drewN_drewN _ _ _) (congrArg (World.drewN _) (Nat.add_assoc _ _ _))⟩))))
            go_upto_region 12 with (first
              | (go_at_call 78; refine (HC.out _ (HRA.out.kept (pw_below_drewN (Below.refl _ _) _))).mono ?_; rintro e wB ⟨rfl, hstB, hkB⟩; have HRB := Aside0.mk hstB; have hkB' : Kept wA wB (fun k => k = M) := hkB; have HKB2 := Aside0.mk hkB'; clear hstB hkB hkB')
              | ((with_reducible refine gate_dst (N := 12) rfl ?_); refine box_event ?hg (N := 12) ?hd (cs := #[.int .i64 0, .int .i64 0, .int .i64 0]) (t := 109) ?hr ?_; (case hd => rfl); (case hg => rfl); (case hr => first | (go_simp; done) | (go_simp; rfl)); intro g12 hg w13 hbox hb; have HK12 := Aside0.mk hbox; have HB13 := Aside0.mk hb; have N12 := Aside0.mk (show wB.heap.size ≤ g12 from (by rw [hg]; exact Nat.le_refl _)); have cz0 : w13.cell? ⟨g12, 0, none⟩ = some (.int .i64 0) := (blk_cell HK12.out 0).trans rfl; have cz1 : w13.cell? ⟨g12, 1, none⟩ = some (.int .i64 0) := (blk_cell HK12.out 1).trans rfl; have cz2 : w13.cell? ⟨g12, 2, none⟩ = some (.int .i64 0) := (blk_cell HK12.out 2).trans rfl; have fz0 := blk_frozen HK12.out 0; have fz1 := blk_frozen HK12.out 1; have fz2 := blk_frozen HK12.out 2; clear hg hbox hb))
            have E12 : Aside0 ((((w13.setCell ⟨g12, 0, none⟩ (.int .i64 O.f0)).setCell ⟨g12, 1, none⟩ (.int .i64 O.f1)).setCell ⟨g12, 2, none⟩ (.int .i64 O.f2)).heap[g12]? = some (.cells #[.int .i64 O.f0, .int .i64 O.f1, .int .i64 O.f2] 109 (0, 0))) := ⟨blk_put (cs := #[.int .i64 O.f0, .int .i64 O.f1, .int .i64 0]) (blk_put (cs := #[.int .i64 O.f0, .int .i64 0, .int .i64 0]) (blk_put (cs := #[.int .i64 0, .int .i64 0, .int .i64 0]) HK12.out 0 _ rfl) 1 _ rfl) 2 _ rfl⟩
            have HBC : Aside0 (Below wB.heap.size wB (((w13.setCell ⟨g12, 0, none⟩ (.int .i64 O.f0)).setCell ⟨g12, 1, none⟩ (.int .i64 O.f1)).setCell ⟨g12, 2, none⟩ (.int .i64 O.f2))) := ⟨below_set (below_set (below_set HB13.out N12.out) N12.out) N12.out⟩
            clear HK12 HB13 cz0 cz1 cz2 fz0 fz1 fz2 a0 a1
            generalize (((w13.setCell ⟨g12, 0, none⟩ (.int .i64 O.f0)).setCell ⟨g12, 1, none⟩ (.int .i64 O.f1)).setCell ⟨g12, 2, none⟩ (.int .i64 O.f2)) = wC at E12 HBC ⊢
            have n9 := HRA.out.ne HGA.out.1
            have n6 := HRA.out.ne HGA.out.2
            have n11 := HRA.out.ne WB.out
            have HGC := Aside0.mk (And.intro (blk_below (blk_kept HGA.out.1 HKB2.out n9) HBC.out) (blk_below (blk_kept HGA.out.2 HKB2.out n6) HBC.out))
            have WBC := Aside0.mk (blk_below (blk_kept WB.out HKB2.out n11) HBC.out)
            have HRC := Aside0.mk (HRB.out.kept HBC.out)
            have HKC := Aside0.mk ((HKA.out.then_ HKB2.out (fun _ h => .inl h)).below HBC.out)
            clear n9 n6 n11
            have k0 : wC.cell? ⟨g12, 0, none⟩ = some (.int .i64 O.f0) := (blk_cell E12.out 0).trans rfl
            have k1 : wC.cell? ⟨g12, 1, none⟩ = some (.int .i64 O.f1) := (blk_cell E12.out 1).trans rfl
            have k2 : wC.cell? ⟨g12, 2, none⟩ = some (.int .i64 O.f2) := (blk_cell E12.out 2).trans rfl
            have k3 : wC.cell? ⟨g9, 0, none⟩ = some (.int .i64 acc.f0) := (blk_cell HGC.out.1 0).trans rfl
            have k4 : wC.cell? ⟨g9, 1, none⟩ = some (.int .i64 acc.f1) := (blk_cell HGC.out.1 1).trans rfl
            have k5 : wC.cell? ⟨g9, 2, none⟩ = some (.int .i64 acc.f2) := (blk_cell HGC.out.1 2).trans rfl
            have k6 : wC.cell? ⟨g11, 0, none⟩ = some (.slice Af f.f0.length cf) := (blk_cell WBC.out 0).trans rfl
            have k7 : wC.cell? ⟨g11, 1, none⟩ = some (.int .i64 f.f1) := (blk_cell WBC.out 1).trans rfl
            by_cases hz : O.f0 = 0
            · have hX := HX2.out
              rw [if_pos hz] at hX
              have NX : Aside0 (L.length - (i + 1) < gk ∧ i + 1 ≤ L.length ∧ rdA (rdO L) T (L.drop (i + 1)) acc = rdO L T) := ⟨by have := HX.out.1; have := HIL.out; omega, HIL.out, hX⟩
              have hzz : (O.f0 == 0) = true := by rw [beq_iff_eq]; exact hz
              clear hX hz
              go_wp2
              go_roundg (L.length - (i + 1))
              case measure => exact NX.out.1
              case rel => exact ⟨i + 1, acc, by simp, ⟨rfl, NX.out.2.1, by rw [← HTT.out]; exact NX.out.2.2⟩, HGC, HRC, HKC⟩
            · have hX := HX2.out
              rw [if_neg hz] at hX
              have NX : Aside0 (L.length - (i + 1) < gk ∧ i + 1 ≤ L.length ∧ rdA (rdO L) T (L.drop (i + 1)) (outW acc f O) = rdO L T) := ⟨by have := HX.out.1; have := HIL.out; omega, HIL.out, hX⟩
              have hzz : (O.f0 == 0) = false := by rw [beq_eq_false_iff_ne]; exact hz
              clear hX hz
              go_wp2_with (go_at_call 106; refine (impl_outcome_with_calls acc f Af f.f0.length cf O _).mono ?_; rintro e wD ⟨rfl, hbD⟩; have HBD := Aside0.mk hbD; have HGD := Aside0.mk (And.intro (blk_below HGC.out.1 hbD) (blk_below HGC.out.2 hbD)); have m0 : wD.cell? ⟨g9, 0, none⟩ = some (.int .i64 acc.f0) := (blk_cell HGD.out.1 0).trans rfl; have m1 : wD.cell? ⟨g9, 1, none⟩ = some (.int .i64 acc.f1) := (blk_cell HGD.out.1 1).trans rfl; have m2 : wD.cell? ⟨g9, 2, none⟩ = some (.int .i64 acc.f2) := (blk_cell HGD.out.1 2).trans rfl; have fm0 := blk_frozen HGD.out.1 0; have fm1 := blk_frozen HGD.out.1 1; have fm2 := blk_frozen HGD.out.1 2; clear hbD)
              go_roundg (L.length - (i + 1))
              case measure => exact NX.out.1
              case rel =>
                have nR : g9 ≠ R := blk_ne HGD.out.1 (HRC.out.kept HBD.out).blk (by decide)
                have nM : g9 ≠ M := (HRC.out.kept HBD.out).ne HGD.out.1
                have nB : w0.heap.size ≤ g9 := Nat.le_trans HST.out.below.size N9.out
                refine ⟨i + 1, outW acc f O, by simp, ⟨rfl, NX.out.2.1, by rw [← HTT.out]; exact NX.out.2.2⟩, ⟨blk_put (cs := #[.int .i64 (outW acc f O).f0, .int .i64 (outW acc f O).f1, .int .i64 acc.f2]) (blk_put (cs := #[.int .i64 (outW acc f O).f0, .int .i64 acc.f1, .int .i64 acc.f2]) (blk_put (cs := #[.int .i64 acc.f0, .int .i64 acc.f1, .int .i64 acc.f2]) HGD.out.1 0 _ rfl) 1 _ rfl) 2 _ rfl, ?_⟩, ⟨(((HRC.out.kept HBD.out).set nB nR nM _ _).set nB nR nM _ _).set nB nR nM _ _⟩, ⟨(((HKC.out.below HBD.out).setCell (.inr N9.out) _).setCell (.inr N9.out) _).setCell (.inr N9.out) _⟩⟩
                exact blk_far (blk_far (blk_far HGD.out.2 NE9.out _) NE9.out _) NE9.out _
        · have d1 : decide ((i : Int) < (L.length : Int)) = false := decide_eq_false hi
          have d1' : decide (i < L.length) = false := decide_eq_false (by omega)
          have hacc : acc = rdO L (S.drop p) := by
            have h1 := HX.out.2.2
            have h2 := HX.out.2.1
            rw [List.drop_eq_nil_of_le (show L.length ≤ i by omega)] at h1
            exact h1
          have HACC := Aside0.mk hacc
          obtain ⟨F2, hF2, hF2'⟩ := HR.out.memo
          obtain ⟨es, ck, hput, hmf⟩ := (MapFn.move (w' := wr.drew) hF2 rfl).put Try.underlying132 Try.underlying3 (p : Int) (outV acc)
          have HRM : Aside0 (RdSt w0 (ChangeMaps.setBlock wr.drew M (.map es ck)) L S A0 c0 A1 c1 R M) := ⟨⟨below_setBlock (below_drew HR.out.below) HMR.out.1, blk_setBlock (w := wr.drew) HR.out.blk HMR.out.2.2, _, hmf, by
            intro k v hk
            by_cases e : k = (p : Int)
            · rw [if_pos e] at hk
              cases hk
              exact ⟨p, e, HP.out.1, by rw [hacc]⟩
            · rw [if_neg e] at hk
              exact hF2' k v hk⟩⟩
          have HKM : Aside0 (Kept w (ChangeMaps.setBlock wr.drew M (.map es ck)) (fun k => k = M)) := ⟨kept_setBlock (w := w) (W := wr.drew) (S := fun k => k = M) HKP.out (.inl rfl)⟩
          have n9 := HR.out.ne HG.out.1
          have n6 := HR.out.ne HG.out.2
          have HGM := Aside0.mk (And.intro (blk_setBlock (w := wr.drew) (o' := .map es ck) HG.out.1 n9) (blk_setBlock (w := wr.drew) (o' := .map es ck) HG.out.2 n6))
          have cR2 : wr.cell? ⟨R, 2, none⟩ = some (.map (some M)) := (blk_cell HR.out.blk 2).trans rfl
          have k3 : wr.cell? ⟨g9, 0, none⟩ = some (.int .i64 acc.f0) := (blk_cell HG.out.1 0).trans rfl
          have k4 : wr.cell? ⟨g9, 1, none⟩ = some (.int .i64 acc.f1) := (blk_cell HG.out.1 1).trans rfl
          have k5 : wr.cell? ⟨g9, 2, none⟩ = some (.int .i64 acc.f2) := (blk_cell HG.out.1 2).trans rfl
          unfold outV at hput
          generalize (ChangeMaps.setBlock wr.drew M (.map es ck)) = wM at HRM HKM HGM hput
          have j3 : wM.cell? ⟨g9, 0, none⟩ = some (.int .i64 acc.f0) := (blk_cell HGM.out.1 0).trans rfl
          have j4 : wM.cell? ⟨g9, 1, none⟩ = some (.int .i64 acc.f1) := (blk_cell HGM.out.1 1).trans rfl
          have j5 : wM.cell? ⟨g9, 2, none⟩ = some (.int .i64 acc.f2) := (blk_cell HGM.out.1 2).trans rfl
          have j0 : wM.cell? ⟨g6, 0, none⟩ = some (.int .i64 0) := (blk_cell HGM.out.2 0).trans rfl
          have j1 : wM.cell? ⟨g6, 1, none⟩ = some (.int .i64 0) := (blk_cell HGM.out.2 1).trans rfl
          have j2 : wM.cell? ⟨g6, 2, none⟩ = some (.int .i64 0) := (blk_cell HGM.out.2 2).trans rfl
          have f0 := blk_frozen HGM.out.2 0
          have f1 := blk_frozen HGM.out.2 1
          have f2 := blk_frozen HGM.out.2 2
          clear hF2 hF2' hmf hacc hi n9 n6
          go_wp2
          go_region
          go_wp2
          refine bodyPost_ret (results_cell_row rfl _ _ g6 109 #[.int .i64 acc.f0, .int .i64 acc.f1, .int .i64 acc.f2] (0, 0) _ rfl (blk_put (cs := #[.int .i64 acc.f0, .int .i64 acc.f1, .int .i64 0]) (blk_put (cs := #[.int .i64 acc.f0, .int .i64 0, .int .i64 0]) (blk_put (cs := #[.int .i64 0, .int .i64 0, .int .i64 0]) HGM.out.2 0 _ rfl) 1 _ rfl) 2 _ rfl) Try.underlying109 rfl (by kernel_rfl)) rfl ?_
          have nR : g6 ≠ R := blk_ne HGM.out.2 HRM.out.blk (by decide)
          have nM : g6 ≠ M := HRM.out.ne HGM.out.2
          have nB : w0.heap.size ≤ g6 := Nat.le_trans HST.out.below.size N6.out
          exact ⟨by rw [← HACC.out]; rfl, ((HRM.out.set nB nR nM _ _).set nB nR nM _ _).set nB nR nM _ _, ((HKM.out.setCell (.inr N6.out) _).setCell (.inr N6.out) _).setCell (.inr N6.out) _⟩

/-! newFormulaReader; FormulasMany; FormulasFew -/
set_option maxHeartbeats 4000000 in
set_option maxRecDepth 100000 in
theorem impl_newReader_calls (L : List S55) (S : List Int) (A0 : Option Addr) (c0 : Nat) (A1 : Option Addr) (c1 : Nat) (w : World) (hr0 : Kd.C k55 w A0 L.length L) (hc0 : L.length ≤ c0) (hr1 : Kd.C (Kd.int .i64) w A1 S.length S) (hc1 : S.length ≤ c1) (hL : ∀ x ∈ L, x.f0.length ≤ 1000000000000) (hS : S.length ≤ 1000000000000) :
    Calls Try.prog 77 #[.slice A0 L.length c0, .slice A1 S.length c1] w fun e w' => (okR L S = false ∧ e = .returned (.tuple #[.pointer none, .bool false]) ∧ Below w.heap.size w w') ∨ (okR L S = true ∧ ∃ R M, e = .returned (.tuple #[.pointer (some ⟨R, 0, none⟩), .bool true]) ∧ RdSt w w' L S A0 c0 A1 c1 R M ∧ w.heap.size ≤ M ∧ w.heap.size ≤ R ∧ R ≠ M) := by
  have HR0 := Aside0.mk hr0
  have HC0 := Aside0.mk hc0
  have HR1 := Aside0.mk hr1
  have HC1 := Aside0.mk hc1
  clear hr0 hc0 hr1 hc1
  have hu3 := Try.underlying134
  obtain ⟨kv, hkv⟩ := Ev.rounds (impl_FormulasValid_ev L hL)
  obtain ⟨ka, hka⟩ := Ev.rounds (impl_allWithin_ev S hS 20 (by omega) (by omega))
  have hok : okR L S = (fsOk L && (decide (S.length ≤ 23) && S.all (inR (-20) 20))) := rfl
  have HKV := Aside0.mk hkv
  have HKA := Aside0.mk hka
  clear hkv hka hL
  cases h1 : fsOk L
  · rw [h1] at hok HKV
    have HOK := Aside0.mk hok
    clear hok h1
    go_enter Try.func77, Try.ntmps77
    go_wp2_with (go_at_call 71; refine (impl_FormulasValid.calls kv _ _ L false _ HR0.out HC0.out HKV.out).mono ?_; rintro e w1 ⟨rfl, hb1⟩; have HB1 := Aside0.mk hb1; clear hb1)
    go_ret2
    exact .inl ⟨by rw [HOK.out]; rfl, rfl, HB1.out⟩
  rw [h1] at hok HKV
  by_cases h2 : S.length ≤ 23
  rotate_left
  · have HOK := Aside0.mk (show okR L S = false by rw [hok, decide_eq_false h2]; rfl)
    have d1 : decide (23 < (S.length : Int)) = true := decide_eq_true (by omega)
    have d2 : decide (23 < S.length) = true := decide_eq_true (by omega)
    clear hok h1 h2
    go_enter Try.func77, Try.ntmps77
    go_wp2_with (go_at_call 71; refine (impl_FormulasValid.calls kv _ _ L true _ HR0.out HC0.out HKV.out).mono ?_; rintro e w1 ⟨rfl, hb1⟩; have HB1 := Aside0.mk hb1; clear hb1)
    go_ret2
    exact .inl ⟨HOK.out, rfl, HB1.out⟩
  rw [decide_eq_true h2] at hok
  have d1 : decide (23 < (S.length : Int)) = false := decide_eq_false (by omega)
  have d2 : decide (23 < S.length) = false := decide_eq_false (by omega)
  cases h3 : S.all (inR (-20) 20)
  · rw [h3] at hok HKA
    have HOK := Aside0.mk hok
    clear hok h1 h2 h3
    go_enter Try.func77, Try.ntmps77
    go_wp2_with (first
      | (go_at_call 71; refine (impl_FormulasValid.calls kv _ _ L true _ HR0.out HC0.out HKV.out).mono ?_; rintro e w1 ⟨rfl, hb1⟩; have HB1 := Aside0.mk hb1; clear hb1)
      | (go_at_call 105; refine (impl_allWithin.calls ka _ _ S 20 false _ (Kd.C_below HR1.out HB1.out) HC1.out HKA.out).mono ?_; rintro e w2 ⟨rfl, hd⟩; have HB2 := Aside0.mk (below_step HB1.out hd.below); clear hd))
    go_ret2
    exact .inl ⟨HOK.out, rfl, HB2.out⟩
  · rw [h3] at hok HKA
    have HOK := Aside0.mk hok
    clear hok h1 h2 h3
    have hmm := @run_makeMap Try.prog
    go_enter Try.func77, Try.ntmps77
    go_wp2_with (first
      | (go_at_call 71; refine (impl_FormulasValid.calls kv _ _ L true _ HR0.out HC0.out HKV.out).mono ?_; rintro e w1 ⟨rfl, hb1⟩; have HB1 := Aside0.mk hb1; clear hb1)
      | (go_at_call 105; refine (impl_allWithin.calls ka _ _ S 20 true _ (Kd.C_below HR1.out HB1.out) HC1.out HKA.out).mono ?_; rintro e w2 ⟨rfl, hd⟩; have HB2 := Aside0.mk (below_step HB1.out hd.below); clear hd))
    go_ret2
    have hB : Below w.heap.size w (w2.alloc (.map #[] 0)) := below_alloc HB2.out _
    have hs : (w2.alloc (.map #[] 0)).heap.size = w2.heap.size + 1 := by simp
    have hm : (w2.alloc (.map #[] 0)).heap[w2.heap.size]? = some (.map #[] 0) := blk_new w2 _
    have hb : ((w2.alloc (.map #[] 0)).alloc (.cells #[.slice A0 L.length c0, .slice A1 S.length c1, .map (some w2.heap.size)] 134 (0, 0))).heap[w2.heap.size + 1]? = some (.cells #[.slice A0 L.length c0, .slice A1 S.length c1, .map (some w2.heap.size)] 134 (0, 0)) := by rw [← hs]; exact blk_new _ _
    refine .inr ⟨HOK.out, w2.heap.size + 1, w2.heap.size, rfl, ⟨below_alloc hB _, hb, fun _ => none, MapFn.made ((below_alloc (Below.refl _ _) _).block _ (by rw [hs]; omega) |>.trans hm), by simp⟩, HB2.out.size, Nat.le_succ_of_le HB2.out.size, by omega⟩

theorem okR_lens {L : List S55} {S : List Int} (h : okR L S = true) : (∀ f ∈ L, 1 ≤ f.f0.length ∧ f.f0.length ≤ 5) ∧ L.length ≤ 8 ∧ S.length ≤ 23 :=
  ⟨fun f hf => fOk_len (fsOk_all (okR_of h).1 f hf), fsOk_len (okR_of h).1, (okR_of h).2⟩
theorem impl_newReader_no {L : List S55} {S : List Int} {A0 : Option Addr} {c0 : Nat} {A1 : Option Addr} {c1 : Nat} {w : World} (hr0 : Kd.C k55 w A0 L.length L) (hc0 : L.length ≤ c0) (hr1 : Kd.C (Kd.int .i64) w A1 S.length S) (hc1 : S.length ≤ c1) (hL : ∀ x ∈ L, x.f0.length ≤ 1000000000000) (hS : S.length ≤ 1000000000000) (h : okR L S = false) :
    Calls Try.prog 77 #[.slice A0 L.length c0, .slice A1 S.length c1] w fun e w' => e = .returned (.tuple #[.pointer none, .bool false]) ∧ Below w.heap.size w w' :=
  (impl_newReader_calls L S A0 c0 A1 c1 w hr0 hc0 hr1 hc1 hL hS).mono (by
    rintro e w' (⟨_, h1, h2⟩ | ⟨h1, _⟩)
    · exact ⟨h1, h2⟩
    · rw [h] at h1; cases h1)
theorem impl_newReader_yes {L : List S55} {S : List Int} {A0 : Option Addr} {c0 : Nat} {A1 : Option Addr} {c1 : Nat} {w : World} (hr0 : Kd.C k55 w A0 L.length L) (hc0 : L.length ≤ c0) (hr1 : Kd.C (Kd.int .i64) w A1 S.length S) (hc1 : S.length ≤ c1) (hL : ∀ x ∈ L, x.f0.length ≤ 1000000000000) (hS : S.length ≤ 1000000000000) (h : okR L S = true) :
    Calls Try.prog 77 #[.slice A0 L.length c0, .slice A1 S.length c1] w fun e w' => ∃ R M, e = .returned (.tuple #[.pointer (some ⟨R, 0, none⟩), .bool true]) ∧ RdSt w w' L S A0 c0 A1 c1 R M ∧ w.heap.size ≤ M ∧ w.heap.size ≤ R ∧ R ≠ M :=
  (impl_newReader_calls L S A0 c0 A1 c1 w hr0 hc0 hr1 hc1 hL hS).mono (by
    rintro e w' (⟨h1, _⟩ | ⟨_, h1⟩)
    · rw [h] at h1; cases h1
    · exact h1)

/-- The blocks that a closure of a reader's may write: neither the reader's, nor an outcome's, nor a formula's box, nor a map. -/
def SCb (w : World) (k : Nat) : Prop := ∃ cs t fr, w.heap[k]? = some (.cells cs t fr) ∧ t ≠ 109 ∧ t ≠ 55 ∧ t ≠ 134
theorem nsc_of {w : World} {k t : Nat} {cs : Array Value} {fr : Nat × Nat} (h : w.heap[k]? = some (.cells cs t fr)) (ht : (t == 109 || (t == 55 || t == 134)) = true) : ¬ SCb w k := by
  rintro ⟨cs', t', fr', h', h1, h2, h3⟩
  rw [h] at h'
  injection h' with h'
  injection h' with _ h' _
  subst h'
  simp only [Bool.or_eq_true, beq_iff_eq] at ht
  rcases ht with rfl | rfl | rfl
  · exact h1 rfl
  · exact h2 rfl
  · exact h3 rfl
theorem RdSt.nsc {w0 w : World} {L : List S55} {S : List Int} {A0 : Option Addr} {c0 : Nat} {A1 : Option Addr} {c1 : Nat} {R M : Nat} (h : RdSt w0 w L S A0 c0 A1 c1 R M) : ¬ SCb w M := by
  rintro ⟨cs, t, fr, h', _⟩
  exact h.ne h' rfl
theorem rdC_len (rec : List Int → OutC) (s : List Int) : ∀ (L : List S55) (i : Int), (rdC rec s i L).length ≤ L.length
  | [], _ => Nat.le_refl _
  | f :: fs, i => by
    have h := rdC_len rec s fs (i + 1)
    simp only [rdC, List.length_cons]
    split
    · split
      · omega
      · rw [List.length_cons]; omega
    · omega
theorem rdCalls_len (L : List S55) (s : List Int) : (rdCalls L s).length ≤ L.length := by
  unfold rdCalls
  split
  · exact Nat.zero_le _
  · exact rdC_len _ _ _ _
theorem hist_len {h r h0 : List (Int × OutC)} {L : List S55} {s : List Int} (e : h ++ r = h0 ++ rdCalls L s) : h.length ≤ h0.length + L.length := by
  have h1 := congrArg List.length e
  have h2 := rdCalls_len L s
  rw [List.length_append, List.length_append] at h1
  omega
theorem RdSt.keptSC {w0 w w' : World} {L : List S55} {S : List Int} {A0 : Option Addr} {c0 : Nat} {A1 : Option Addr} {c1 : Nat} {R M : Nat} (h : RdSt w0 w L S A0 c0 A1 c1 R M) (hb : Below w0.heap.size w0 w') (hk : Kept w w' (SCb w)) : RdSt w0 w' L S A0 c0 A1 c1 R M := by
  obtain ⟨F, hF, hF'⟩ := h.memo
  exact h.far hb (hk.2 R (blk_lt h.blk) (nsc_of h.blk (by decide))) (hk.2 M hF.lt h.nsc)
theorem RdSt.lower {w w0 w' : World} {L : List S55} {S : List Int} {A0 : Option Addr} {c0 : Nat} {A1 : Option Addr} {c1 : Nat} {R M : Nat} (h : RdSt w0 w' L S A0 c0 A1 c1 R M) (hb : Below w.heap.size w w0) : RdSt w w' L S A0 c0 A1 c1 R M :=
  ⟨below_then hb hb.size h.below, h.blk, h.memo⟩

end Go.Proofs.Ytnemcppllfmioaa.Pure
