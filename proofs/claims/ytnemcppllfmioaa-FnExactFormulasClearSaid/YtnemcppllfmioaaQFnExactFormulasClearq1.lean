/- Lemmas on the printed functions for the law FnExactFormulasClear. -/
import Derived.Test.YtnemcppllfmioaaQFnExactFormulasClearq0
import Derived.Deep.RegionHeld3
import Derived.BigRegion
import Derived.Deep.Slices
import Derived.Laws.CopyOwn
namespace Go.Proofs.Ytnemcppllfmioaa.Pure
set_option linter.unusedVariables false
set_option linter.unusedSimpArgs false
open Go Go.RowKit Go.Proofs.Ytnemcppllfmioaa.PFnExactFormulasClear Go.Proofs.YtnemcppllfmioaaW.PrintWords Go.Proofs.YtnemcppllfmioaaW.PrintLast Go.Proofs.YtnemcppllfmioaaW.PrintMore

/-! outcome.with -/
structure OutC where
  f0 : Int
  f1 : Int
  f2 : Int
def outW (o : OutC) (f : S55) (r : OutC) : OutC := if o.f0 > 0 then ⟨wrap64 (o.f0 + r.f0), mn (wrap64 (f.f1 + r.f1)) o.f1, mn (wrap64 (1 + r.f2)) o.f2⟩ else ⟨wrap64 (o.f0 + r.f0), wrap64 (f.f1 + r.f1), wrap64 (1 + r.f2)⟩
def outV (o : OutC) : Value := .agg #[.int .i64 o.f0, .int .i64 o.f1, .int .i64 o.f2]
attribute [local go_sem] max2_int min2_int max_two min_two max_three min_three max_four min_four
theorem first_of {a b : Int} {x : Bool} (h : decide (a < b) = x) : (a < b) = (x = true) := by subst h; simp
set_option maxHeartbeats 4000000 in
set_option maxRecDepth 100000 in
theorem impl_outcome_with_some (a b d fw x y z U V M N : Int) (A : Option Addr) (n c : Nat) (w : World) (h : 0 < a) (hU : IntKind.i64.wrap (fw + y) = U) (hV : IntKind.i64.wrap (1 + z) = V) (b1 b2 : Bool) (h1 : decide (b < U) = b1) (h2 : decide (d < V) = b2) (hM : M = if b1 then b else U) (hN : N = if b2 then d else V) :
    Calls Try.prog 106 #[.agg #[.int .i64 a, .int .i64 b, .int .i64 d], .agg #[.slice A n c, .int .i64 fw], .agg #[.int .i64 x, .int .i64 y, .int .i64 z]] w fun e w' => e = .returned (.agg #[.int .i64 (wrap64 (a + x)), .int .i64 M, .int .i64 N]) ∧ Below w.heap.size w w' := by
  have hu1 := Try.underlying109
  have hu2 := Try.underlying55
  have d1 : decide (0 < a) = true := decide_eq_true h
  have HU := Aside0.mk hU
  have HV := Aside0.mk hV
  clear h hU hV
  cases b1 <;> cases b2
  all_goals
    simp only [Bool.false_eq_true, if_false, if_true] at hM hN
    rw [hM, hN]
    have q1 := first_of h1
    have q2 := first_of h2
    simp only [Bool.false_eq_true, eq_self] at q1 q2
    clear hM hN h1 h2
    go_enter Try.func106, Try.ntmps106
    go_upto_region 1 with (first
      | ((with_reducible refine gate_dst (N := 3) rfl ?_); refine box_event ?hg (N := 3) ?hd (cs := #[.int .i64 a, .int .i64 b, .int .i64 d]) (t := 109) ?hr ?_; (case hd => rfl); (case hg => rfl); (case hr => first | (go_simp; done) | (go_simp; rfl)); intro g3 hg w3 hbox hb; have HB := Aside0.mk hb; have K3 := Aside0.mk hbox; have G3 := Aside0.mk (show w.heap.size ≤ g3 from (by rw [hg]; exact Nat.le_refl _)); clear hg hbox hb)
      | ((with_reducible refine gate_dst (N := 4) rfl ?_); refine box_event ?hg (N := 4) ?hd (cs := #[.slice A n c, .int .i64 fw]) (t := 55) ?hr ?_; (case hd => rfl); (case hg => rfl); (case hr => first | (go_simp; done) | (go_simp; rfl)); intro g4 hg w4 hbox hb; have K3' := Aside0.mk (blk_below K3.out hb); have K4 := Aside0.mk hbox; have HB' := Aside0.mk (below_step HB.out hb); have G4 := Aside0.mk (show w.heap.size ≤ g4 from (by rw [hg]; exact HB.out.size)); clear HB K3; clear hg hbox hb)
      | ((with_reducible refine gate_dst (N := 5) rfl ?_); refine box_event ?hg (N := 5) ?hd (cs := #[.int .i64 x, .int .i64 y, .int .i64 z]) (t := 109) ?hr ?_; (case hd => rfl); (case hg => rfl); (case hr => first | (go_simp; done) | (go_simp; rfl)); intro g5 hg w5 hbox hb; have K3'' := Aside0.mk (blk_below K3'.out hb); have K4' := Aside0.mk (blk_below K4.out hb); have K5 := Aside0.mk hbox; have HB'' := Aside0.mk (below_step HB'.out hb); have G5 := Aside0.mk (show w.heap.size ≤ g5 from (by rw [hg]; exact HB'.out.size)); clear HB' K3' K4; clear hg hbox hb)
      | ((with_reducible refine gate_dst (N := 6) rfl ?_); refine box_event ?hg (N := 6) ?hd (cs := #[.int .i64 0, .int .i64 0, .int .i64 0]) (t := 109) ?hr ?_; (case hd => rfl); (case hg => rfl); (case hr => first | (go_simp; done) | (go_simp; rfl)); intro g6 hg w6 hbox hb; have L3 := Aside0.mk (blk_below K3''.out hb); have L4 := Aside0.mk (blk_below K4'.out hb); have L5 := Aside0.mk (blk_below K5.out hb); have L6 := Aside0.mk hbox; have HB6 := Aside0.mk (below_step HB''.out hb); have G6 := Aside0.mk (show w.heap.size ≤ g6 from (by rw [hg]; exact HB''.out.size)); have N3 := Aside0.mk (show g6 ≠ g3 from (by rw [hg]; exact (Nat.ne_of_lt (blk_lt K3''.out)).symm)); have N4 := Aside0.mk (show g6 ≠ g4 from (by rw [hg]; exact (Nat.ne_of_lt (blk_lt K4'.out)).symm)); have N5 := Aside0.mk (show g6 ≠ g5 from (by rw [hg]; exact (Nat.ne_of_lt (blk_lt K5.out)).symm)); clear HB'' K3'' K4' K5; clear hg hbox hb))
    have c30 : w6.cell? ⟨g3, 0, none⟩ = some (.int .i64 a) := (blk_cell L3.out 0).trans rfl
    have c31 : w6.cell? ⟨g3, 1, none⟩ = some (.int .i64 b) := (blk_cell L3.out 1).trans rfl
    have c32 : w6.cell? ⟨g3, 2, none⟩ = some (.int .i64 d) := (blk_cell L3.out 2).trans rfl
    have c41 : w6.cell? ⟨g4, 1, none⟩ = some (.int .i64 fw) := (blk_cell L4.out 1).trans rfl
    have c50 : w6.cell? ⟨g5, 0, none⟩ = some (.int .i64 x) := (blk_cell L5.out 0).trans rfl
    have c51 : w6.cell? ⟨g5, 1, none⟩ = some (.int .i64 y) := (blk_cell L5.out 1).trans rfl
    have c52 : w6.cell? ⟨g5, 2, none⟩ = some (.int .i64 z) := (blk_cell L5.out 2).trans rfl
    have c60 : w6.cell? ⟨g6, 0, none⟩ = some (.int .i64 0) := (blk_cell L6.out 0).trans rfl
    have c61 : w6.cell? ⟨g6, 1, none⟩ = some (.int .i64 0) := (blk_cell L6.out 1).trans rfl
    have c62 : w6.cell? ⟨g6, 2, none⟩ = some (.int .i64 0) := (blk_cell L6.out 2).trans rfl
    have f60 := blk_frozen L6.out 0
    have f61 := blk_frozen L6.out 1
    have f62 := blk_frozen L6.out 2
    clear L3 L4 L5
    go_quiet (fail)
    rw [HU.out, HV.out]
    go_wp2
    go_quiet (fail)
    go_wp2
    refine bodyPost_ret (results_cell_row rfl _ _ g6 109 #[.int .i64 (wrap64 (a + x)), .int .i64 _, .int .i64 _] (0, 0) _ rfl (blk_put (cs := #[.int .i64 _, .int .i64 _, .int .i64 0]) (blk_put (cs := #[.int .i64 _, .int .i64 0, .int .i64 0]) (blk_put (cs := #[.int .i64 0, .int .i64 0, .int .i64 0]) (blk_drewN L6.out _) 0 _ rfl) 1 _ rfl) 2 _ rfl) Try.underlying109 rfl (by kernel_rfl)) rfl ?_
    exact ⟨rfl, by repeat (first | exact HB6.out | apply pw_below_drewN | refine below_set ?_ G6.out)⟩
set_option maxHeartbeats 4000000 in
set_option maxRecDepth 100000 in
theorem impl_outcome_with_none (a b d fw x y z U V : Int) (A : Option Addr) (n c : Nat) (w : World) (h : ¬ 0 < a) (hU : IntKind.i64.wrap (fw + y) = U) (hV : IntKind.i64.wrap (1 + z) = V) :
    Calls Try.prog 106 #[.agg #[.int .i64 a, .int .i64 b, .int .i64 d], .agg #[.slice A n c, .int .i64 fw], .agg #[.int .i64 x, .int .i64 y, .int .i64 z]] w fun e w' => e = .returned (.agg #[.int .i64 (wrap64 (a + x)), .int .i64 U, .int .i64 V]) ∧ Below w.heap.size w w' := by
  have hu1 := Try.underlying109
  have hu2 := Try.underlying55
  have d1 : decide (0 < a) = false := decide_eq_false h
  have HU := Aside0.mk hU
  have HV := Aside0.mk hV
  clear h hU hV
  go_enter Try.func106, Try.ntmps106
  go_upto_region 1 with (first
    | ((with_reducible refine gate_dst (N := 3) rfl ?_); refine box_event ?hg (N := 3) ?hd (cs := #[.int .i64 a, .int .i64 b, .int .i64 d]) (t := 109) ?hr ?_; (case hd => rfl); (case hg => rfl); (case hr => first | (go_simp; done) | (go_simp; rfl)); intro g3 hg w3 hbox hb; have HB := Aside0.mk hb; have K3 := Aside0.mk hbox; have G3 := Aside0.mk (show w.heap.size ≤ g3 from (by rw [hg]; exact Nat.le_refl _)); clear hg hbox hb)
    | ((with_reducible refine gate_dst (N := 4) rfl ?_); refine box_event ?hg (N := 4) ?hd (cs := #[.slice A n c, .int .i64 fw]) (t := 55) ?hr ?_; (case hd => rfl); (case hg => rfl); (case hr => first | (go_simp; done) | (go_simp; rfl)); intro g4 hg w4 hbox hb; have K3' := Aside0.mk (blk_below K3.out hb); have K4 := Aside0.mk hbox; have HB' := Aside0.mk (below_step HB.out hb); have G4 := Aside0.mk (show w.heap.size ≤ g4 from (by rw [hg]; exact HB.out.size)); clear HB K3; clear hg hbox hb)
    | ((with_reducible refine gate_dst (N := 5) rfl ?_); refine box_event ?hg (N := 5) ?hd (cs := #[.int .i64 x, .int .i64 y, .int .i64 z]) (t := 109) ?hr ?_; (case hd => rfl); (case hg => rfl); (case hr => first | (go_simp; done) | (go_simp; rfl)); intro g5 hg w5 hbox hb; have K3'' := Aside0.mk (blk_below K3'.out hb); have K4' := Aside0.mk (blk_below K4.out hb); have K5 := Aside0.mk hbox; have HB'' := Aside0.mk (below_step HB'.out hb); have G5 := Aside0.mk (show w.heap.size ≤ g5 from (by rw [hg]; exact HB'.out.size)); clear HB' K3' K4; clear hg hbox hb)
    | ((with_reducible refine gate_dst (N := 6) rfl ?_); refine box_event ?hg (N := 6) ?hd (cs := #[.int .i64 0, .int .i64 0, .int .i64 0]) (t := 109) ?hr ?_; (case hd => rfl); (case hg => rfl); (case hr => first | (go_simp; done) | (go_simp; rfl)); intro g6 hg w6 hbox hb; have L3 := Aside0.mk (blk_below K3''.out hb); have L4 := Aside0.mk (blk_below K4'.out hb); have L5 := Aside0.mk (blk_below K5.out hb); have L6 := Aside0.mk hbox; have HB6 := Aside0.mk (below_step HB''.out hb); have G6 := Aside0.mk (show w.heap.size ≤ g6 from (by rw [hg]; exact HB''.out.size)); have N3 := Aside0.mk (show g6 ≠ g3 from (by rw [hg]; exact (Nat.ne_of_lt (blk_lt K3''.out)).symm)); have N4 := Aside0.mk (show g6 ≠ g4 from (by rw [hg]; exact (Nat.ne_of_lt (blk_lt K4'.out)).symm)); have N5 := Aside0.mk (show g6 ≠ g5 from (by rw [hg]; exact (Nat.ne_of_lt (blk_lt K5.out)).symm)); clear HB'' K3'' K4' K5; clear hg hbox hb))
  have c30 : w6.cell? ⟨g3, 0, none⟩ = some (.int .i64 a) := (blk_cell L3.out 0).trans rfl
  have c31 : w6.cell? ⟨g3, 1, none⟩ = some (.int .i64 b) := (blk_cell L3.out 1).trans rfl
  have c32 : w6.cell? ⟨g3, 2, none⟩ = some (.int .i64 d) := (blk_cell L3.out 2).trans rfl
  have c41 : w6.cell? ⟨g4, 1, none⟩ = some (.int .i64 fw) := (blk_cell L4.out 1).trans rfl
  have c50 : w6.cell? ⟨g5, 0, none⟩ = some (.int .i64 x) := (blk_cell L5.out 0).trans rfl
  have c51 : w6.cell? ⟨g5, 1, none⟩ = some (.int .i64 y) := (blk_cell L5.out 1).trans rfl
  have c52 : w6.cell? ⟨g5, 2, none⟩ = some (.int .i64 z) := (blk_cell L5.out 2).trans rfl
  have c60 : w6.cell? ⟨g6, 0, none⟩ = some (.int .i64 0) := (blk_cell L6.out 0).trans rfl
  have c61 : w6.cell? ⟨g6, 1, none⟩ = some (.int .i64 0) := (blk_cell L6.out 1).trans rfl
  have c62 : w6.cell? ⟨g6, 2, none⟩ = some (.int .i64 0) := (blk_cell L6.out 2).trans rfl
  have f60 := blk_frozen L6.out 0
  have f61 := blk_frozen L6.out 1
  have f62 := blk_frozen L6.out 2
  clear L3 L4 L5
  go_quiet (fail)
  rw [HU.out, HV.out]
  go_wp2
  refine bodyPost_ret (results_cell_row rfl _ _ g6 109 #[.int .i64 (wrap64 (a + x)), .int .i64 _, .int .i64 _] (0, 0) _ rfl (blk_put (cs := #[.int .i64 _, .int .i64 _, .int .i64 0]) (blk_put (cs := #[.int .i64 _, .int .i64 0, .int .i64 0]) (blk_put (cs := #[.int .i64 0, .int .i64 0, .int .i64 0]) (blk_drewN L6.out _) 0 _ rfl) 1 _ rfl) 2 _ rfl) Try.underlying109 rfl (by kernel_rfl)) rfl ?_
  exact ⟨rfl, by repeat (first | exact HB6.out | apply pw_below_drewN | refine below_set ?_ G6.out)⟩
theorem impl_outcome_with_calls (o : OutC) (f : S55) (A : Option Addr) (n c : Nat) (r : OutC) (w : World) :
    Calls Try.prog 106 #[.agg #[.int .i64 o.f0, .int .i64 o.f1, .int .i64 o.f2], .agg #[.slice A n c, .int .i64 f.f1], .agg #[.int .i64 r.f0, .int .i64 r.f1, .int .i64 r.f2]] w fun e w' => e = .returned (.agg #[.int .i64 (outW o f r).f0, .int .i64 (outW o f r).f1, .int .i64 (outW o f r).f2]) ∧ Below w.heap.size w w' := by
  unfold outW
  by_cases h : o.f0 > 0
  · rw [if_pos h]
    exact impl_outcome_with_some o.f0 o.f1 o.f2 f.f1 r.f0 r.f1 r.f2 _ _ _ _ A n c w h (i64_w _) (i64_w _) _ _ rfl rfl (by unfold mn; by_cases h : o.f1 < wrap64 (f.f1 + r.f1) <;> simp [h]) (by unfold mn; by_cases h : o.f2 < wrap64 (1 + r.f2) <;> simp [h])
  · rw [if_neg h]
    exact impl_outcome_with_none o.f0 o.f1 o.f2 f.f1 r.f0 r.f1 r.f2 _ _ A n c w h (i64_w _) (i64_w _)

end Go.Proofs.Ytnemcppllfmioaa.Pure
