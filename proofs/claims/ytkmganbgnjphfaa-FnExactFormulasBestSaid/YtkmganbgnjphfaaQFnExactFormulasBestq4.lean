/- Lemmas on the printed functions for the law FnExactFormulasBest. -/
import Derived.Test.YtkmganbgnjphfaaQFnExactFormulasBestq0
import Derived.Test.YtkmganbgnjphfaaQFnExactFormulasBestq1
import Derived.Test.YtkmganbgnjphfaaQFnExactFormulasBestq2
import Derived.Test.YtkmganbgnjphfaaQFnExactFormulasBestq3
import Derived.Deep.RegionHeld3
import Derived.BigRegion
import Derived.Deep.Slices
import Derived.Laws.CopyOwn
namespace Go.Proofs.Ytkmganbgnjphfaa.Pure
set_option linter.unusedVariables false
set_option linter.unusedSimpArgs false
open Go Go.RowKit Go.Proofs.Ytkmganbgnjphfaa.PFnExactFormulasBest Go.Proofs.YtkmganbgnjphfaaW.PrintWords Go.Proofs.YtkmganbgnjphfaaW.PrintLast Go.Proofs.YtkmganbgnjphfaaW.PrintMore

/-! the reader -/
/-- The reader's block at R, its map's block at M: what is in the map is so. -/
structure RdSt (w0 w : World) (L : List S37) (S : List Int) (A0 : Option Addr) (c0 : Nat) (A1 : Option Addr) (c1 : Nat) (R M : Nat) : Prop where
  below : Below w0.heap.size w0 w
  blk : w.heap[R]? = some (.cells #[.slice A0 L.length c0, .slice A1 S.length c1, .map (some M)] 94 (0, 0))
  memo : ∃ F, MapFn w M F ∧ ∀ k v, F k = some v → ∃ p : Nat, k = (p : Int) ∧ p ≤ S.length ∧ v = outV (rdO L (S.drop p))
theorem RdSt.kept {w0 w w' : World} {L : List S37} {S : List Int} {A0 : Option Addr} {c0 : Nat} {A1 : Option Addr} {c1 : Nat} {R M : Nat} (h : RdSt w0 w L S A0 c0 A1 c1 R M) (hb : Below w.heap.size w w') : RdSt w0 w' L S A0 c0 A1 c1 R M := by
  obtain ⟨F, hF, hF'⟩ := h.memo
  exact ⟨below_then h.below h.below.size hb, blk_below h.blk hb, F, hF.move (hb.block _ hF.lt), hF'⟩
theorem RdSt.far {w0 w w' : World} {L : List S37} {S : List Int} {A0 : Option Addr} {c0 : Nat} {A1 : Option Addr} {c1 : Nat} {R M : Nat} (h : RdSt w0 w L S A0 c0 A1 c1 R M) (hb : Below w0.heap.size w0 w') (hR : w'.heap[R]? = w.heap[R]?) (hM : w'.heap[M]? = w.heap[M]?) : RdSt w0 w' L S A0 c0 A1 c1 R M := by
  obtain ⟨F, hF, hF'⟩ := h.memo
  exact ⟨hb, hR.trans h.blk, F, hF.move hM, hF'⟩
theorem RdSt.ne {w0 w : World} {L : List S37} {S : List Int} {A0 : Option Addr} {c0 : Nat} {A1 : Option Addr} {c1 : Nat} {R M : Nat} (h : RdSt w0 w L S A0 c0 A1 c1 R M) {g t : Nat} {cs : Array Value} {fr : Nat × Nat} (hg : w.heap[g]? = some (.cells cs t fr)) : g ≠ M := by
  rintro rfl
  obtain ⟨F, ⟨es, clock, hb, _⟩, _⟩ := h.memo
  rw [hb] at hg; cases hg
theorem RdSt.set {w0 w : World} {L : List S37} {S : List Int} {A0 : Option Addr} {c0 : Nat} {A1 : Option Addr} {c1 : Nat} {R M : Nat} (h : RdSt w0 w L S A0 c0 A1 c1 R M) {g : Nat} (hB : w0.heap.size ≤ g) (hR : g ≠ R) (hM : g ≠ M) (j : Nat) (v : Value) : RdSt w0 (w.setCell ⟨g, j, none⟩ v) L S A0 c0 A1 c1 R M :=
  h.far (below_set h.below hB) (Below.heap_setCell w ⟨g, j, none⟩ v R hR.symm) (Below.heap_setCell w ⟨g, j, none⟩ v M hM.symm)

set_option maxHeartbeats 8000000 in
set_option maxRecDepth 100000 in
theorem impl_read_end {L : List S37} {S : List Int} {A0 : Option Addr} {c0 : Nat} {A1 : Option Addr} {c1 : Nat} {w0 : World} {R M : Nat} (hr0 : Kd.C k37 w0 A0 L.length L) (hc0 : L.length ≤ c0) (hr1 : Kd.C (Kd.int .i64) w0 A1 S.length S) (hc1 : S.length ≤ c1)
    (hL : ∀ f ∈ L, 1 ≤ f.f0.length ∧ f.f0.length ≤ 5) (hLl : L.length ≤ 8) (hSl : S.length ≤ 23) (hM : w0.heap.size ≤ M) (hR : w0.heap.size ≤ R) (hRM : R ≠ M) (w : World) (v : Value) (hst : RdSt w0 w L S A0 c0 A1 c1 R M) :
    Calls Try.prog 54 #[.pointer (some ⟨R, 0, none⟩), .int .i64 (S.length : Int), v] w fun e w' => e = .returned (outV (rdO L (S.drop S.length))) ∧ RdSt w0 w' L S A0 c0 A1 c1 R M ∧ Kept w w' (fun k => k = M) := by
  have hu1 := Try.underlying71
  have hu2 := Try.underlying37
  have hu3 := Try.underlying94
  clear hr0 hc0 hr1 hc1 hL
  have hS : S.drop S.length = [] := List.drop_length
  rw [hS, rdO_nil]
  have HST := Aside0.mk hst
  have cR1 : w.cell? ⟨R, 1, none⟩ = some (.slice A1 S.length c1) := (blk_cell hst.blk 1).trans rfl
  clear hst hS
  go_enter Try.func54, Try.ntmps54
  go_wp2_with (first
    | ((with_reducible refine gate_dst (N := 6) rfl ?_); refine box_event ?hg (N := 6) ?hd (cs := #[.int .i64 0, .int .i64 0, .int .i64 0]) (t := 71) ?hr ?_; (case hd => rfl); (case hg => rfl); (case hr => first | (go_simp; done) | (go_simp; rfl)); intro g6 hg w6 hbox hb; have W6 := Aside0.mk hbox; have HB9 := Aside0.mk hb; have N6 := Aside0.mk (show w.heap.size ≤ g6 from (by rw [hg]; exact Nat.le_refl _)); have cS1 := pw_cell_below hb cR1; have y0 : w6.cell? ⟨g6, 0, none⟩ = some (.int .i64 0) := (blk_cell W6.out 0).trans rfl; have y1 : w6.cell? ⟨g6, 1, none⟩ = some (.int .i64 0) := (blk_cell W6.out 1).trans rfl; have y2 : w6.cell? ⟨g6, 2, none⟩ = some (.int .i64 0) := (blk_cell W6.out 2).trans rfl; have f0 := blk_frozen W6.out 0; have f1 := blk_frozen W6.out 1; have f2 := blk_frozen W6.out 2; clear hg hbox hb))
  refine bodyPost_ret (results_cell_row rfl _ _ g6 71 #[.int .i64 1, .int .i64 0, .int .i64 0] (0, 0) _ rfl (blk_put (cs := #[.int .i64 1, .int .i64 0, .int .i64 0]) (blk_put (cs := #[.int .i64 1, .int .i64 0, .int .i64 0]) (blk_put (cs := #[.int .i64 0, .int .i64 0, .int .i64 0]) W6.out 0 _ rfl) 1 _ rfl) 2 _ rfl) Try.underlying71 rfl (by kernel_rfl)) rfl ?_
  exact ⟨rfl, HST.out.kept (below_set (below_set (below_set HB9.out N6.out) N6.out) N6.out), Kept.of_below (below_set (below_set (below_set HB9.out N6.out) N6.out) N6.out) _⟩
set_option maxHeartbeats 8000000 in
set_option maxRecDepth 100000 in
theorem impl_read_nil {L : List S37} {S : List Int} {A0 : Option Addr} {c0 : Nat} {A1 : Option Addr} {c1 : Nat} {w0 : World} {R M : Nat} (hr0 : Kd.C k37 w0 A0 L.length L) (hc0 : L.length ≤ c0) (hr1 : Kd.C (Kd.int .i64) w0 A1 S.length S) (hc1 : S.length ≤ c1)
    (hL : ∀ f ∈ L, 1 ≤ f.f0.length ∧ f.f0.length ≤ 5) (hLl : L.length ≤ 8) (hSl : S.length ≤ 23) (hM : w0.heap.size ≤ M) (hR : w0.heap.size ≤ R) (hRM : R ≠ M) (n : Nat) :
    ∀ (p : Nat) (w : World), p ≤ S.length → S.length - p ≤ n → RdSt w0 w L S A0 c0 A1 c1 R M →
    Calls Try.prog 54 #[.pointer (some ⟨R, 0, none⟩), .int .i64 (p : Int), .nilFunc] w fun e w' => e = .returned (outV (rdO L (S.drop p))) ∧ RdSt w0 w' L S A0 c0 A1 c1 R M ∧ Kept w w' (fun k => k = M) := by
  have HR0 := Aside0.mk hr0
  have HC0 := Aside0.mk hc0
  have HR1 := Aside0.mk hr1
  have HC1 := Aside0.mk hc1
  have HLL := Aside0.mk hL
  have HMR := Aside0.mk (And.intro hM (And.intro hR hRM))
  clear hr0 hc0 hr1 hc1 hL hM hR hRM
  have hu1 := Try.underlying71
  have hu2 := Try.underlying37
  have hu3 := Try.underlying94
  induction n with
  | zero =>
    intro p w hp hn hst
    obtain rfl : p = S.length := by omega
    exact impl_read_end HR0.out HC0.out HR1.out HC1.out HLL.out hLl hSl HMR.out.1 HMR.out.2.1 HMR.out.2.2 w _ hst
  | succ n ih =>
    intro p w hp hn hst
    have IH := Aside0.mk ih
    clear ih
    have HST := Aside0.mk hst
    have HP := Aside0.mk (And.intro hp hn)
    obtain ⟨F, hF, hF'⟩ := hst.memo
    have HF := Aside0.mk (And.intro hF hF')
    have cR0 : w.cell? ⟨R, 0, none⟩ = some (.slice A0 L.length c0) := (blk_cell hst.blk 0).trans rfl
    have cR1 : w.cell? ⟨R, 1, none⟩ = some (.slice A1 S.length c1) := (blk_cell hst.blk 1).trans rfl
    have cR2 : w.cell? ⟨R, 2, none⟩ = some (.map (some M)) := (blk_cell hst.blk 2).trans rfl
    clear hst hF hF'
    by_cases hps : p = S.length
    · subst hps
      exact impl_read_end HR0.out HC0.out HR1.out HC1.out HLL.out hLl hSl HMR.out.1 HMR.out.2.1 HMR.out.2.2 w _ HST.out
    have e1 : ((p : Int) == (S.length : Int)) = false := by rw [beq_eq_false_iff_ne]; omega
    have e1' : (p == S.length) = false := by rw [beq_eq_false_iff_ne]; exact hps
    have hne : S.drop p ≠ [] := by
      intro h
      have := congrArg List.length h
      rw [List.length_drop, List.length_nil] at this
      omega
    have HNE := Aside0.mk hne
    clear hne hps hp hn
    cases hFp : F (p : Int) with
    | some v =>
      have hv : v = outV (rdO L (S.drop p)) := by
        obtain ⟨p', h1, _, h3⟩ := HF.out.2 _ _ hFp
        obtain rfl : p = p' := by omega
        exact h3
      obtain ⟨O, hO⟩ : ∃ O, O = rdO L (S.drop p) := ⟨_, rfl⟩
      rw [← hO] at hv ⊢
      rw [hv] at hFp
      obtain ⟨x, y, z⟩ := O
      have HFP := Aside0.mk hFp
      clear hv hO hFp
      have hq : ∀ w, (binOp .eql 75 .nilFunc .nilFunc).run Try.prog w = .ok (.bool true) w := fun _ => by kernel_rfl
      go_enter Try.func54, Try.ntmps54
      go_upto_region 3 with (first
        | ((with_reducible refine gate_dst (N := 6) rfl ?_); refine box_event ?hg (N := 6) ?hd (cs := #[.int .i64 0, .int .i64 0, .int .i64 0]) (t := 71) ?hr ?_; (case hd => rfl); (case hg => rfl); (case hr => first | (go_simp; done) | (go_simp; rfl)); intro g6 hg w6 hbox hb; have HK6 := Aside0.mk hbox; have HB6 := Aside0.mk hb; have N6 := Aside0.mk (show w.heap.size ≤ g6 from (by rw [hg]; exact Nat.le_refl _)); have cS1 := pw_cell_below hb cR1; have cS2 := pw_cell_below hb cR2; have cS0 := pw_cell_below hb cR0; have HL6 := Aside0.mk (MapFn.look (HF.out.1.move (hb.block _ HF.out.1.lt)) Try.underlying92 Try.underlying3 (z := .agg #[.int .i64 0, .int .i64 0, .int .i64 0]) (fun _ => by kernel_rfl) (p : Int) true); clear hg hbox hb))
      have hlk := HL6.out
      rw [HFP.out] at hlk
      simp only [if_true, Option.getD_some, Option.isSome_some, outV] at hlk
      go_upto_region 4 with (first
        | ((with_reducible refine gate_dst (N := 7) rfl ?_); refine box_event ?hg (N := 7) ?hd (cs := #[.int .i64 0, .int .i64 0, .int .i64 0]) (t := 71) ?hr ?_; (case hd => rfl); (case hg => rfl); (case hr => first | (go_simp; done) | (go_simp; rfl)); intro g7 hg w7 hbox hb; have HK7 := Aside0.mk hbox; have HB7 := Aside0.mk (below_step HB6.out hb); have HK6' := Aside0.mk (blk_below HK6.out hb); have NE := Aside0.mk (show g6 ≠ g7 from (by rw [hg]; exact Nat.ne_of_lt (blk_lt HK6.out))); have N7 := Aside0.mk (show w.heap.size ≤ g7 from (by rw [hg]; exact HB6.out.size)); have cz0 : w7.cell? ⟨g7, 0, none⟩ = some (.int .i64 0) := (blk_cell HK7.out 0).trans rfl; have cz1 : w7.cell? ⟨g7, 1, none⟩ = some (.int .i64 0) := (blk_cell HK7.out 1).trans rfl; have cz2 : w7.cell? ⟨g7, 2, none⟩ = some (.int .i64 0) := (blk_cell HK7.out 2).trans rfl; have fz0 := blk_frozen HK7.out 0; have fz1 := blk_frozen HK7.out 1; have fz2 := blk_frozen HK7.out 2; clear hg hbox hb))
      have W7 : Aside0 ((((w7.setCell ⟨g7, 0, none⟩ (.int .i64 x)).setCell ⟨g7, 1, none⟩ (.int .i64 y)).setCell ⟨g7, 2, none⟩ (.int .i64 z)).heap[g7]? = some (.cells #[.int .i64 x, .int .i64 y, .int .i64 z] 71 (0, 0))) := ⟨blk_put (cs := #[.int .i64 x, .int .i64 y, .int .i64 0]) (blk_put (cs := #[.int .i64 x, .int .i64 0, .int .i64 0]) (blk_put (cs := #[.int .i64 0, .int .i64 0, .int .i64 0]) HK7.out 0 _ rfl) 1 _ rfl) 2 _ rfl⟩
      have W6 : Aside0 ((((w7.setCell ⟨g7, 0, none⟩ (.int .i64 x)).setCell ⟨g7, 1, none⟩ (.int .i64 y)).setCell ⟨g7, 2, none⟩ (.int .i64 z)).heap[g6]? = some (.cells #[.int .i64 0, .int .i64 0, .int .i64 0] 71 (0, 0))) := ⟨blk_far (blk_far (blk_far HK6'.out NE.out _) NE.out _) NE.out _⟩
      have HB9 : Aside0 (Below w.heap.size w (((w7.setCell ⟨g7, 0, none⟩ (.int .i64 x)).setCell ⟨g7, 1, none⟩ (.int .i64 y)).setCell ⟨g7, 2, none⟩ (.int .i64 z))) := ⟨below_set (below_set (below_set HB7.out N7.out) N7.out) N7.out⟩
      clear HB7 HK7 HK6' HB6 HK6 cz0 cz1 cz2 fz0 fz1 fz2 cS0 cS1 cS2
      generalize (((w7.setCell ⟨g7, 0, none⟩ (.int .i64 x)).setCell ⟨g7, 1, none⟩ (.int .i64 y)).setCell ⟨g7, 2, none⟩ (.int .i64 z)) = w9 at W7 W6 HB9 ⊢
      have cS0 := pw_cell_below HB9.out cR0
      have cS1 := pw_cell_below HB9.out cR1
      have cS2 := pw_cell_below HB9.out cR2
      have y0 : w9.cell? ⟨g6, 0, none⟩ = some (.int .i64 0) := (blk_cell W6.out 0).trans rfl
      have y1 : w9.cell? ⟨g6, 1, none⟩ = some (.int .i64 0) := (blk_cell W6.out 1).trans rfl
      have y2 : w9.cell? ⟨g6, 2, none⟩ = some (.int .i64 0) := (blk_cell W6.out 2).trans rfl
      have f0 := blk_frozen W6.out 0
      have f1 := blk_frozen W6.out 1
      have f2 := blk_frozen W6.out 2
      have s0 : w9.cell? ⟨g7, 0, none⟩ = some (.int .i64 x) := (blk_cell W7.out 0).trans rfl
      have s1 : w9.cell? ⟨g7, 1, none⟩ = some (.int .i64 y) := (blk_cell W7.out 1).trans rfl
      have s2 : w9.cell? ⟨g7, 2, none⟩ = some (.int .i64 z) := (blk_cell W7.out 2).trans rfl
      go_wp2
      refine bodyPost_ret (results_cell_row rfl _ _ g6 71 #[.int .i64 x, .int .i64 y, .int .i64 z] (0, 0) _ rfl (blk_put (cs := #[.int .i64 x, .int .i64 y, .int .i64 0]) (blk_put (cs := #[.int .i64 x, .int .i64 0, .int .i64 0]) (blk_put (cs := #[.int .i64 0, .int .i64 0, .int .i64 0]) W6.out 0 _ rfl) 1 _ rfl) 2 _ rfl) Try.underlying71 rfl (by kernel_rfl)) rfl ?_
      exact ⟨rfl, HST.out.kept (below_set (below_set (below_set HB9.out N6.out) N6.out) N6.out), Kept.of_below (below_set (below_set (below_set HB9.out N6.out) N6.out) N6.out) _⟩
    | none =>
      have HFP := Aside0.mk hFp
      clear hFp
      have hs := rdO_step (fun f hf => (HLL.out f hf).1) HNE.out
      have HS := Aside0.mk hs
      clear hs
      have hq : ∀ w, (binOp .eql 75 .nilFunc .nilFunc).run Try.prog w = .ok (.bool true) w := fun _ => by kernel_rfl
      have hq2 : ∀ w, (binOp .neq 75 .nilFunc .nilFunc).run Try.prog w = .ok (.bool false) w := fun _ => by kernel_rfl
      go_enter Try.func54, Try.ntmps54
      go_upto_region 3 with (first
        | ((with_reducible refine gate_dst (N := 6) rfl ?_); refine box_event ?hg (N := 6) ?hd (cs := #[.int .i64 0, .int .i64 0, .int .i64 0]) (t := 71) ?hr ?_; (case hd => rfl); (case hg => rfl); (case hr => first | (go_simp; done) | (go_simp; rfl)); intro g6 hg w6 hbox hb; have HK6 := Aside0.mk hbox; have HB6 := Aside0.mk hb; have N6 := Aside0.mk (show w.heap.size ≤ g6 from (by rw [hg]; exact Nat.le_refl _)); have cS1 := pw_cell_below hb cR1; have cS2 := pw_cell_below hb cR2; have cS0 := pw_cell_below hb cR0; have HL6 := Aside0.mk (MapFn.look (HF.out.1.move (hb.block _ HF.out.1.lt)) Try.underlying92 Try.underlying3 (z := .agg #[.int .i64 0, .int .i64 0, .int .i64 0]) (fun _ => by kernel_rfl) (p : Int) true); clear hg hbox hb))
      have hlk := HL6.out
      rw [HFP.out] at hlk
      simp only [if_true, Option.getD_none, Option.isSome_none] at hlk
      go_upto_region 4 with (first
        | ((with_reducible refine gate_dst (N := 7) rfl ?_); refine box_event ?hg (N := 7) ?hd (cs := #[.int .i64 0, .int .i64 0, .int .i64 0]) (t := 71) ?hr ?_; (case hd => rfl); (case hg => rfl); (case hr => first | (go_simp; done) | (go_simp; rfl)); intro g7 hg w7 hbox hb; have HK7 := Aside0.mk hbox; have HB7 := Aside0.mk (below_step HB6.out hb); have HK6' := Aside0.mk (blk_below HK6.out hb); have NE := Aside0.mk (show g6 ≠ g7 from (by rw [hg]; exact Nat.ne_of_lt (blk_lt HK6.out))); have N7 := Aside0.mk (show w.heap.size ≤ g7 from (by rw [hg]; exact HB6.out.size)); have cz0 : w7.cell? ⟨g7, 0, none⟩ = some (.int .i64 0) := (blk_cell HK7.out 0).trans rfl; have cz1 : w7.cell? ⟨g7, 1, none⟩ = some (.int .i64 0) := (blk_cell HK7.out 1).trans rfl; have cz2 : w7.cell? ⟨g7, 2, none⟩ = some (.int .i64 0) := (blk_cell HK7.out 2).trans rfl; have fz0 := blk_frozen HK7.out 0; have fz1 := blk_frozen HK7.out 1; have fz2 := blk_frozen HK7.out 2; clear hg hbox hb))
      have W7 : Aside0 ((((w7.setCell ⟨g7, 0, none⟩ (.int .i64 0)).setCell ⟨g7, 1, none⟩ (.int .i64 0)).setCell ⟨g7, 2, none⟩ (.int .i64 0)).heap[g7]? = some (.cells #[.int .i64 0, .int .i64 0, .int .i64 0] 71 (0, 0))) := ⟨blk_put (cs := #[.int .i64 0, .int .i64 0, .int .i64 0]) (blk_put (cs := #[.int .i64 0, .int .i64 0, .int .i64 0]) (blk_put (cs := #[.int .i64 0, .int .i64 0, .int .i64 0]) HK7.out 0 _ rfl) 1 _ rfl) 2 _ rfl⟩
      have W6 : Aside0 ((((w7.setCell ⟨g7, 0, none⟩ (.int .i64 0)).setCell ⟨g7, 1, none⟩ (.int .i64 0)).setCell ⟨g7, 2, none⟩ (.int .i64 0)).heap[g6]? = some (.cells #[.int .i64 0, .int .i64 0, .int .i64 0] 71 (0, 0))) := ⟨blk_far (blk_far (blk_far HK6'.out NE.out _) NE.out _) NE.out _⟩
      have HB9 : Aside0 (Below w.heap.size w (((w7.setCell ⟨g7, 0, none⟩ (.int .i64 0)).setCell ⟨g7, 1, none⟩ (.int .i64 0)).setCell ⟨g7, 2, none⟩ (.int .i64 0))) := ⟨below_set (below_set (below_set HB7.out N7.out) N7.out) N7.out⟩
      clear HB7 HK7 HK6' HB6 HK6 cz0 cz1 cz2 fz0 fz1 fz2 cS0 cS1 cS2
      generalize (((w7.setCell ⟨g7, 0, none⟩ (.int .i64 0)).setCell ⟨g7, 1, none⟩ (.int .i64 0)).setCell ⟨g7, 2, none⟩ (.int .i64 0)) = w9 at W7 W6 HB9 ⊢
      have cS0 := pw_cell_below HB9.out cR0
      have cS1 := pw_cell_below HB9.out cR1
      have cS2 := pw_cell_below HB9.out cR2
      have y0 : w9.cell? ⟨g6, 0, none⟩ = some (.int .i64 0) := (blk_cell W6.out 0).trans rfl
      have y1 : w9.cell? ⟨g6, 1, none⟩ = some (.int .i64 0) := (blk_cell W6.out 1).trans rfl
      have y2 : w9.cell? ⟨g6, 2, none⟩ = some (.int .i64 0) := (blk_cell W6.out 2).trans rfl
      have f0 := blk_frozen W6.out 0
      have f1 := blk_frozen W6.out 1
      have f2 := blk_frozen W6.out 2
      go_upto_region 7 with (first
        | ((with_reducible refine gate_dst (N := 9) rfl ?_); refine box_event ?hg (N := 9) ?hd (cs := #[.int .i64 0, .int .i64 0, .int .i64 0]) (t := 71) ?hr ?_; (case hd => rfl); (case hg => rfl); (case hr => first | (go_simp; done) | (go_simp; rfl)); intro g9 hg w10 hbox hb; have HK9 := Aside0.mk hbox; have HB10 := Aside0.mk (below_step HB9.out hb); have W6' := Aside0.mk (blk_below W6.out hb); have NE9 := Aside0.mk (show g6 ≠ g9 from (by rw [hg]; exact Nat.ne_of_lt (blk_lt W6.out))); have N9 := Aside0.mk (show w.heap.size ≤ g9 from (by rw [hg]; exact HB9.out.size)); have cz0 : w10.cell? ⟨g9, 0, none⟩ = some (.int .i64 0) := (blk_cell HK9.out 0).trans rfl; have cz1 : w10.cell? ⟨g9, 1, none⟩ = some (.int .i64 0) := (blk_cell HK9.out 1).trans rfl; have cz2 : w10.cell? ⟨g9, 2, none⟩ = some (.int .i64 0) := (blk_cell HK9.out 2).trans rfl; have fz0 := blk_frozen HK9.out 0; have fz1 := blk_frozen HK9.out 1; have fz2 := blk_frozen HK9.out 2; clear cS0 cS1 cS2; have cS0 := pw_cell_below HB10.out cR0; have cS1 := pw_cell_below HB10.out cR1; have cS2 := pw_cell_below HB10.out cR2; clear hg hbox hb))
      have W9 : Aside0 ((((w10.setCell ⟨g9, 0, none⟩ (.int .i64 0)).setCell ⟨g9, 1, none⟩ (.int .i64 0)).setCell ⟨g9, 2, none⟩ (.int .i64 0)).heap[g9]? = some (.cells #[.int .i64 0, .int .i64 0, .int .i64 0] 71 (0, 0))) := ⟨blk_put (cs := #[.int .i64 0, .int .i64 0, .int .i64 0]) (blk_put (cs := #[.int .i64 0, .int .i64 0, .int .i64 0]) (blk_put (cs := #[.int .i64 0, .int .i64 0, .int .i64 0]) HK9.out 0 _ rfl) 1 _ rfl) 2 _ rfl⟩
      have W6b : Aside0 ((((w10.setCell ⟨g9, 0, none⟩ (.int .i64 0)).setCell ⟨g9, 1, none⟩ (.int .i64 0)).setCell ⟨g9, 2, none⟩ (.int .i64 0)).heap[g6]? = some (.cells #[.int .i64 0, .int .i64 0, .int .i64 0] 71 (0, 0))) := ⟨blk_far (blk_far (blk_far W6'.out NE9.out _) NE9.out _) NE9.out _⟩
      have HB11 : Aside0 (Below w.heap.size w (((w10.setCell ⟨g9, 0, none⟩ (.int .i64 0)).setCell ⟨g9, 1, none⟩ (.int .i64 0)).setCell ⟨g9, 2, none⟩ (.int .i64 0))) := ⟨below_set (below_set (below_set HB10.out N9.out) N9.out) N9.out⟩
      clear HB10 HK9 W6' W6 W7 HB9 cz0 cz1 cz2 fz0 fz1 fz2 cS0 cS1 cS2 y0 y1 y2 f0 f1 f2
      generalize (((w10.setCell ⟨g9, 0, none⟩ (.int .i64 0)).setCell ⟨g9, 1, none⟩ (.int .i64 0)).setCell ⟨g9, 2, none⟩ (.int .i64 0)) = w11 at W9 W6b HB11 ⊢
      have cS0 := pw_cell_below HB11.out cR0
      have HST11 := Aside0.mk (HST.out.kept HB11.out)
      have HKP := Aside0.mk (Kept.of_below HB11.out (fun k => k = M))
      clear HB11 HL6 hlk cR0 cR1 cR2
      go_wp2
      go_loopg [42] L.length (fun kq v42 w' => ∃ (i : Nat) (acc : OutC), v42 = .int .i64 (i : Int) ∧ Aside0 (kq = L.length - i ∧ i ≤ L.length ∧ rdA (rdO L) (S.drop p) (L.drop i) acc = rdO L (S.drop p)) ∧ Aside0 (w'.heap[g9]? = some (.cells #[.int .i64 acc.f0, .int .i64 acc.f1, .int .i64 acc.f2] 71 (0, 0)) ∧ w'.heap[g6]? = some (.cells #[.int .i64 0, .int .i64 0, .int .i64 0] 71 (0, 0))) ∧ Aside0 (RdSt w0 w' L S A0 c0 A1 c1 R M) ∧ Aside0 (Kept w w' (fun k => k = M)))
      case atStart => exact ⟨0, ⟨0, 0, 0⟩, rfl, ⟨rfl, Nat.zero_le _, HS.out.symm⟩, ⟨W9.out, W6b.out⟩, HST11, HKP⟩
      case round =>
        clear W9 W6b HST11 HKP cS0
        obtain ⟨i, acc, rfl, HX, HG, HR, HKP⟩ := hrel
        by_cases hi : (i : Int) < (L.length : Int)
        · have d1 : decide ((i : Int) < (L.length : Int)) = true := decide_eq_true hi
          have p0 : (0 : Int) ≤ (i : Int) := by omega
          obtain ⟨ad, Af, cf, e0, ux0, ux1, hcf, hrf⟩ := at_T37 (Kd.C_below HR0.out HR.out.below) (i : Int) p0 hi
          subst e0
          obtain ⟨f, hf⟩ : ∃ f, f = rd_T37 L (i : Int) := ⟨_, rfl⟩
          rw [← hf] at ux0 ux1 hcf hrf
          simp only [Int.toNat_natCast] at ux0 ux1
          have hdr : L.drop i = f :: L.drop (i + 1) := by
            rw [List.drop_eq_getElem_cons (by omega), hf]
            unfold rd_T37
            rw [Int.toNat_natCast, List.getD_eq_getElem?_getD, List.getElem?_eq_getElem (by omega)]; rfl
          have hfl := HLL.out f (by rw [hf]; exact rd_mem p0 hi)
          have hX := HX.out.2.2
          rw [hdr] at hX
          simp only [rdA] at hX
          obtain ⟨T, hT⟩ : ∃ T, T = S.drop p := ⟨_, rfl⟩
          have HTT := Aside0.mk hT
          have hTl : T.length = S.length - p := by rw [hT, List.length_drop]
          obtain ⟨i3, hi3, hz3, hs3, hy3⟩ := info_parts info3
          obtain ⟨At, ct, hcut, hrt, hct, _⟩ := cut_drop (Kd.int .i64) 29 3 Try.underlying29 hi3 hs3 (p : Int) HR1.out HC1.out (by omega) (by have := HP.out.1; omega)
          simp only [Int.toNat_natCast] at hcut hrt hct
          rw [← hT, ← hTl] at hrt
          rw [← hTl] at hcut hct
          rw [← hT] at hX
          obtain ⟨kb, hkb⟩ := Ev.rounds (impl_begins_ev T f.f0 (by omega))
          have HKB := Aside0.mk hkb
          have HRT := Aside0.mk hrt
          have HCT := Aside0.mk hct
          have HRF := Aside0.mk hrf
          have HCF := Aside0.mk hcf
          have HFL := Aside0.mk hfl
          have q0 := eq_true p0
          have q1 := eq_true hi
          have bi : i ≤ 1000000000000 := by omega
          have bp : p ≤ 23 := by have := HP.out.1; omega
          have bf : f.f0.length ≤ 5 := hfl.2
          have HIL := Aside0.mk (show i + 1 ≤ L.length by omega)
          have HSI := Aside0.mk (show p ≤ S.length by have := HP.out.1; omega)
          have HTL := Aside0.mk hTl
          have cR0 : wr.cell? ⟨R, 0, none⟩ = some (.slice (some ad) L.length c0) := (blk_cell HR.out.blk 0).trans rfl
          have cR1 : wr.cell? ⟨R, 1, none⟩ = some (.slice A1 S.length c1) := (blk_cell HR.out.blk 1).trans rfl
          have HXX := Aside0.mk hX
          clear hi p0 hf hdr hfl hX hT hTl hi3 hs3 hz3 hy3 hrt hct hrf hcf hkb i3
          go_upto_region 10 with (first
            | ((with_reducible refine gate_dst (N := 11) rfl ?_); refine box_event ?hg (N := 11) ?hd (cs := #[.slice none 0 0, .int .i64 0]) (t := 37) ?hr ?_; (case hd => rfl); (case hg => rfl); (case hr => first | (go_simp; done) | (go_simp; rfl)); intro g11 hg w12 hbox hb; have HK11 := Aside0.mk hbox; have HB12 := Aside0.mk hb; have N11 := Aside0.mk (show wr.heap.size ≤ g11 from (by rw [hg]; exact Nat.le_refl _)); have cz0 : w12.cell? ⟨g11, 0, none⟩ = some (.slice none 0 0) := (blk_cell HK11.out 0).trans rfl; have cz1 : w12.cell? ⟨g11, 1, none⟩ = some (.int .i64 0) := (blk_cell HK11.out 1).trans rfl; have fz0 := blk_frozen HK11.out 0; have fz1 := blk_frozen HK11.out 1; clear hg hbox hb))
          have WB : Aside0 (((w12.setCell ⟨g11, 0, none⟩ (.slice Af f.f0.length cf)).setCell ⟨g11, 1, none⟩ (.int .i64 f.f1)).heap[g11]? = some (.cells #[.slice Af f.f0.length cf, .int .i64 f.f1] 37 (0, 0))) := ⟨blk_put (cs := #[.slice Af f.f0.length cf, .int .i64 0]) (blk_put (cs := #[.slice none 0 0, .int .i64 0]) HK11.out 0 _ rfl) 1 _ rfl⟩
          have HBA : Aside0 (Below wr.heap.size wr ((w12.setCell ⟨g11, 0, none⟩ (.slice Af f.f0.length cf)).setCell ⟨g11, 1, none⟩ (.int .i64 f.f1))) := ⟨below_set (below_set HB12.out N11.out) N11.out⟩
          clear HK11 HB12 cz0 cz1 fz0 fz1 ux0 ux1
          generalize ((w12.setCell ⟨g11, 0, none⟩ (.slice Af f.f0.length cf)).setCell ⟨g11, 1, none⟩ (.int .i64 f.f1)) = wA at WB HBA ⊢
          have a0 := pw_cell_below HBA.out cR1
          have a1 : wA.cell? ⟨g11, 0, none⟩ = some (.slice Af f.f0.length cf) := (blk_cell WB.out 0).trans rfl
          clear cR0 cR1
          have HRA := Aside0.mk (HR.out.kept HBA.out)
          have HKA := Aside0.mk (HKP.out.below HBA.out)
          have HGA := Aside0.mk (And.intro (blk_below HG.out.1 HBA.out) (blk_below HG.out.2 HBA.out))
          have HRTA := Aside0.mk (Kd.C_below HRT.out HRA.out.below)
          have HRFA := Aside0.mk (Kd.C_below HRF.out HBA.out)
          cases hb : isPre f.f0 T
          · rw [hb] at HKB HXX
            have NX : Aside0 (L.length - (i + 1) < gk ∧ i + 1 ≤ L.length ∧ rdA (rdO L) T (L.drop (i + 1)) acc = rdO L T) := ⟨by have := HX.out.1; have := HIL.out; omega, HIL.out, by have := HXX.out; simpa using this⟩
            clear hb
            go_quiet ((go_at_call 47; ((with_reducible refine (impl_begins.calls kb _ _ T _ _ f.f0 false _ ?side1 ?side2 ?side3 ?side4 HKB.out).mono ?_); (case side1 => repeat (first | exact HRTA.out | (with_reducible refine Kd.C_drewN ?_ _))); (case side2 => exact HCT.out); (case side3 => repeat (first | exact HRFA.out | (with_reducible refine Kd.C_drewN ?_ _))); (case side4 => exact HCF.out); rintro e w' ⟨rfl, ⟨nd, rfl⟩⟩; (first | exact ⟨rfl, _, World.drewN_drewN _ _ _⟩ | exact ⟨rfl, _, Eq.trans (World.drewN_drewN _ _ _) (congrArg (World.drewN _) (Nat.add_assoc _ _ _))⟩))))
            go_wp2
            go_roundg (L.length - (i + 1))
            case measure => exact NX.out.1
            case rel => exact ⟨i + 1, acc, by simp, ⟨rfl, NX.out.2.1, by rw [← HTT.out]; exact NX.out.2.2⟩, HGA, ⟨HRA.out.kept (pw_below_drewN (Below.refl _ _) _)⟩, ⟨HKA.out⟩⟩
          · rw [hb] at HKB HXX
            have hpl := isPre_len hb
            have hp' : p + f.f0.length ≤ S.length := by have := HTL.out; have := HSI.out; omega
            obtain ⟨O, hO⟩ : ∃ O, O = rdO L (T.drop f.f0.length) := ⟨_, rfl⟩
            have hdd : S.drop (p + f.f0.length) = T.drop f.f0.length := by rw [HTT.out, List.drop_drop]
            have HC := Aside0.mk (show ∀ w, RdSt w0 w L S (some ad) c0 A1 c1 R M → Calls Try.prog 54 #[.pointer (some ⟨R, 0, none⟩), .int .i64 ((p : Int) + (f.f0.length : Int)), .nilFunc] w fun e w' => e = .returned (.agg #[.int .i64 O.f0, .int .i64 O.f1, .int .i64 O.f2]) ∧ RdSt w0 w' L S (some ad) c0 A1 c1 R M ∧ Kept w w' (fun k => k = M) from fun w h => by
              have h1 := HFL.out.1
              have h2 := HP.out.2
              have := IH.out (p + f.f0.length) w hp' (by omega) h
              rw [hdd, ← hO, Int.natCast_add] at this
              exact this)
            have hX := HXX.out
            rw [if_pos rfl, ← hO] at hX
            have HX2 := Aside0.mk hX
            clear hb hpl hO hdd hX hp'
            go_quiet ((go_at_call 47; ((with_reducible refine (impl_begins.calls kb _ _ T _ _ f.f0 true _ ?side1 ?side2 ?side3 ?side4 HKB.out).mono ?_); (case side1 => repeat (first | exact HRTA.out | (with_reducible refine Kd.C_drewN ?_ _))); (case side2 => exact HCT.out); (case side3 => repeat (first | exact HRFA.out | (with_reducible refine Kd.C_drewN ?_ _))); (case side4 => exact HCF.out); rintro e w' ⟨rfl, ⟨nd, rfl⟩⟩; (first | exact ⟨rfl, _, World.drewN_drewN _ _ _⟩ | exact ⟨rfl, _, Eq.trans (World.drewN_drewN _ _ _) (congrArg (World.drewN _) (Nat.add_assoc _ _ _))⟩))))
            go_upto_region 12 with (first
              | (go_at_call 54; refine (HC.out _ (HRA.out.kept (pw_below_drewN (Below.refl _ _) _))).mono ?_; rintro e wB ⟨rfl, hstB, hkB⟩; have HRB := Aside0.mk hstB; have hkB' : Kept wA wB (fun k => k = M) := hkB; have HKB2 := Aside0.mk hkB'; clear hstB hkB hkB')
              | ((with_reducible refine gate_dst (N := 12) rfl ?_); refine box_event ?hg (N := 12) ?hd (cs := #[.int .i64 0, .int .i64 0, .int .i64 0]) (t := 71) ?hr ?_; (case hd => rfl); (case hg => rfl); (case hr => first | (go_simp; done) | (go_simp; rfl)); intro g12 hg w13 hbox hb; have HK12 := Aside0.mk hbox; have HB13 := Aside0.mk hb; have N12 := Aside0.mk (show wB.heap.size ≤ g12 from (by rw [hg]; exact Nat.le_refl _)); have cz0 : w13.cell? ⟨g12, 0, none⟩ = some (.int .i64 0) := (blk_cell HK12.out 0).trans rfl; have cz1 : w13.cell? ⟨g12, 1, none⟩ = some (.int .i64 0) := (blk_cell HK12.out 1).trans rfl; have cz2 : w13.cell? ⟨g12, 2, none⟩ = some (.int .i64 0) := (blk_cell HK12.out 2).trans rfl; have fz0 := blk_frozen HK12.out 0; have fz1 := blk_frozen HK12.out 1; have fz2 := blk_frozen HK12.out 2; clear hg hbox hb))
            have E12 : Aside0 ((((w13.setCell ⟨g12, 0, none⟩ (.int .i64 O.f0)).setCell ⟨g12, 1, none⟩ (.int .i64 O.f1)).setCell ⟨g12, 2, none⟩ (.int .i64 O.f2)).heap[g12]? = some (.cells #[.int .i64 O.f0, .int .i64 O.f1, .int .i64 O.f2] 71 (0, 0))) := ⟨blk_put (cs := #[.int .i64 O.f0, .int .i64 O.f1, .int .i64 0]) (blk_put (cs := #[.int .i64 O.f0, .int .i64 0, .int .i64 0]) (blk_put (cs := #[.int .i64 0, .int .i64 0, .int .i64 0]) HK12.out 0 _ rfl) 1 _ rfl) 2 _ rfl⟩
            have HBC : Aside0 (Below wB.heap.size wB (((w13.setCell ⟨g12, 0, none⟩ (.int .i64 O.f0)).setCell ⟨g12, 1, none⟩ (.int .i64 O.f1)).setCell ⟨g12, 2, none⟩ (.int .i64 O.f2))) := ⟨below_set (below_set (below_set HB13.out N12.out) N12.out) N12.out⟩
            clear HK12 HB13 cz0 cz1 cz2 fz0 fz1 fz2 a0 a1
            generalize (((w13.setCell ⟨g12, 0, none⟩ (.int .i64 O.f0)).setCell ⟨g12, 1, none⟩ (.int .i64 O.f1)).setCell ⟨g12, 2, none⟩ (.int .i64 O.f2)) = wC at E12 HBC ⊢
            have n9 := HRA.out.ne HGA.out.1
            have n6 := HRA.out.ne HGA.out.2
            have n11 := HRA.out.ne WB.out
            have HGC := Aside0.mk (And.intro (blk_below (blk_kept HGA.out.1 HKB2.out n9) HBC.out) (blk_below (blk_kept HGA.out.2 HKB2.out n6) HBC.out))
            have WBC := Aside0.mk (blk_below (blk_kept WB.out HKB2.out n11) HBC.out)
            have HRC := Aside0.mk (HRB.out.kept HBC.out)
            have HKC := Aside0.mk ((HKA.out.then_ HKB2.out (fun _ h => .inl h)).below HBC.out)
            clear n9 n6 n11
            have k0 : wC.cell? ⟨g12, 0, none⟩ = some (.int .i64 O.f0) := (blk_cell E12.out 0).trans rfl
            have k1 : wC.cell? ⟨g12, 1, none⟩ = some (.int .i64 O.f1) := (blk_cell E12.out 1).trans rfl
            have k2 : wC.cell? ⟨g12, 2, none⟩ = some (.int .i64 O.f2) := (blk_cell E12.out 2).trans rfl
            have k3 : wC.cell? ⟨g9, 0, none⟩ = some (.int .i64 acc.f0) := (blk_cell HGC.out.1 0).trans rfl
            have k4 : wC.cell? ⟨g9, 1, none⟩ = some (.int .i64 acc.f1) := (blk_cell HGC.out.1 1).trans rfl
            have k5 : wC.cell? ⟨g9, 2, none⟩ = some (.int .i64 acc.f2) := (blk_cell HGC.out.1 2).trans rfl
            have k6 : wC.cell? ⟨g11, 0, none⟩ = some (.slice Af f.f0.length cf) := (blk_cell WBC.out 0).trans rfl
            have k7 : wC.cell? ⟨g11, 1, none⟩ = some (.int .i64 f.f1) := (blk_cell WBC.out 1).trans rfl
            by_cases hz : O.f0 = 0
            · have hX := HX2.out
              rw [if_pos hz] at hX
              have NX : Aside0 (L.length - (i + 1) < gk ∧ i + 1 ≤ L.length ∧ rdA (rdO L) T (L.drop (i + 1)) acc = rdO L T) := ⟨by have := HX.out.1; have := HIL.out; omega, HIL.out, hX⟩
              have hzz : (O.f0 == 0) = true := by rw [beq_iff_eq]; exact hz
              clear hX hz
              go_wp2
              go_roundg (L.length - (i + 1))
              case measure => exact NX.out.1
              case rel => exact ⟨i + 1, acc, by simp, ⟨rfl, NX.out.2.1, by rw [← HTT.out]; exact NX.out.2.2⟩, HGC, HRC, HKC⟩
            · have hX := HX2.out
              rw [if_neg hz] at hX
              have NX : Aside0 (L.length - (i + 1) < gk ∧ i + 1 ≤ L.length ∧ rdA (rdO L) T (L.drop (i + 1)) (outW acc f O) = rdO L T) := ⟨by have := HX.out.1; have := HIL.out; omega, HIL.out, hX⟩
              have hzz : (O.f0 == 0) = false := by rw [beq_eq_false_iff_ne]; exact hz
              clear hX hz
              go_wp2_with (go_at_call 77; refine (impl_outcome_with_calls acc f Af f.f0.length cf O _).mono ?_; rintro e wD ⟨rfl, hbD⟩; have HBD := Aside0.mk hbD; have HGD := Aside0.mk (And.intro (blk_below HGC.out.1 hbD) (blk_below HGC.out.2 hbD)); have m0 : wD.cell? ⟨g9, 0, none⟩ = some (.int .i64 acc.f0) := (blk_cell HGD.out.1 0).trans rfl; have m1 : wD.cell? ⟨g9, 1, none⟩ = some (.int .i64 acc.f1) := (blk_cell HGD.out.1 1).trans rfl; have m2 : wD.cell? ⟨g9, 2, none⟩ = some (.int .i64 acc.f2) := (blk_cell HGD.out.1 2).trans rfl; have fm0 := blk_frozen HGD.out.1 0; have fm1 := blk_frozen HGD.out.1 1; have fm2 := blk_frozen HGD.out.1 2; clear hbD)
              go_roundg (L.length - (i + 1))
              case measure => exact NX.out.1
              case rel =>
                have nR : g9 ≠ R := blk_ne HGD.out.1 (HRC.out.kept HBD.out).blk (by decide)
                have nM : g9 ≠ M := (HRC.out.kept HBD.out).ne HGD.out.1
                have nB : w0.heap.size ≤ g9 := Nat.le_trans HST.out.below.size N9.out
                refine ⟨i + 1, outW acc f O, by simp, ⟨rfl, NX.out.2.1, by rw [← HTT.out]; exact NX.out.2.2⟩, ⟨blk_put (cs := #[.int .i64 (outW acc f O).f0, .int .i64 (outW acc f O).f1, .int .i64 acc.f2]) (blk_put (cs := #[.int .i64 (outW acc f O).f0, .int .i64 acc.f1, .int .i64 acc.f2]) (blk_put (cs := #[.int .i64 acc.f0, .int .i64 acc.f1, .int .i64 acc.f2]) HGD.out.1 0 _ rfl) 1 _ rfl) 2 _ rfl, ?_⟩, ⟨(((HRC.out.kept HBD.out).set nB nR nM _ _).set nB nR nM _ _).set nB nR nM _ _⟩, ⟨(((HKC.out.below HBD.out).setCell (.inr N9.out) _).setCell (.inr N9.out) _).setCell (.inr N9.out) _⟩⟩
                exact blk_far (blk_far (blk_far HGD.out.2 NE9.out _) NE9.out _) NE9.out _
        · have d1 : decide ((i : Int) < (L.length : Int)) = false := decide_eq_false hi
          have d1' : decide (i < L.length) = false := decide_eq_false (by omega)
          have hacc : acc = rdO L (S.drop p) := by
            have h1 := HX.out.2.2
            have h2 := HX.out.2.1
            rw [List.drop_eq_nil_of_le (show L.length ≤ i by omega)] at h1
            exact h1
          have HACC := Aside0.mk hacc
          obtain ⟨F2, hF2, hF2'⟩ := HR.out.memo
          obtain ⟨es, ck, hput, hmf⟩ := (MapFn.move (w' := wr.drew) hF2 rfl).put Try.underlying92 Try.underlying3 (p : Int) (outV acc)
          have HRM : Aside0 (RdSt w0 (ChangeMaps.setBlock wr.drew M (.map es ck)) L S A0 c0 A1 c1 R M) := ⟨⟨below_setBlock (below_drew HR.out.below) HMR.out.1, blk_setBlock (w := wr.drew) HR.out.blk HMR.out.2.2, _, hmf, by
            intro k v hk
            by_cases e : k = (p : Int)
            · rw [if_pos e] at hk
              cases hk
              exact ⟨p, e, HP.out.1, by rw [hacc]⟩
            · rw [if_neg e] at hk
              exact hF2' k v hk⟩⟩
          have HKM : Aside0 (Kept w (ChangeMaps.setBlock wr.drew M (.map es ck)) (fun k => k = M)) := ⟨kept_setBlock (w := w) (W := wr.drew) (S := fun k => k = M) HKP.out (.inl rfl)⟩
          have n9 := HR.out.ne HG.out.1
          have n6 := HR.out.ne HG.out.2
          have HGM := Aside0.mk (And.intro (blk_setBlock (w := wr.drew) (o' := .map es ck) HG.out.1 n9) (blk_setBlock (w := wr.drew) (o' := .map es ck) HG.out.2 n6))
          have cR2 : wr.cell? ⟨R, 2, none⟩ = some (.map (some M)) := (blk_cell HR.out.blk 2).trans rfl
          have k3 : wr.cell? ⟨g9, 0, none⟩ = some (.int .i64 acc.f0) := (blk_cell HG.out.1 0).trans rfl
          have k4 : wr.cell? ⟨g9, 1, none⟩ = some (.int .i64 acc.f1) := (blk_cell HG.out.1 1).trans rfl
          have k5 : wr.cell? ⟨g9, 2, none⟩ = some (.int .i64 acc.f2) := (blk_cell HG.out.1 2).trans rfl
          unfold outV at hput
          generalize (ChangeMaps.setBlock wr.drew M (.map es ck)) = wM at HRM HKM HGM hput
          have j3 : wM.cell? ⟨g9, 0, none⟩ = some (.int .i64 acc.f0) := (blk_cell HGM.out.1 0).trans rfl
          have j4 : wM.cell? ⟨g9, 1, none⟩ = some (.int .i64 acc.f1) := (blk_cell HGM.out.1 1).trans rfl
          have j5 : wM.cell? ⟨g9, 2, none⟩ = some (.int .i64 acc.f2) := (blk_cell HGM.out.1 2).trans rfl
          have j0 : wM.cell? ⟨g6, 0, none⟩ = some (.int .i64 0) := (blk_cell HGM.out.2 0).trans rfl
          have j1 : wM.cell? ⟨g6, 1, none⟩ = some (.int .i64 0) := (blk_cell HGM.out.2 1).trans rfl
          have j2 : wM.cell? ⟨g6, 2, none⟩ = some (.int .i64 0) := (blk_cell HGM.out.2 2).trans rfl
          have f0 := blk_frozen HGM.out.2 0
          have f1 := blk_frozen HGM.out.2 1
          have f2 := blk_frozen HGM.out.2 2
          clear hF2 hF2' hmf hacc hi n9 n6
          go_wp2
          go_region
          go_wp2
          refine bodyPost_ret (results_cell_row rfl _ _ g6 71 #[.int .i64 acc.f0, .int .i64 acc.f1, .int .i64 acc.f2] (0, 0) _ rfl (blk_put (cs := #[.int .i64 acc.f0, .int .i64 acc.f1, .int .i64 0]) (blk_put (cs := #[.int .i64 acc.f0, .int .i64 0, .int .i64 0]) (blk_put (cs := #[.int .i64 0, .int .i64 0, .int .i64 0]) HGM.out.2 0 _ rfl) 1 _ rfl) 2 _ rfl) Try.underlying71 rfl (by kernel_rfl)) rfl ?_
          have nR : g6 ≠ R := blk_ne HGM.out.2 HRM.out.blk (by decide)
          have nM : g6 ≠ M := HRM.out.ne HGM.out.2
          have nB : w0.heap.size ≤ g6 := Nat.le_trans HST.out.below.size N6.out
          exact ⟨by rw [← HACC.out]; rfl, ((HRM.out.set nB nR nM _ _).set nB nR nM _ _).set nB nR nM _ _, ((HKM.out.setCell (.inr N6.out) _).setCell (.inr N6.out) _).setCell (.inr N6.out) _⟩

/-! newFormulaReader; FormulasMany; FormulasFew -/
set_option maxHeartbeats 4000000 in
set_option maxRecDepth 100000 in
theorem impl_newReader_calls (L : List S37) (S : List Int) (A0 : Option Addr) (c0 : Nat) (A1 : Option Addr) (c1 : Nat) (w : World) (hr0 : Kd.C k37 w A0 L.length L) (hc0 : L.length ≤ c0) (hr1 : Kd.C (Kd.int .i64) w A1 S.length S) (hc1 : S.length ≤ c1) (hL : ∀ x ∈ L, x.f0.length ≤ 1000000000000) (hS : S.length ≤ 1000000000000) :
    Calls Try.prog 53 #[.slice A0 L.length c0, .slice A1 S.length c1] w fun e w' => (okR L S = false ∧ e = .returned (.tuple #[.pointer none, .bool false]) ∧ Below w.heap.size w w') ∨ (okR L S = true ∧ ∃ R M, e = .returned (.tuple #[.pointer (some ⟨R, 0, none⟩), .bool true]) ∧ RdSt w w' L S A0 c0 A1 c1 R M ∧ w.heap.size ≤ M ∧ w.heap.size ≤ R ∧ R ≠ M) := by
  have HR0 := Aside0.mk hr0
  have HC0 := Aside0.mk hc0
  have HR1 := Aside0.mk hr1
  have HC1 := Aside0.mk hc1
  clear hr0 hc0 hr1 hc1
  have hu3 := Try.underlying94
  obtain ⟨kv, hkv⟩ := Ev.rounds (impl_FormulasValid_ev L hL)
  obtain ⟨ka, hka⟩ := Ev.rounds (impl_allWithin_ev S hS 20 (by omega) (by omega))
  have hok : okR L S = (fsOk L && (decide (S.length ≤ 23) && S.all (inR (-20) 20))) := rfl
  have HKV := Aside0.mk hkv
  have HKA := Aside0.mk hka
  clear hkv hka hL
  cases h1 : fsOk L
  · rw [h1] at hok HKV
    have HOK := Aside0.mk hok
    clear hok h1
    go_enter Try.func53, Try.ntmps53
    go_wp2_with (go_at_call 46; refine (impl_FormulasValid.calls kv _ _ L false _ HR0.out HC0.out HKV.out).mono ?_; rintro e w1 ⟨rfl, hb1⟩; have HB1 := Aside0.mk hb1; clear hb1)
    go_ret2
    exact .inl ⟨by rw [HOK.out]; rfl, rfl, HB1.out⟩
  rw [h1] at hok HKV
  by_cases h2 : S.length ≤ 23
  rotate_left
  · have HOK := Aside0.mk (show okR L S = false by rw [hok, decide_eq_false h2]; rfl)
    have d1 : decide (23 < (S.length : Int)) = true := decide_eq_true (by omega)
    have d2 : decide (23 < S.length) = true := decide_eq_true (by omega)
    clear hok h1 h2
    go_enter Try.func53, Try.ntmps53
    go_wp2_with (go_at_call 46; refine (impl_FormulasValid.calls kv _ _ L true _ HR0.out HC0.out HKV.out).mono ?_; rintro e w1 ⟨rfl, hb1⟩; have HB1 := Aside0.mk hb1; clear hb1)
    go_ret2
    exact .inl ⟨HOK.out, rfl, HB1.out⟩
  rw [decide_eq_true h2] at hok
  have d1 : decide (23 < (S.length : Int)) = false := decide_eq_false (by omega)
  have d2 : decide (23 < S.length) = false := decide_eq_false (by omega)
  cases h3 : S.all (inR (-20) 20)
  · rw [h3] at hok HKA
    have HOK := Aside0.mk hok
    clear hok h1 h2 h3
    go_enter Try.func53, Try.ntmps53
    go_wp2_with (first
      | (go_at_call 46; refine (impl_FormulasValid.calls kv _ _ L true _ HR0.out HC0.out HKV.out).mono ?_; rintro e w1 ⟨rfl, hb1⟩; have HB1 := Aside0.mk hb1; clear hb1)
      | (go_at_call 76; refine (impl_allWithin.calls ka _ _ S 20 false _ (Kd.C_below HR1.out HB1.out) HC1.out HKA.out).mono ?_; rintro e w2 ⟨rfl, hd⟩; have HB2 := Aside0.mk (below_step HB1.out hd.below); clear hd))
    go_ret2
    exact .inl ⟨HOK.out, rfl, HB2.out⟩
  · rw [h3] at hok HKA
    have HOK := Aside0.mk hok
    clear hok h1 h2 h3
    have hmm := @run_makeMap Try.prog
    go_enter Try.func53, Try.ntmps53
    go_wp2_with (first
      | (go_at_call 46; refine (impl_FormulasValid.calls kv _ _ L true _ HR0.out HC0.out HKV.out).mono ?_; rintro e w1 ⟨rfl, hb1⟩; have HB1 := Aside0.mk hb1; clear hb1)
      | (go_at_call 76; refine (impl_allWithin.calls ka _ _ S 20 true _ (Kd.C_below HR1.out HB1.out) HC1.out HKA.out).mono ?_; rintro e w2 ⟨rfl, hd⟩; have HB2 := Aside0.mk (below_step HB1.out hd.below); clear hd))
    go_ret2
    have hB : Below w.heap.size w (w2.alloc (.map #[] 0)) := below_alloc HB2.out _
    have hs : (w2.alloc (.map #[] 0)).heap.size = w2.heap.size + 1 := by simp
    have hm : (w2.alloc (.map #[] 0)).heap[w2.heap.size]? = some (.map #[] 0) := blk_new w2 _
    have hb : ((w2.alloc (.map #[] 0)).alloc (.cells #[.slice A0 L.length c0, .slice A1 S.length c1, .map (some w2.heap.size)] 94 (0, 0))).heap[w2.heap.size + 1]? = some (.cells #[.slice A0 L.length c0, .slice A1 S.length c1, .map (some w2.heap.size)] 94 (0, 0)) := by rw [← hs]; exact blk_new _ _
    refine .inr ⟨HOK.out, w2.heap.size + 1, w2.heap.size, rfl, ⟨below_alloc hB _, hb, fun _ => none, MapFn.made ((below_alloc (Below.refl _ _) _).block _ (by rw [hs]; omega) |>.trans hm), by simp⟩, HB2.out.size, Nat.le_succ_of_le HB2.out.size, by omega⟩

theorem okR_lens {L : List S37} {S : List Int} (h : okR L S = true) : (∀ f ∈ L, 1 ≤ f.f0.length ∧ f.f0.length ≤ 5) ∧ L.length ≤ 8 ∧ S.length ≤ 23 :=
  ⟨fun f hf => fOk_len (fsOk_all (okR_of h).1 f hf), fsOk_len (okR_of h).1, (okR_of h).2⟩
theorem impl_newReader_no {L : List S37} {S : List Int} {A0 : Option Addr} {c0 : Nat} {A1 : Option Addr} {c1 : Nat} {w : World} (hr0 : Kd.C k37 w A0 L.length L) (hc0 : L.length ≤ c0) (hr1 : Kd.C (Kd.int .i64) w A1 S.length S) (hc1 : S.length ≤ c1) (hL : ∀ x ∈ L, x.f0.length ≤ 1000000000000) (hS : S.length ≤ 1000000000000) (h : okR L S = false) :
    Calls Try.prog 53 #[.slice A0 L.length c0, .slice A1 S.length c1] w fun e w' => e = .returned (.tuple #[.pointer none, .bool false]) ∧ Below w.heap.size w w' :=
  (impl_newReader_calls L S A0 c0 A1 c1 w hr0 hc0 hr1 hc1 hL hS).mono (by
    rintro e w' (⟨_, h1, h2⟩ | ⟨h1, _⟩)
    · exact ⟨h1, h2⟩
    · rw [h] at h1; cases h1)
theorem impl_newReader_yes {L : List S37} {S : List Int} {A0 : Option Addr} {c0 : Nat} {A1 : Option Addr} {c1 : Nat} {w : World} (hr0 : Kd.C k37 w A0 L.length L) (hc0 : L.length ≤ c0) (hr1 : Kd.C (Kd.int .i64) w A1 S.length S) (hc1 : S.length ≤ c1) (hL : ∀ x ∈ L, x.f0.length ≤ 1000000000000) (hS : S.length ≤ 1000000000000) (h : okR L S = true) :
    Calls Try.prog 53 #[.slice A0 L.length c0, .slice A1 S.length c1] w fun e w' => ∃ R M, e = .returned (.tuple #[.pointer (some ⟨R, 0, none⟩), .bool true]) ∧ RdSt w w' L S A0 c0 A1 c1 R M ∧ w.heap.size ≤ M ∧ w.heap.size ≤ R ∧ R ≠ M :=
  (impl_newReader_calls L S A0 c0 A1 c1 w hr0 hc0 hr1 hc1 hL hS).mono (by
    rintro e w' (⟨h1, _⟩ | ⟨_, h1⟩)
    · rw [h] at h1; cases h1
    · exact h1)

/-- The blocks that a closure of a reader's may write: neither the reader's, nor an outcome's, nor a formula's box, nor a map. -/
def SCb (w : World) (k : Nat) : Prop := ∃ cs t fr, w.heap[k]? = some (.cells cs t fr) ∧ t ≠ 71 ∧ t ≠ 37 ∧ t ≠ 94
theorem nsc_of {w : World} {k t : Nat} {cs : Array Value} {fr : Nat × Nat} (h : w.heap[k]? = some (.cells cs t fr)) (ht : (t == 71 || (t == 37 || t == 94)) = true) : ¬ SCb w k := by
  rintro ⟨cs', t', fr', h', h1, h2, h3⟩
  rw [h] at h'
  injection h' with h'
  injection h' with _ h' _
  subst h'
  simp only [Bool.or_eq_true, beq_iff_eq] at ht
  rcases ht with rfl | rfl | rfl
  · exact h1 rfl
  · exact h2 rfl
  · exact h3 rfl
theorem RdSt.nsc {w0 w : World} {L : List S37} {S : List Int} {A0 : Option Addr} {c0 : Nat} {A1 : Option Addr} {c1 : Nat} {R M : Nat} (h : RdSt w0 w L S A0 c0 A1 c1 R M) : ¬ SCb w M := by
  rintro ⟨cs, t, fr, h', _⟩
  exact h.ne h' rfl
theorem rdC_len (rec : List Int → OutC) (s : List Int) : ∀ (L : List S37) (i : Int), (rdC rec s i L).length ≤ L.length
  | [], _ => Nat.le_refl _
  | f :: fs, i => by
    have h := rdC_len rec s fs (i + 1)
    simp only [rdC, List.length_cons]
    split
    · split
      · omega
      · rw [List.length_cons]; omega
    · omega
theorem rdCalls_len (L : List S37) (s : List Int) : (rdCalls L s).length ≤ L.length := by
  unfold rdCalls
  split
  · exact Nat.zero_le _
  · exact rdC_len _ _ _ _
theorem hist_len {h r h0 : List (Int × OutC)} {L : List S37} {s : List Int} (e : h ++ r = h0 ++ rdCalls L s) : h.length ≤ h0.length + L.length := by
  have h1 := congrArg List.length e
  have h2 := rdCalls_len L s
  rw [List.length_append, List.length_append] at h1
  omega
theorem RdSt.keptSC {w0 w w' : World} {L : List S37} {S : List Int} {A0 : Option Addr} {c0 : Nat} {A1 : Option Addr} {c1 : Nat} {R M : Nat} (h : RdSt w0 w L S A0 c0 A1 c1 R M) (hb : Below w0.heap.size w0 w') (hk : Kept w w' (SCb w)) : RdSt w0 w' L S A0 c0 A1 c1 R M := by
  obtain ⟨F, hF, hF'⟩ := h.memo
  exact h.far hb (hk.2 R (blk_lt h.blk) (nsc_of h.blk (by decide))) (hk.2 M hF.lt h.nsc)
theorem RdSt.lower {w w0 w' : World} {L : List S37} {S : List Int} {A0 : Option Addr} {c0 : Nat} {A1 : Option Addr} {c1 : Nat} {R M : Nat} (h : RdSt w0 w' L S A0 c0 A1 c1 R M) (hb : Below w.heap.size w w0) : RdSt w w' L S A0 c0 A1 c1 R M :=
  ⟨below_then hb hb.size h.below, h.blk, h.memo⟩

end Go.Proofs.Ytkmganbgnjphfaa.Pure
