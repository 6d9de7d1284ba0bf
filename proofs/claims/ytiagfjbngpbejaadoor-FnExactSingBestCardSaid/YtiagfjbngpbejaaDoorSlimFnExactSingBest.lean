/- The law FnExactSingBest: for every input it answers true and leaves its arguments as they were. No condition beyond the row. -/
import Derived.Test.YtiagfjbngpbejaaDoorSFnExactSingBests4
import Derived.Test.YtiagfjbngpbejaaDoorRows
import Derived.Test.YtiagfjbngpbejaaDoorCards
import Derived.Test.YtiagfjbngpbejaaDoorTie
import Derived.SevenTiedAt
import Derived.ChangeVars
import Derived.LaidMore
import Derived.Stop.Joined
import Derived.WalkSmall
import Derived.Handed
import Derived.WalkKit
import Derived.ProofKit
import Derived.OpenShut
import Derived.ShutString
import Derived.ChangeOld
import Derived.Below
import Derived.SizedLaws
namespace Go.Proofs.YtiagfjbngpbejaaDoor.fnExactSingBest
open Go.ChangeShapes Go.WideShapes Go.ChangeAt Go.RowKit Go.Proofs.YtiagfjbngpbejaaDoorW.PrintWords Go.Proofs.YtiagfjbngpbejaaDoor.PFnExactSingBest Go.Proofs.YtiagfjbngpbejaaDoor.Pure
open Go.ChangeMaps (open_string shut_string)
set_option linter.unusedVariables false
theorem own : ownKnob Tryd.prog.godebug = none := by kernel_rfl
theorem laidOut : laidOutB Tryd.prog = true := by kernel_rfl
/-! flat data: what is read tells the cells -/
mutual
def dcells {H : Type} : DataW H → List Value
  | .lit (.int k n) => [.int k n]
  | .lit (.bool b) => [.bool b]
  | .lit (.string s) => [.string ⟨s.toArray⟩]
  | .agg ps => dcellsAll ps
  | _ => []
def dcellsAll {H : Type} : List (DataW H) → List Value
  | [] => []
  | d :: ds => dcells d ++ dcellsAll ds
end
def Flt (P : Program) (t : TypeId) : Prop := ∀ {H : Type} (enc : TypeId × Value → H) (w : World) (base : Nat) (sp : Nat → Bool) (held : Bool) (fuel : Nat) (cs : List Value) (x : DataW H × List MemPlace), DataW.trod enc P w base sp held fuel t cs = some x → cs = dcells x.1
theorem flt_int {P : Program} {t : TypeId} (k : IntKind) (ht : P.underlying t = some (.int k)) : Flt P t := fun enc w base sp held fuel cs x h => by
  obtain ⟨n, rfl, rfl, _⟩ := DataW.trod_int ht h
  rfl
theorem flt_string {P : Program} {t : TypeId} (ht : P.underlying t = some .string) : Flt P t := fun enc w base sp held fuel cs x h => by
  obtain ⟨s, rfl, rfl, _⟩ := DataW.trod_string ht h
  simp [dcells]
theorem dcells_chunks {H : Type} (sz : Nat) : ∀ (xs : List (DataW H × List MemPlace)) (cs : List Value), cs.length = xs.length * sz → (∀ i x, xs[i]? = some x → (cs.drop (i * sz)).take sz = dcells x.1) → cs = dcellsAll (xs.map (·.1))
  | [], cs, hl, _ => by simpa [dcellsAll] using hl
  | x :: xs, cs, hl, h => by
    have h0 := h 0 x rfl
    simp only [Nat.zero_mul, List.drop_zero] at h0
    have ih := dcells_chunks sz xs (cs.drop sz) (by rw [List.length_drop, hl, List.length_cons, Nat.succ_mul]; omega) (fun i y hy => by
      have := h (i + 1) y (by simpa using hy)
      rw [List.drop_drop, ← this, Nat.succ_mul, Nat.add_comm])
    simp only [List.map_cons, dcellsAll]
    rw [← h0, ← ih, List.take_append_drop]
theorem flt_array {P : Program} {t e : TypeId} {n : Nat} (ht : P.underlying t = some (.array n e)) (he : Flt P e) (hc : P.cellsOf t = n * P.cellsOf e) : Flt P t := fun enc w base sp held fuel cs x h => by
  obtain ⟨xs, m, rfl, rfl, hl, hxl, hel⟩ := DataW.trod_array ht h
  simp only [dcells]
  refine dcells_chunks (P.cellsOf e) xs cs (by rw [hl, hc, hxl]) (fun i y hy => ?_)
  have hi : i < n := by rw [← hxl]; exact (List.getElem?_eq_some_iff.1 hy).1
  exact he enc w base sp held m _ y ((hel i hi).trans hy)
theorem flt_struct {P : Program} {t : TypeId} {fs : Array Field} (ht : P.underlying t = some (.struct fs)) (hf : ∀ (i : Nat) (f : Field), fs[i]? = some f → f.offset = i ∧ P.cellsOf f.type = 1 ∧ Flt P f.type) (hc : P.cellsOf t = fs.size) : Flt P t := fun enc w base sp held fuel cs x h => by
  obtain ⟨xs, m, rfl, rfl, hl, hxl, hel⟩ := DataW.trod_struct ht h
  simp only [dcells]
  refine dcells_chunks 1 xs cs (by rw [hl, hc, hxl, Nat.mul_one]) (fun i y hy => ?_)
  have hi : i < fs.size := by rw [← hxl]; exact (List.getElem?_eq_some_iff.1 hy).1
  obtain ⟨f0, f1, f2⟩ := hf i fs[i] (Array.getElem?_eq_getElem hi)
  have := hel i fs[i] (Array.getElem?_eq_getElem hi)
  rw [f0, f1] at this
  rw [Nat.mul_one]
  exact f2 enc w base sp held m _ y (this.trans hy)

theorem gTab : Tryd.prog.globalNamed "loop.example/neumes/impl.letterNames" = some 0 := by kernel_rfl
theorem tTab : (Tryd.prog.globals[0]?).map (·.type) = some 85 := by kernel_rfl
theorem fltTab : Flt Tryd.prog 85 := flt_array Tryd.underlying85 (flt_string Tryd.underlying9) (by kernel_rfl)
theorem of_laid {W : World} (h : laidMetH Tryd.prog [("loop.example/neumes/impl.letterNames", Rows.laid_loop_example_neumes_impl_letterNames)] W) : W.var? Tryd.prog "loop.example/neumes/impl.letterNames" = some nCells := by
  rw [MakeChecks.laidMetH_plain _ _ _ (by kernel_rfl)] at h
  obtain ⟨ps, ⟨g0, t0, cs0, f0, p0, q0, hg0, ht0, hv0, hd0, _, _⟩, _, _⟩ := h
  obtain rfl := Option.some.inj (gTab.symm.trans hg0)
  obtain rfl := Option.some.inj (tTab.symm.trans ht0)
  rw [hv0]
  have := fltTab _ _ _ _ _ _ _ _ hd0
  exact congrArg some (Array.ext' this)
theorem tab_of {W : World} (h : W.var? Tryd.prog "loop.example/neumes/impl.letterNames" = some nCells) : NTab W := by
  simp only [World.var?, gTab, Option.bind_some] at h
  split at h
  · rename_i cs t fz he
    injection h with h
    subst h
    exact ⟨_, _, he⟩
  · cases h
theorem reads_table {H : Type} (enc : TypeId × Value → H) (W : World) (sp : Nat → Bool) : DataW.trod enc Tryd.prog W 0 sp true 2 85 nCells.toList = some (Rows.laid_loop_example_neumes_impl_letterNames, []) := by kernel_rfl
theorem door_met (os : Os) (args : Array Value) : laidMetH Tryd.prog [("loop.example/neumes/impl.letterNames", Rows.laid_loop_example_neumes_impl_letterNames)] ((World.doorLaid Tryd.prog 400 os).forCall (fun _ _ => 0) ⟨#[], args, []⟩).memory :=
  laidMetH_of_parts3 (fuel := 8) (laidMet_of_run' 8 (by kernel_rfl) (by kernel_rfl)) (by kernel_rfl) (by kernel_rfl)
set_option maxRecDepth 100000 in
theorem lifted (os : Os) (started : os.Started) (H : Type) (enc : TypeId × Value → H) :
    ReturnsInHanded {} Tryd.checked os 4 .any (fun w args => (Rows.fnExactSingBestSpec.pre enc Tryd.prog Tryd.f4 [] false w args ∧ laidMetH Tryd.prog [("loop.example/neumes/impl.letterNames", Rows.laid_loop_example_neumes_impl_letterNames)] w) ∧ sizedMet enc Tryd.prog Tryd.f4 (OpenSpec.ofChange Rows.fnExactSingBestSpec) false w args) (Rows.fnExactSingBestSpec.post enc Tryd.prog Tryd.f4 false true false false) := by
  refine returnsInHanded_of_change_and (C := Tryd.checked) (X := fun w _ => laidMetH Tryd.prog [("loop.example/neumes/impl.letterNames", Rows.laid_loop_example_neumes_impl_letterNames)] w) (fun _ _ _ hh h => h.of_heap hh) own started (by kernel_rfl) Tryd.func4
    (ChangeSpec.witness_shaped (enc := enc) (C := Tryd.checked) (os := os) (X := fun w _ => laidMetH Tryd.prog [("loop.example/neumes/impl.letterNames", Rows.laid_loop_example_neumes_impl_letterNames)] w) false (World.doorLaid Tryd.prog 400 os) #[.slice none 0 0] 8 rfl (World.shaped_of_RefB (by kernel_rfl) (by kernel_rfl)) (by kernel_rfl) (by kernel_rfl) (by kernel_rfl) (door_met os _)) ?_
  intro W base args ds gs before hval0 hW hcnd hsz0 hL _
  have hval : ∀ (j : Nat) t v, Tryd.f4.params[j]? = some t → args[j]? = some v → Value.okWide Tryd.prog W .any base t v := hval0
  have hW' := hW
  obtain ⟨p, q, hA0, hV, rfl, hfz, hnd⟩ := hW
  have hA : DataW.TrodAll enc Tryd.prog W 0 (fun _ => true) true Tryd.f4.params.toList args.toList ds p := hA0
  rw [Tryd.params4] at hA hval
  obtain ⟨v0, vs0, d0, ds0, p0, q0, hargs, rfl, rfl, h0, r0⟩ := trodAll_cons hA
  obtain ⟨rfl, rfl, rfl⟩ := trodAll_nil r0
  obtain rfl : args = #[v0] := by cases args; simp_all
  obtain ⟨g, t, cs, fuel, d, p'', rfl, hg, htt, hvar, hd, rfl⟩ := trodVars_one hV
  obtain rfl := Option.some.inj (gTab.symm.trans hg)
  obtain rfl := Option.some.inj (tTab.symm.trans htt)
  obtain rfl : cs = nCells := Option.some.inj (hvar.symm.trans (of_laid hL))
  obtain ⟨rfl, rfl⟩ := DataW.Trod.unique (v := .agg nCells) ⟨fuel, hd⟩ ⟨2, reads_table enc W _⟩
  have htab : NTab W := tab_of hvar
  obtain ⟨a0, len0, cap0, rfl⟩ := okWide_slice Tryd.underlying33 (hval 0 33 v0 rfl rfl)
  have k0 := h0
  have lt0 : ∀ x ∈ p0, x.block < W.heap.size := by obtain ⟨m, hm⟩ := k0; exact DataW.trod_lt m _ _ _ hm
  obtain ⟨l0, rfl, hc0, hr0, hw0, hm0⟩ := opn_arg (opn_slice Tryd.underlying33 (by kernel_rfl) (opn_iso (opn_struct2 Tryd.underlying64 (opn_int .i64 Tryd.underlying3 (by kernel_rfl)) (opn_bool Tryd.underlying4 (by kernel_rfl)) rfl rfl (by kernel_rfl)) (fun x : S64 => (x.f0, x.f1)) (fun p => ⟨p.1, p.2⟩) (fun _ => rfl))) h0
  clear hA0 hval0 hsz0
  refine (Pure.FnExactSingBest_walk l0 a0 cap0 W htab hr0 hc0 hm0).mono fun e W' ⟨he, bel⟩ => ?_
  subst he
  exact ⟨_, rfl, _, _, _, [], _, _, hW', trodAll_mk1 (shut_bool Tryd.underlying4 _), (trodAll_cons_mk (Below.trod laidOut (by kernel_rfl) (of_decide_eq_true (by kernel_rfl)) k0 bel lt0) trodAll_mk0), (trodVars_mk1 gTab tTab (var?_below bel gTab (by obtain ⟨_, _, h⟩ := htab; exact blk_lt h) hvar) (reads_table enc W' _)), bel.frame _, fun h => by cases h⟩
theorem over : Rows.fnExactSingBestRow.holds Tryd.pinned (OpenSpec.ofChange Rows.fnExactSingBestSpec) :=
  OpenClaim.holds_of_wide 4 Tryd.f4 rfl rfl rfl rfl rfl rfl rfl ⟨rfl, rfl, rfl, rfl, rfl⟩ rfl rfl rfl rfl rfl (by kernel_rfl) Tryd.func4 (by kernel_rfl)
    (of_decide_eq_true (by kernel_rfl)) (by unfold Func.isWrapper; first | (rw [if_pos (by decide +kernel)]; kernel_rfl) | (rw [if_neg (by decide +kernel)]; exact ⟨rfl, rfl⟩))
    (fun os started H enc _ => lifted os started H enc)
theorem proved : Rows.FnExactSingBestSaid := over
end Go.Proofs.YtiagfjbngpbejaaDoor.fnExactSingBest
namespace Go.Proofs.YtiagfjbngpbejaaDoor
/-- The law's row. -/
theorem fnExactSingBest_holds : Rows.FnExactSingBestSaid := fnExactSingBest.proved
end Go.Proofs.YtiagfjbngpbejaaDoor
#print axioms Go.Proofs.YtiagfjbngpbejaaDoor.fnExactSingBest_holds
namespace Go.Proofs.YtiagfjbngpbejaaDoor
open Go
theorem fnExactSingBest_card_holds : Rows.FnExactSingBestCardSaid :=
  Claim7.holds_tied_plain_at .later [] [.data] true (true, "e1f52e84ba72f41f87fd8ade7efc22ca322193bfccba2235198a9b435069f67b") false
    fnExactSingBest_holds (fun _ h => by cases h) (by kernel_rfl) (fun _ h => by cases h) fnExactSingBest_row_tie rfl ⟨rfl, rfl⟩ (by kernel_rfl) rfl
    (fun f fn hf hfn => by
      obtain rfl : f = 4 := Option.some.inj ((show Tryd.prog.funcNamed "loop.example/neumes/laws.FnExactSingBest" = some 4 by kernel_rfl).symm.trans hf) |>.symm
      obtain rfl : fn = Tryd.f4 := (Option.some.inj (Tryd.func4.symm.trans hfn)).symm
      exact ⟨by kernel_rfl, fun j t ht => by
        rw [Tryd.params4] at ht
        have hm : t ∈ [33] := by simpa using Array.mem_of_getElem? ht
        have hall : ([33].all fun u => !Tryd.prog.wantsStandIn u) = true := by kernel_rfl
        exact (show Tryd.prog.wantsStandIn t = false by simpa using List.all_eq_true.1 hall t hm)⟩)
    (by kernel_rfl)
end Go.Proofs.YtiagfjbngpbejaaDoor
#print axioms Go.Proofs.YtiagfjbngpbejaaDoor.fnExactSingBest_card_holds
