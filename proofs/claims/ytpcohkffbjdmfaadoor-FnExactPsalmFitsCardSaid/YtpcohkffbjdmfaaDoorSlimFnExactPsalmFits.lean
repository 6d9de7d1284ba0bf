/- The law FnExactPsalmFits: for every input it answers true and leaves its arguments as they were. No condition beyond the row. -/
import Derived.Test.YtpcohkffbjdmfaaDoorSFnExactPsalmFitss2
import Derived.Test.YtpcohkffbjdmfaaDoorRows
import Derived.Test.YtpcohkffbjdmfaaDoorCards
import Derived.Test.YtpcohkffbjdmfaaDoorTie
import Derived.SevenTiedAt
import Derived.Lay
import Derived.ChangeVars
import Derived.LaidMore
import Derived.Stop.Joined
import Derived.WalkSmall
import Derived.Handed
import Derived.WalkKit
import Derived.ProofKit
import Derived.OpenShut
import Derived.ShutString
import Derived.ChangeOld
import Derived.Below
import Derived.SizedLaws
namespace Go.Proofs.YtpcohkffbjdmfaaDoor.fnExactPsalmFits
open Go.ChangeShapes Go.WideShapes Go.ChangeAt Go.RowKit Go.Proofs.YtpcohkffbjdmfaaDoorW.PrintWords Go.Proofs.YtpcohkffbjdmfaaDoor.PFnExactPsalmFits Go.Proofs.YtpcohkffbjdmfaaDoor.Pure
open Go.ChangeMaps (open_string shut_string)
set_option linter.unusedVariables false
theorem own : ownKnob Tryd.prog.godebug = none := by kernel_rfl
theorem laidOut : laidOutB Tryd.prog = true := by kernel_rfl
theorem door_met (os : Os) (args : Array Value) : laidMetH Tryd.prog [("unicode/utf8.acceptRanges", Rows.laid_unicode_utf8_acceptRanges), ("unicode/utf8.first", Rows.laid_unicode_utf8_first)] ((World.laidAll Tryd.prog os [("unicode/utf8.acceptRanges", Rows.laid_unicode_utf8_acceptRanges), ("unicode/utf8.first", Rows.laid_unicode_utf8_first)]).forCall (fun _ _ => 0) ⟨#[], args, []⟩).memory :=
  by rw [MakeChecks.laidMetH_plain _ _ _ (by kernel_rfl)]; exact laidMet_laidAll _ (by kernel_rfl) (by kernel_rfl)
set_option maxRecDepth 100000 in
theorem lifted (os : Os) (started : os.Started) (H : Type) (enc : TypeId × Value → H) :
    ReturnsInHanded {} Tryd.checked os 4 .any (fun w args => (Rows.fnExactPsalmFitsSpec.pre enc Tryd.prog Tryd.f4 [] false w args ∧ laidMetH Tryd.prog [("unicode/utf8.acceptRanges", Rows.laid_unicode_utf8_acceptRanges), ("unicode/utf8.first", Rows.laid_unicode_utf8_first)] w) ∧ sizedMet enc Tryd.prog Tryd.f4 (OpenSpec.ofChange Rows.fnExactPsalmFitsSpec) false w args) (Rows.fnExactPsalmFitsSpec.post enc Tryd.prog Tryd.f4 false true false false) := by
  refine returnsInHanded_of_change_and (C := Tryd.checked) (X := fun w _ => laidMetH Tryd.prog [("unicode/utf8.acceptRanges", Rows.laid_unicode_utf8_acceptRanges), ("unicode/utf8.first", Rows.laid_unicode_utf8_first)] w) (fun _ _ _ hh h => h.of_heap hh) own started (by kernel_rfl) Tryd.func4
    (ChangeSpec.witness_shaped (enc := enc) (C := Tryd.checked) (os := os) (X := fun w _ => laidMetH Tryd.prog [("unicode/utf8.acceptRanges", Rows.laid_unicode_utf8_acceptRanges), ("unicode/utf8.first", Rows.laid_unicode_utf8_first)] w) false (World.laidAll Tryd.prog os [("unicode/utf8.acceptRanges", Rows.laid_unicode_utf8_acceptRanges), ("unicode/utf8.first", Rows.laid_unicode_utf8_first)]) #[.agg #[.slice none 0 0, .int .i64 0, .bool false, .slice none 0 0, .slice none 0 0], .string ByteArray.empty] 8 rfl (World.shaped_of_RefB (by kernel_rfl) (by kernel_rfl)) (by kernel_rfl) (by kernel_rfl) (by kernel_rfl) (door_met os _)) ?_
  intro W base args ds gs before hval0 hW hcnd hsz0 hL _
  have hval : ∀ (j : Nat) t v, Tryd.f4.params[j]? = some t → args[j]? = some v → Value.okWide Tryd.prog W .any base t v := hval0
  have hW' := hW
  obtain ⟨p, q, hA0, hV, rfl, hfz, hnd⟩ := hW
  have hA : DataW.TrodAll enc Tryd.prog W 0 (fun _ => true) true Tryd.f4.params.toList args.toList ds p := hA0
  rw [Tryd.params4] at hA hval
  obtain ⟨v0, vs0, d0, ds0, p0, q0, hargs, rfl, rfl, h0, r0⟩ := trodAll_cons hA
  obtain ⟨v1, vs1, d1, ds1, p1, q1, rfl, rfl, rfl, h1, r1⟩ := trodAll_cons r0
  obtain ⟨rfl, rfl, rfl⟩ := trodAll_nil r1
  obtain rfl : args = #[v0, v1] := by cases args; simp_all
  obtain ⟨rfl, rfl⟩ := trodVars_none hV
  obtain ⟨cs0, rfl, _⟩ := okWide_struct Tryd.underlying26 (hval 0 26 v0 rfl rfl)
  have k0 := h0
  have lt0 : ∀ x ∈ p0, x.block < W.heap.size := by obtain ⟨m, hm⟩ := k0; exact DataW.trod_lt m _ _ _ hm
  obtain ⟨S0, t0, M0, E0, A0, c0, B0, b0, C0, f0, rfl, w0, hcs0, hrs0, hcm0, hrm0, hce0, hre0⟩ := opn_aggPsalm (opn_struct4 Tryd.underlying26 (opn_slice Tryd.underlying22 (by kernel_rfl) (opn_iso (opn_struct2 Tryd.underlying24 (opn_int .i64 Tryd.underlying3 (by kernel_rfl)) (opn_bool Tryd.underlying4 (by kernel_rfl)) rfl rfl (by kernel_rfl)) (fun x : S24 => (x.f0, x.f1)) (fun p => ⟨p.1, p.2⟩) (fun _ => rfl))) (opn_iso (opn_struct2 Tryd.underlying24 (opn_int .i64 Tryd.underlying3 (by kernel_rfl)) (opn_bool Tryd.underlying4 (by kernel_rfl)) rfl rfl (by kernel_rfl)) (fun x : S24 => (x.f0, x.f1)) (fun p => ⟨p.1, p.2⟩) (fun _ => rfl)) (opn_slice Tryd.underlying22 (by kernel_rfl) (opn_iso (opn_struct2 Tryd.underlying24 (opn_int .i64 Tryd.underlying3 (by kernel_rfl)) (opn_bool Tryd.underlying4 (by kernel_rfl)) rfl rfl (by kernel_rfl)) (fun x : S24 => (x.f0, x.f1)) (fun p => ⟨p.1, p.2⟩) (fun _ => rfl))) (opn_slice Tryd.underlying22 (by kernel_rfl) (opn_iso (opn_struct2 Tryd.underlying24 (opn_int .i64 Tryd.underlying3 (by kernel_rfl)) (opn_bool Tryd.underlying4 (by kernel_rfl)) rfl rfl (by kernel_rfl)) (fun x : S24 => (x.f0, x.f1)) (fun p => ⟨p.1, p.2⟩) (fun _ => rfl))) rfl rfl rfl rfl (by kernel_rfl)) h0
  obtain ⟨a1, rfl, rfl, rfl, y1⟩ := open_string Tryd.underlying9 (hval 1 9 v1 rfl rfl) h1
  clear hA0 hval0 hsz0
  refine (Pure.FnExactPsalmFits_walk S0 t0.f0 t0.f1 M0 E0 a1 A0 c0 B0 b0 C0 f0 W hrs0 hcs0 w0.1.2 hrm0 hcm0 w0.2.2.1.2 hre0 hce0 w0.2.2.2.2 y1).mono fun e W' ⟨he, bel⟩ => ?_
  subst he
  exact ⟨_, rfl, _, _, _, [], _, [], hW', trodAll_mk1 (shut_bool Tryd.underlying4 _), (trodAll_cons_mk (Below.trod laidOut (by kernel_rfl) (of_decide_eq_true (by kernel_rfl)) k0 bel lt0) (trodAll_cons_mk (shut_string Tryd.underlying9 y1) trodAll_mk0)), rfl, bel.frame _, fun h => by cases h⟩
theorem over : Rows.fnExactPsalmFitsRow.holds Tryd.pinned (OpenSpec.ofChange Rows.fnExactPsalmFitsSpec) :=
  OpenClaim.holds_of_wide 4 Tryd.f4 rfl rfl rfl rfl rfl rfl rfl ⟨rfl, rfl, rfl, rfl, rfl⟩ rfl rfl rfl rfl rfl (by kernel_rfl) Tryd.func4 (by kernel_rfl)
    (of_decide_eq_true (by kernel_rfl)) (by unfold Func.isWrapper; first | (rw [if_pos (by decide +kernel)]; kernel_rfl) | (rw [if_neg (by decide +kernel)]; exact ⟨rfl, rfl⟩))
    (fun os started H enc _ => lifted os started H enc)
theorem proved : Rows.FnExactPsalmFitsSaid := over
end Go.Proofs.YtpcohkffbjdmfaaDoor.fnExactPsalmFits
namespace Go.Proofs.YtpcohkffbjdmfaaDoor
/-- The law's row. -/
theorem fnExactPsalmFits_holds : Rows.FnExactPsalmFitsSaid := fnExactPsalmFits.proved
end Go.Proofs.YtpcohkffbjdmfaaDoor
#print axioms Go.Proofs.YtpcohkffbjdmfaaDoor.fnExactPsalmFits_holds
namespace Go.Proofs.YtpcohkffbjdmfaaDoor
open Go
theorem fnExactPsalmFits_card_holds : Rows.FnExactPsalmFitsCardSaid :=
  Claim7.holds_tied_plain_at .later [] [.data, .pinned] true (true, "1077fa578ec6498e3aeb515cb46c201c7dca4cd6de0357f248a6c7c043781993") false
    fnExactPsalmFits_holds (fun _ h => by cases h) (by kernel_rfl) (fun _ h => by cases h) fnExactPsalmFits_row_tie rfl ⟨rfl, rfl⟩ (by kernel_rfl) rfl
    (fun f fn hf hfn => by
      obtain rfl : f = 4 := Option.some.inj ((show Tryd.prog.funcNamed "loop.example/neumes/laws.FnExactPsalmFits" = some 4 by kernel_rfl).symm.trans hf) |>.symm
      obtain rfl : fn = Tryd.f4 := (Option.some.inj (Tryd.func4.symm.trans hfn)).symm
      exact ⟨by kernel_rfl, fun j t ht => by
        rw [Tryd.params4] at ht
        have hm : t ∈ [26, 9] := by simpa using Array.mem_of_getElem? ht
        have hall : ([26, 9].all fun u => !Tryd.prog.wantsStandIn u) = true := by kernel_rfl
        exact (show Tryd.prog.wantsStandIn t = false by simpa using List.all_eq_true.1 hall t hm)⟩)
    (by kernel_rfl)
end Go.Proofs.YtpcohkffbjdmfaaDoor
#print axioms Go.Proofs.YtpcohkffbjdmfaaDoor.fnExactPsalmFits_card_holds
