/- Functions that the law FnMelodySame reaches: written by a program of this claim (the kit's print over stand-ins for some functions). -/
import Derived.Test.YtclpnaaagajhiaaDoorGFnMelodySameg0
namespace Go.Proofs.YtclpnaaagajhiaaDoor.PFnMelodySame
open Go.RowKit Go.Proofs.YtclpnaaagajhiaaDoorW.PrintWords Go.Proofs.YtclpnaaagajhiaaDoorW.PrintLast Go.Proofs.YtclpnaaagajhiaaDoorW.PrintMore
attribute [local go_sem] max2_int min2_int max_two min_two max_three min_three max_four min_four   -- for this text's walks alone
set_option linter.unusedVariables false
set_option linter.unusedSimpArgs false

/-! ### spec_l1Letter: function 98 -/
def spec_l1Letter.f (a0 : Int) : Option (Int) := some (Int.tmod a0 7)
set_option maxHeartbeats 8000000 in
set_option maxRecDepth 100000 in
theorem spec_l1Letter.calls (a0 : Int) (r : Int) (w : World) (h : spec_l1Letter.f a0 = some r) :
    Calls Tryd.prog 98 #[.int .i64 a0] w fun e w' => e = .returned (.int .i64 r) ∧ Drawn0 w w' := by
  have H : (some (Int.tmod a0 7)) = some r := h
  clear h
  obtain rfl := Option.some.inj H
  go_enter Tryd.func98, Tryd.ntmps98
  go_wp2
  go_ret
  exact ⟨by first | rfl | (simp; done) | (simp [*]; done), by repeat (first | exact Drawn0.refl _ | apply Drawn0.step)⟩

end Go.Proofs.YtclpnaaagajhiaaDoor.PFnMelodySame
