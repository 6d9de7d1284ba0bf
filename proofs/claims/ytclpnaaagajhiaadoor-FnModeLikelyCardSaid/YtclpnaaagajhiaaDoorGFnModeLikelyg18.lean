/- The function impl_ModeTenor: its plain answer, and its contract, out of its own walk. No condition beyond the readings of its arguments. -/
import Derived.Test.YtclpnaaagajhiaaDoorQFnModeLikelyq0
import Derived.Test.YtclpnaaagajhiaaDoorQFnModeLikelyq1
namespace Go.Proofs.YtclpnaaagajhiaaDoor.PFnModeLikely
set_option linter.unusedVariables false
set_option linter.unusedSimpArgs false
open Go Go.RowKit Go.Proofs.YtclpnaaagajhiaaDoor.Pure Go.Proofs.YtclpnaaagajhiaaDoorW.PrintWords Go.Proofs.YtclpnaaagajhiaaDoorW.PrintLast Go.Proofs.YtclpnaaagajhiaaDoorW.PrintMore
/-! STAND-IN OF impl_ModeTenor: its place -/
def impl_ModeTenor.f (a0 : Int) : Option (Int) := some (mTen a0)
theorem impl_ModeTenor.calls (a0 : Int) (r : Int) (w : World) (ht : MTab w) (h : impl_ModeTenor.f a0 = some r) :
    Calls Tryd.prog 77 #[.int .i64 a0] w fun e w' => e = .returned (.int .i64 r) ∧ Below w.heap.size w w' := by
  cases h
  exact impl_ModeTenor_calls a0 w ht

end Go.Proofs.YtclpnaaagajhiaaDoor.PFnModeLikely
