/- The function impl_ModeLikely: its plain answer, and its contract, out of its own walk. No condition beyond the readings of its arguments. -/
import Derived.Test.YtclpnaaagajhiaaDoorQFnModeLikelyq0
import Derived.Test.YtclpnaaagajhiaaDoorQFnModeLikelyq1
namespace Go.Proofs.YtclpnaaagajhiaaDoor.PFnModeLikely
set_option linter.unusedVariables false
set_option linter.unusedSimpArgs false
open Go Go.RowKit Go.Proofs.YtclpnaaagajhiaaDoor.Pure Go.Proofs.YtclpnaaagajhiaaDoorW.PrintWords Go.Proofs.YtclpnaaagajhiaaDoorW.PrintLast Go.Proofs.YtclpnaaagajhiaaDoorW.PrintMore
/-! STAND-IN OF impl_ModeLikely: its place -/
def impl_ModeLikely.f (l0 : List S29) : Option (Int × Bool) := if l0.length ≤ 1000000000000 then some (mLikely l0) else none
theorem impl_ModeLikely.calls (A0 : Option Addr) (c0 : Nat) (l0 : List S29) (r1 : Int) (r2 : Bool) (w : World) (ht : MTab w) (hr0 : Kd.C k29 w A0 l0.length l0) (hc0 : l0.length ≤ c0) (h : impl_ModeLikely.f l0 = some (r1, r2)) :
    Calls Tryd.prog 26 #[.slice A0 l0.length c0] w fun e w' => e = .returned (.tuple #[.int .i64 r1, .bool r2]) ∧ Below w.heap.size w w' := by
  unfold impl_ModeLikely.f at h
  split at h
  · rename_i hh
    injection h with h
    have := impl_ModeLikely_calls l0 A0 c0 w ht hr0 hc0 hh
    rw [h] at this
    exact this
  · cases h

end Go.Proofs.YtclpnaaagajhiaaDoor.PFnModeLikely
