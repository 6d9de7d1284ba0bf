/- The function impl_ModeAll: its plain answer, and its contract, out of its own walk. No condition beyond the readings of its arguments. -/
import Derived.Test.YtclpnaaagajhiaaDoorQFnModeLikelyq0
import Derived.Test.YtclpnaaagajhiaaDoorQFnModeLikelyq1
namespace Go.Proofs.YtclpnaaagajhiaaDoor.PFnModeLikely
set_option linter.unusedVariables false
set_option linter.unusedSimpArgs false
open Go Go.RowKit Go.Proofs.YtclpnaaagajhiaaDoor.Pure Go.Proofs.YtclpnaaagajhiaaDoorW.PrintWords Go.Proofs.YtclpnaaagajhiaaDoorW.PrintLast Go.Proofs.YtclpnaaagajhiaaDoorW.PrintMore
/-! STAND-IN OF impl_ModeAll: its place -/
def impl_ModeAll.f (l0 : List S29) : Option (List Int) := if l0.length ≤ 1000000000000 then some (mUp l0 8) else none
theorem impl_ModeAll.calls (A0 : Option Addr) (c0 : Nat) (l0 : List S29) (r : List Int) (w : World) (ht : MTab w) (hr0 : Kd.C k29 w A0 l0.length l0) (hc0 : l0.length ≤ c0) (h : impl_ModeAll.f l0 = some r) :
    Calls Tryd.prog 28 #[.slice A0 l0.length c0] w fun e w' => ∃ v0_ : Value, e = .returned (v0_) ∧ Kd.R (Kd.int .i64) 3 w' w.heap.size (fun _ => True) v0_ r ∧ Below w.heap.size w w' := by
  unfold impl_ModeAll.f at h
  split at h
  · rename_i hh
    injection h with h
    have := impl_ModeAll_calls l0 A0 c0 w ht hr0 hc0 hh
    rw [h] at this
    exact this
  · cases h

end Go.Proofs.YtclpnaaagajhiaaDoor.PFnModeLikely
