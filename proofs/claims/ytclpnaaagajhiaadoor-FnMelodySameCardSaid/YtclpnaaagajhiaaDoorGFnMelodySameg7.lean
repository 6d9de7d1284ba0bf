/- The function impl_MelodyMove: its plain answer, and its contract, out of its own walk. No condition beyond the readings of its arguments. -/
import Derived.Test.YtclpnaaagajhiaaDoorQFnMelodySameq0
import Derived.Test.YtclpnaaagajhiaaDoorQFnMelodySameq1
import Derived.Test.YtclpnaaagajhiaaDoorQFnMelodySameq2
import Derived.Test.YtclpnaaagajhiaaDoorQFnMelodySameq3
namespace Go.Proofs.YtclpnaaagajhiaaDoor.PFnMelodySame
set_option linter.unusedVariables false
set_option linter.unusedSimpArgs false
open Go Go.RowKit Go.Proofs.YtclpnaaagajhiaaDoor.Pure Go.Proofs.YtclpnaaagajhiaaDoorW.PrintWords Go.Proofs.YtclpnaaagajhiaaDoorW.PrintLast Go.Proofs.YtclpnaaagajhiaaDoorW.PrintMore
/-! STAND-IN OF impl_MelodyMove: its place -/
def impl_MelodyMove.f (l0 : List S29) (a1 : Int) : Option (List S29 × Bool) := if l0.length ≤ 1000000000000 then some (mmove l0 a1) else none
theorem impl_MelodyMove.calls (A0 : Option Addr) (c0 : Nat) (l0 : List S29) (a1 : Int) (r1 : List S29) (r2 : Bool) (w : World) (ht : HTab w) (hr0 : Kd.C k29 w A0 l0.length l0) (hc0 : l0.length ≤ c0) (h : impl_MelodyMove.f l0 a1 = some (r1, r2)) :
    Calls Tryd.prog 21 #[.slice A0 l0.length c0, .int .i64 a1] w fun e w' => ∃ v0_ : Value, e = .returned (.tuple #[v0_, .bool r2]) ∧ Kd.R k29 29 w' w.heap.size (fun _ => True) v0_ r1 ∧ Below w.heap.size w w' := by
  unfold impl_MelodyMove.f at h
  split at h
  · rename_i hh
    injection h with h
    have := impl_MelodyMove_calls l0 a1 A0 c0 w ht hr0 hc0 hh
    rw [h] at this
    exact this
  · cases h

end Go.Proofs.YtclpnaaagajhiaaDoor.PFnMelodySame
