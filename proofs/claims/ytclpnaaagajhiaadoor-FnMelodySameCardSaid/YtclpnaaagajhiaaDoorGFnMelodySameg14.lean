/- The function impl_MelodySame: its plain answer, and its contract, out of its own walk. No condition beyond the readings of its arguments. -/
import Derived.Test.YtclpnaaagajhiaaDoorQFnMelodySameq0
import Derived.Test.YtclpnaaagajhiaaDoorQFnMelodySameq1
import Derived.Test.YtclpnaaagajhiaaDoorQFnMelodySameq2
import Derived.Test.YtclpnaaagajhiaaDoorQFnMelodySameq3
namespace Go.Proofs.YtclpnaaagajhiaaDoor.PFnMelodySame
set_option linter.unusedVariables false
set_option linter.unusedSimpArgs false
open Go Go.RowKit Go.Proofs.YtclpnaaagajhiaaDoor.Pure Go.Proofs.YtclpnaaagajhiaaDoorW.PrintWords Go.Proofs.YtclpnaaagajhiaaDoorW.PrintLast Go.Proofs.YtclpnaaagajhiaaDoorW.PrintMore
/-! STAND-IN OF impl_MelodySame: its place -/
def impl_MelodySame.f (l0 : List S29) (l1 : List S29) : Option Bool := if l0.length ≤ 1000000000000 ∧ l1.length ≤ 1000000000000 then some (msame l0 l1) else none
theorem impl_MelodySame.calls (A0 : Option Addr) (c0 : Nat) (l0 : List S29) (A1 : Option Addr) (c1 : Nat) (l1 : List S29) (r : Bool) (w : World) (ht : HTab w) (hr0 : Kd.C k29 w A0 l0.length l0) (hc0 : l0.length ≤ c0) (hr1 : Kd.C k29 w A1 l1.length l1) (hc1 : l1.length ≤ c1) (h : impl_MelodySame.f l0 l1 = some r) :
    Calls Tryd.prog 32 #[.slice A0 l0.length c0, .slice A1 l1.length c1] w fun e w' => e = .returned (.bool r) ∧ Below w.heap.size w w' := by
  unfold impl_MelodySame.f at h
  split at h
  · rename_i hh
    injection h with h
    have := impl_MelodySame_calls l0 l1 A0 c0 A1 c1 w ht hr0 hc0 hr1 hc1 hh.1 hh.2
    rw [h] at this
    exact this
  · cases h

end Go.Proofs.YtclpnaaagajhiaaDoor.PFnMelodySame
