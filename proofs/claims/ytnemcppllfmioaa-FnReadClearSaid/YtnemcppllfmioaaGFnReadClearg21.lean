/- The function impl_FormulasWithout: its plain answer, and its contract, out of its own walk. No condition beyond the readings of its arguments. -/
import Derived.Test.YtnemcppllfmioaaQFnReadClearq0
import Derived.Test.YtnemcppllfmioaaQFnReadClearq1
import Derived.Test.YtnemcppllfmioaaQFnReadClearq2
namespace Go.Proofs.Ytnemcppllfmioaa.PFnReadClear
set_option linter.unusedVariables false
set_option linter.unusedSimpArgs false
open Go Go.RowKit Go.Proofs.Ytnemcppllfmioaa.Pure Go.Proofs.YtnemcppllfmioaaW.PrintWords Go.Proofs.YtnemcppllfmioaaW.PrintLast Go.Proofs.YtnemcppllfmioaaW.PrintMore
/-! STAND-IN OF impl_FormulasWithout: its place -/
def impl_FormulasWithout.f (l0 : List S55) (a1 : Int) : Option (List S55 × Bool) := if FormulaSz l0 ≤ 1000000000000 then some (fwo l0 a1) else none
theorem impl_FormulasWithout.calls (A0 : Option Addr) (c0 : Nat) (l0 : List S55) (a1 : Int) (r1 : List S55) (r2 : Bool) (w : World) (hr0 : Kd.C k55 w A0 l0.length l0) (hc0 : l0.length ≤ c0) (h : impl_FormulasWithout.f l0 a1 = some (r1, r2)) :
    Calls Try.prog 25 #[.slice A0 l0.length c0, .int .i64 a1] w fun e w' => ∃ v0_ : Value, e = .returned (.tuple #[v0_, .bool r2]) ∧ Kd.S k55 55 w' w.heap.size (fun _ => True) v0_ r1 ∧ Below w.heap.size w w' := by
  unfold impl_FormulasWithout.f at h
  split at h
  · rename_i hh
    injection h with h
    have := impl_FormulasWithout_calls l0 a1 A0 c0 w hr0 hc0 hh
    rw [h] at this
    exact this
  · cases h

end Go.Proofs.Ytnemcppllfmioaa.PFnReadClear
