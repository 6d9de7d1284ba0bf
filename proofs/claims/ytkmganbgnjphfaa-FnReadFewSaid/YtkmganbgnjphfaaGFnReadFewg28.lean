/- The function impl_FormulasBest: its plain answer, and its contract, out of its own walk. No condition beyond the readings of its arguments. -/
import Derived.Test.YtkmganbgnjphfaaQFnReadFewq0
import Derived.Test.YtkmganbgnjphfaaQFnReadFewq1
import Derived.Test.YtkmganbgnjphfaaQFnReadFewq2
namespace Go.Proofs.Ytkmganbgnjphfaa.PFnReadFew
set_option linter.unusedVariables false
set_option linter.unusedSimpArgs false
open Go Go.RowKit Go.Proofs.Ytkmganbgnjphfaa.Pure Go.Proofs.YtkmganbgnjphfaaW.PrintWords Go.Proofs.YtkmganbgnjphfaaW.PrintLast Go.Proofs.YtkmganbgnjphfaaW.PrintMore
/-! STAND-IN OF impl_FormulasBest: its place -/
def impl_FormulasBest.f (l0 : List S37) (l1 : List Int) : Option (List Int × Bool) := if (∀ x ∈ l0, x.f0.length ≤ 1000000000000) ∧ l1.length ≤ 1000000000000 then some (fBest l0 l1) else none
theorem impl_FormulasBest.calls (A0 : Option Addr) (c0 : Nat) (l0 : List S37) (A1 : Option Addr) (c1 : Nat) (l1 : List Int) (r1 : List Int) (r2 : Bool) (w : World) (hr0 : Kd.C k37 w A0 l0.length l0) (hc0 : l0.length ≤ c0) (hr1 : Kd.C (Kd.int .i64) w A1 l1.length l1) (hc1 : l1.length ≤ c1) (h : impl_FormulasBest.f l0 l1 = some (r1, r2)) :
    Calls Try.prog 23 #[.slice A0 l0.length c0, .slice A1 l1.length c1] w fun e w' => ∃ v0_ : Value, e = .returned (.tuple #[v0_, .bool r2]) ∧ Kd.R (Kd.int .i64) 3 w' w.heap.size (fun _ => True) v0_ r1 ∧ Below w.heap.size w w' := by
  unfold impl_FormulasBest.f at h
  split at h
  · rename_i hh
    injection h with h
    have := impl_FormulasBest_calls l0 l1 A0 c0 A1 c1 w hr0 hc0 hr1 hc1 hh.1 hh.2
    rw [h] at this
    exact this
  · cases h

end Go.Proofs.Ytkmganbgnjphfaa.PFnReadFew
