/-
  NARROWER THAN 'FOR EVERY INPUT', by the rows' own cells (each row's printed sentence says how): FnModeIn: laid · FnModeAll: laid.
  DERIVED. THE GIVEN ROWS OF THIS SEAT. 2 by the template 'for every input the law returns true; each argument reads behind the call as it read before'; 0 by the template 'total and deterministic' (their statements: YtnjnnalnicoojaaDoorTotals.lean).
  GIVEN WITH THE SEED: the statements are not yours to turn. If you find one false, say at which input.
  Laid BY PROGRAM, IN A SANDBOX (cutbox-rows.mjs): the forced cells as the released guide's own fill.sh prints them over the translation 20c7e8dd83d2aec6… (all of the seat's roots in one cut). By AI agents, Wed Nov 11 2026. No macro, syntax, notation, axiom, sorry.
-/
import Derived.Test.YtnjnnalnicoojaaDoorChecked
import GoSem.Claim
import GoSem.ClaimJoined
import GoSem.ClaimMapViews
import Derived.JoinedTies
import Derived.KernelRfl
namespace Go.Proofs.YtnjnnalnicoojaaDoor
/- THE CELL 'sum', in the pinned program and in every row, IS THE sha256 OF THE DUMP (.gsa) THAT YtnjnnalnicoojaaDoorProg.lean LOADS. Nothing in Lean hashes anything: it is a label: what it is worth is what the hold of that sum in a sandbox is worth. -/
noncomputable def Tryd.pinned : Pinned := { name := "ytnjnnalnicoojaadoor", sum := "20c7e8dd83d2aec6de28aa4eec895d2dfb51031dc0fb0e97c843abd832580762", checked := Tryd.checked }
namespace Rows
def none {H : Type} : Left H := { results := [], args := [] }

/- WHAT THE LISTED PACKAGE-LEVEL VARIABLES READ AS WHEN THE CALL BEGINS. Each datum BY PROGRAM (the guide's laid-datum.mjs) off the statement by which the dump's own 'gosem.cut.vars' lays the variable. In a bare row this is a premise. The card (YtnjnnalnicoojaaDoorCards.lean) ties it to the program's text. -/
def laid_loop_example_neumes_impl_modeRows {H : Type} : DataW H := .agg [.agg [.lit (.int .i64 4), .lit (.int .i64 8), .lit (.int .i64 3), .lit (.int .i64 12)], .agg [.lit (.int .i64 4), .lit (.int .i64 6), .lit (.int .i64 0), .lit (.int .i64 9)], .agg [.lit (.int .i64 5), .lit (.int .i64 10), .lit (.int .i64 4), .lit (.int .i64 13)], .agg [.lit (.int .i64 5), .lit (.int .i64 8), .lit (.int .i64 1), .lit (.int .i64 10)], .agg [.lit (.int .i64 6), .lit (.int .i64 10), .lit (.int .i64 5), .lit (.int .i64 14)], .agg [.lit (.int .i64 6), .lit (.int .i64 8), .lit (.int .i64 2), .lit (.int .i64 11)], .agg [.lit (.int .i64 7), .lit (.int .i64 11), .lit (.int .i64 6), .lit (.int .i64 15)], .agg [.lit (.int .i64 7), .lit (.int .i64 10), .lit (.int .i64 3), .lit (.int .i64 12)]]

/-- 'laws.FnModeIn': WHATEVER THE INPUT: true; the input reads as it did. -/
def fnModeInSpec : ChangeSpec := { name := "fnModeIn", vars := ["loop.example/neumes/impl.modeRows"], fn := fun _ => fun
  | [d, g1] => { results := [.lit (.bool true)], args := [d], vars := [g1] }
  | _ => none }
def fnModeInRow : OpenClaim := { program := "ytnjnnalnicoojaadoor", sum := "20c7e8dd83d2aec6de28aa4eec895d2dfb51031dc0fb0e97c843abd832580762", func := "loop.example/neumes/laws.FnModeIn", spec := "fnModeIn", named := ["loop.example/neumes/impl.modeRows"], apart := false, laid := [("loop.example/neumes/impl.modeRows", laid_loop_example_neumes_impl_modeRows)] }
def FnModeInSaid : Prop := fnModeInRow.holds Tryd.pinned (OpenSpec.ofChange fnModeInSpec)

/-- ITS FALSE NEIGHBOUR: 'it returns false'. Refute it at one input. -/
def fnModeInWrong : ChangeSpec := { name := "fnModeIn", vars := ["loop.example/neumes/impl.modeRows"], fn := fun _ => fun
  | [d, g1] => { results := [.lit (.bool false)], args := [d], vars := [g1] }
  | _ => none }
def FnModeInWrongFalsely : Prop := fnModeInRow.holds Tryd.pinned (OpenSpec.ofChange fnModeInWrong)

/-- 'laws.FnModeAll': WHATEVER THE INPUT: true; the input reads as it did. -/
def fnModeAllSpec : ChangeSpec := { name := "fnModeAll", vars := ["loop.example/neumes/impl.modeRows"], fn := fun _ => fun
  | [d, g1] => { results := [.lit (.bool true)], args := [d], vars := [g1] }
  | _ => none }
def fnModeAllRow : OpenClaim := { program := "ytnjnnalnicoojaadoor", sum := "20c7e8dd83d2aec6de28aa4eec895d2dfb51031dc0fb0e97c843abd832580762", func := "loop.example/neumes/laws.FnModeAll", spec := "fnModeAll", named := ["loop.example/neumes/impl.modeRows"], apart := false, laid := [("loop.example/neumes/impl.modeRows", laid_loop_example_neumes_impl_modeRows)] }
def FnModeAllSaid : Prop := fnModeAllRow.holds Tryd.pinned (OpenSpec.ofChange fnModeAllSpec)

/-- ITS FALSE NEIGHBOUR: 'it returns false'. Refute it at one input. -/
def fnModeAllWrong : ChangeSpec := { name := "fnModeAll", vars := ["loop.example/neumes/impl.modeRows"], fn := fun _ => fun
  | [d, g1] => { results := [.lit (.bool false)], args := [d], vars := [g1] }
  | _ => none }
def FnModeAllWrongFalsely : Prop := fnModeAllRow.holds Tryd.pinned (OpenSpec.ofChange fnModeAllWrong)

/- THE SECOND FORM. 'bulk': how many values and letters a reading holds, each counted each time it is reached (what is shared counts as often as it is met; a slice's spare places count too). A statement '..UptoSaid' is the law's where the arguments, and the package variables that the reading takes, are together of bulk at most 1048576: NARROWER than '..Said'. Prove '..Said' where nothing that the law and all that it calls make is longer than what came in: it says more and counts as full. Else prove '..UptoSaid'. A law counts once. -/
mutual
def uptoBulk {H : Type} : DataW H → Nat
  | .lit (.string bytes) => bytes.length + 1
  | .lit _ => 1
  | .nil => 1
  | .ptr d => uptoBulk d + 1
  | .slice elems spare => uptoBulkAll elems + uptoBulkAll spare + 1
  | .agg parts => uptoBulkAll parts + 1
  | .iface _ d => uptoBulk d + 1
  | .map entries => uptoBulkEntries entries + 1
  | .held _ => 1
def uptoBulkAll {H : Type} : List (DataW H) → Nat
  | [] => 0
  | d :: r => uptoBulk d + uptoBulkAll r
def uptoBulkEntries {H : Type} : List (Lit × DataW H) → Nat
  | [] => 0
  | x :: r => uptoBulkEntry x + uptoBulkEntries r
def uptoBulkEntry {H : Type} : Lit × DataW H → Nat
  | (.string bytes, d) => bytes.length + uptoBulk d + 1
  | (_, d) => uptoBulk d + 1
 end
def uptoSmall : (H : Type) → List (DataW H) → Bool := fun _ ds => decide (uptoBulkAll ds ≤ 1048576)
def OpenSpec.upto (s : _root_.Go.ChangeSpec) : _root_.Go.OpenSpec := { _root_.Go.OpenSpec.ofChange s with cond := some uptoSmall }

/-- 'laws.FnModeIn', WHERE WHAT IT READS IS OF BULK AT MOST 1048576: true; the input reads as it did. -/
def fnModeInUptoRow : OpenClaim := { program := "ytnjnnalnicoojaadoor", sum := "20c7e8dd83d2aec6de28aa4eec895d2dfb51031dc0fb0e97c843abd832580762", func := "loop.example/neumes/laws.FnModeIn", spec := "fnModeIn", named := ["loop.example/neumes/impl.modeRows"], apart := false, laid := [("loop.example/neumes/impl.modeRows", laid_loop_example_neumes_impl_modeRows)], narrowed := true }
def FnModeInUptoSaid : Prop := fnModeInUptoRow.holds Tryd.pinned (OpenSpec.upto fnModeInSpec)

/-- 'laws.FnModeAll', WHERE WHAT IT READS IS OF BULK AT MOST 1048576: true; the input reads as it did. -/
def fnModeAllUptoRow : OpenClaim := { program := "ytnjnnalnicoojaadoor", sum := "20c7e8dd83d2aec6de28aa4eec895d2dfb51031dc0fb0e97c843abd832580762", func := "loop.example/neumes/laws.FnModeAll", spec := "fnModeAll", named := ["loop.example/neumes/impl.modeRows"], apart := false, laid := [("loop.example/neumes/impl.modeRows", laid_loop_example_neumes_impl_modeRows)], narrowed := true }
def FnModeAllUptoSaid : Prop := fnModeAllUptoRow.holds Tryd.pinned (OpenSpec.upto fnModeAllSpec)

end Rows
end Go.Proofs.YtnjnnalnicoojaaDoor
