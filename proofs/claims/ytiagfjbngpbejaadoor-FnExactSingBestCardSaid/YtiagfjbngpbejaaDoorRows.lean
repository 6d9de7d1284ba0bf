/-
  NARROWER THAN 'FOR EVERY INPUT', by the rows' own cells (each row's printed sentence says how): FnSingMany: laid · FnExactSingBest: laid.
  DERIVED. THE GIVEN ROWS OF THIS SEAT. 2 by the template 'for every input the law returns true; each argument reads behind the call as it read before'; 0 by the template 'total and deterministic' (their statements: YtiagfjbngpbejaaDoorTotals.lean).
  GIVEN WITH THE SEED: the statements are not yours to turn. If you find one false, say at which input.
  Laid BY PROGRAM, IN A SANDBOX (cutbox-rows.mjs): the forced cells as the released guide's own fill.sh prints them over the translation 8eaabe347a6f5b29… (all of the seat's roots in one cut). By AI agents, Wed Nov 11 2026. No macro, syntax, notation, axiom, sorry.
-/
import Derived.Test.YtiagfjbngpbejaaDoorChecked
import GoSem.Claim
import GoSem.ClaimJoined
import GoSem.ClaimMapViews
import Derived.JoinedTies
import Derived.KernelRfl
namespace Go.Proofs.YtiagfjbngpbejaaDoor
/- THE CELL 'sum', in the pinned program and in every row, IS THE sha256 OF THE DUMP (.gsa) THAT YtiagfjbngpbejaaDoorProg.lean LOADS. Nothing in Lean hashes anything: it is a label: what it is worth is what the hold of that sum in a sandbox is worth. -/
noncomputable def Tryd.pinned : Pinned := { name := "ytiagfjbngpbejaadoor", sum := "8eaabe347a6f5b2932a647c37bc44631bb9fc0767e4006e9247e79d104cd77ce", checked := Tryd.checked }
namespace Rows
def none {H : Type} : Left H := { results := [], args := [] }

/- WHAT THE LISTED PACKAGE-LEVEL VARIABLES READ AS WHEN THE CALL BEGINS. Each datum BY PROGRAM (the guide's laid-datum.mjs) off the statement by which the dump's own 'gosem.cut.vars' lays the variable. In a bare row this is a premise. The card (YtiagfjbngpbejaaDoorCards.lean) ties it to the program's text. -/
def laid_loop_example_neumes_impl_letterNames {H : Type} : DataW H := .agg [.lit (.string [71]), .lit (.string [65]), .lit (.string [66]), .lit (.string [67]), .lit (.string [68]), .lit (.string [69]), .lit (.string [70])]

/-- 'laws.FnSingMany': WHATEVER THE INPUT: true; the input reads as it did. -/
def fnSingManySpec : ChangeSpec := { name := "fnSingMany", vars := ["loop.example/neumes/impl.letterNames"], fn := fun _ => fun
  | [d, g1] => { results := [.lit (.bool true)], args := [d], vars := [g1] }
  | _ => none }
def fnSingManyRow : OpenClaim := { program := "ytiagfjbngpbejaadoor", sum := "8eaabe347a6f5b2932a647c37bc44631bb9fc0767e4006e9247e79d104cd77ce", func := "loop.example/neumes/laws.FnSingMany", spec := "fnSingMany", named := ["loop.example/neumes/impl.letterNames"], apart := false, laid := [("loop.example/neumes/impl.letterNames", laid_loop_example_neumes_impl_letterNames)] }
def FnSingManySaid : Prop := fnSingManyRow.holds Tryd.pinned (OpenSpec.ofChange fnSingManySpec)

/-- ITS FALSE NEIGHBOUR: 'it returns false'. Refute it at one input. -/
def fnSingManyWrong : ChangeSpec := { name := "fnSingMany", vars := ["loop.example/neumes/impl.letterNames"], fn := fun _ => fun
  | [d, g1] => { results := [.lit (.bool false)], args := [d], vars := [g1] }
  | _ => none }
def FnSingManyWrongFalsely : Prop := fnSingManyRow.holds Tryd.pinned (OpenSpec.ofChange fnSingManyWrong)

/-- 'laws.FnExactSingBest': WHATEVER THE INPUT: true; the input reads as it did. -/
def fnExactSingBestSpec : ChangeSpec := { name := "fnExactSingBest", vars := ["loop.example/neumes/impl.letterNames"], fn := fun _ => fun
  | [d, g1] => { results := [.lit (.bool true)], args := [d], vars := [g1] }
  | _ => none }
def fnExactSingBestRow : OpenClaim := { program := "ytiagfjbngpbejaadoor", sum := "8eaabe347a6f5b2932a647c37bc44631bb9fc0767e4006e9247e79d104cd77ce", func := "loop.example/neumes/laws.FnExactSingBest", spec := "fnExactSingBest", named := ["loop.example/neumes/impl.letterNames"], apart := false, laid := [("loop.example/neumes/impl.letterNames", laid_loop_example_neumes_impl_letterNames)] }
def FnExactSingBestSaid : Prop := fnExactSingBestRow.holds Tryd.pinned (OpenSpec.ofChange fnExactSingBestSpec)

/-- ITS FALSE NEIGHBOUR: 'it returns false'. Refute it at one input. -/
def fnExactSingBestWrong : ChangeSpec := { name := "fnExactSingBest", vars := ["loop.example/neumes/impl.letterNames"], fn := fun _ => fun
  | [d, g1] => { results := [.lit (.bool false)], args := [d], vars := [g1] }
  | _ => none }
def FnExactSingBestWrongFalsely : Prop := fnExactSingBestRow.holds Tryd.pinned (OpenSpec.ofChange fnExactSingBestWrong)

/- THE SECOND FORM. 'bulk': how many values and letters a reading holds, each counted each time it is reached (what is shared counts as often as it is met; a slice's spare places count too). A statement '..UptoSaid' is the law's where the arguments, and the package variables that the reading takes, are together of bulk at most 1048576: NARROWER than '..Said'. Prove '..Said' where nothing that the law and all that it calls make is longer than what came in: it says more and counts as full. Else prove '..UptoSaid'. A law counts once. -/
mutual
def uptoBulk {H : Type} : DataW H → Nat
  | .lit (.string bytes) => bytes.length + 1
  | .lit _ => 1
  | .nil => 1
  | .ptr d => uptoBulk d + 1
  | .slice elems spare => uptoBulkAll elems + uptoBulkAll spare + 1
  | .agg parts => uptoBulkAll parts + 1
  | .iface _ d => uptoBulk d + 1
  | .map entries => uptoBulkEntries entries + 1
  | .held _ => 1
def uptoBulkAll {H : Type} : List (DataW H) → Nat
  | [] => 0
  | d :: r => uptoBulk d + uptoBulkAll r
def uptoBulkEntries {H : Type} : List (Lit × DataW H) → Nat
  | [] => 0
  | x :: r => uptoBulkEntry x + uptoBulkEntries r
def uptoBulkEntry {H : Type} : Lit × DataW H → Nat
  | (.string bytes, d) => bytes.length + uptoBulk d + 1
  | (_, d) => uptoBulk d + 1
 end
def uptoSmall : (H : Type) → List (DataW H) → Bool := fun _ ds => decide (uptoBulkAll ds ≤ 1048576)
def OpenSpec.upto (s : _root_.Go.ChangeSpec) : _root_.Go.OpenSpec := { _root_.Go.OpenSpec.ofChange s with cond := some uptoSmall }

/-- 'laws.FnSingMany', WHERE WHAT IT READS IS OF BULK AT MOST 1048576: true; the input reads as it did. -/
def fnSingManyUptoRow : OpenClaim := { program := "ytiagfjbngpbejaadoor", sum := "8eaabe347a6f5b2932a647c37bc44631bb9fc0767e4006e9247e79d104cd77ce", func := "loop.example/neumes/laws.FnSingMany", spec := "fnSingMany", named := ["loop.example/neumes/impl.letterNames"], apart := false, laid := [("loop.example/neumes/impl.letterNames", laid_loop_example_neumes_impl_letterNames)], narrowed := true }
def FnSingManyUptoSaid : Prop := fnSingManyUptoRow.holds Tryd.pinned (OpenSpec.upto fnSingManySpec)

/-- 'laws.FnExactSingBest', WHERE WHAT IT READS IS OF BULK AT MOST 1048576: true; the input reads as it did. -/
def fnExactSingBestUptoRow : OpenClaim := { program := "ytiagfjbngpbejaadoor", sum := "8eaabe347a6f5b2932a647c37bc44631bb9fc0767e4006e9247e79d104cd77ce", func := "loop.example/neumes/laws.FnExactSingBest", spec := "fnExactSingBest", named := ["loop.example/neumes/impl.letterNames"], apart := false, laid := [("loop.example/neumes/impl.letterNames", laid_loop_example_neumes_impl_letterNames)], narrowed := true }
def FnExactSingBestUptoSaid : Prop := fnExactSingBestUptoRow.holds Tryd.pinned (OpenSpec.upto fnExactSingBestSpec)

end Rows
end Go.Proofs.YtiagfjbngpbejaaDoor
