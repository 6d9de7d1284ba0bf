/-
  NARROWER THAN 'FOR EVERY INPUT', by the rows' own cells (each row's printed sentence says how): FnExactMelodyMove: laid · FnExactTonaryJoin: laid · FnExactModeAll: laid · FnExactTonaryValid: laid · FnReadRead: laid · FnExactModeLikely: laid.
  DERIVED. THE GIVEN ROWS OF THIS SEAT. 6 by the template 'for every input the law returns true; each argument reads behind the call as it read before'; 0 by the template 'total and deterministic' (their statements: YtkahgjejebhgnaaDoorTotals.lean).
  GIVEN WITH THE SEED: the statements are not yours to turn. If you find one false, say at which input.
  Laid BY PROGRAM, IN A SANDBOX (cutbox-rows.mjs): the forced cells as the released guide's own fill.sh prints them over the translation d0c1d5f29c7d64d5… (all of the seat's roots in one cut). By AI agents, Wed Nov 11 2026. No macro, syntax, notation, axiom, sorry.
-/
import Derived.Test.YtkahgjejebhgnaaDoorChecked
import GoSem.Claim
import GoSem.ClaimJoined
import GoSem.ClaimMapViews
import Derived.JoinedTies
import Derived.KernelRfl
namespace Go.Proofs.YtkahgjejebhgnaaDoor
/- THE CELL 'sum', in the pinned program and in every row, IS THE sha256 OF THE DUMP (.gsa) THAT YtkahgjejebhgnaaDoorProg.lean LOADS. Nothing in Lean hashes anything: it is a label: what it is worth is what the hold of that sum in a sandbox is worth. -/
noncomputable def Tryd.pinned : Pinned := { name := "ytkahgjejebhgnaadoor", sum := "d0c1d5f29c7d64d5eb79c2da89c9ee877e34939930e039b707cf979490008835", checked := Tryd.checked }
namespace Rows
def none {H : Type} : Left H := { results := [], args := [] }

/- WHAT THE LISTED PACKAGE-LEVEL VARIABLES READ AS WHEN THE CALL BEGINS. Each datum BY PROGRAM (the guide's laid-datum.mjs) off the statement by which the dump's own 'gosem.cut.vars' lays the variable. In a bare row this is a premise. The card (YtkahgjejebhgnaaDoorCards.lean) ties it to the program's text. -/
def laid_loop_example_neumes_impl_letterHeights {H : Type} : DataW H := .agg [.lit (.int .i64 0), .lit (.int .i64 2), .lit (.int .i64 4), .lit (.int .i64 5), .lit (.int .i64 7), .lit (.int .i64 9), .lit (.int .i64 10)]
def laid_loop_example_neumes_impl_modeRows {H : Type} : DataW H := .agg [.agg [.lit (.int .i64 4), .lit (.int .i64 8), .lit (.int .i64 3), .lit (.int .i64 12)], .agg [.lit (.int .i64 4), .lit (.int .i64 6), .lit (.int .i64 0), .lit (.int .i64 9)], .agg [.lit (.int .i64 5), .lit (.int .i64 10), .lit (.int .i64 4), .lit (.int .i64 13)], .agg [.lit (.int .i64 5), .lit (.int .i64 8), .lit (.int .i64 1), .lit (.int .i64 10)], .agg [.lit (.int .i64 6), .lit (.int .i64 10), .lit (.int .i64 5), .lit (.int .i64 14)], .agg [.lit (.int .i64 6), .lit (.int .i64 8), .lit (.int .i64 2), .lit (.int .i64 11)], .agg [.lit (.int .i64 7), .lit (.int .i64 11), .lit (.int .i64 6), .lit (.int .i64 15)], .agg [.lit (.int .i64 7), .lit (.int .i64 10), .lit (.int .i64 3), .lit (.int .i64 12)]]

/-- 'laws.FnExactMelodyMove': WHATEVER THE INPUT: true; the input reads as it did. -/
def fnExactMelodyMoveSpec : ChangeSpec := { name := "fnExactMelodyMove", vars := ["loop.example/neumes/impl.letterHeights"], fn := fun _ => fun
  | [d1, d2, g1] => { results := [.lit (.bool true)], args := [d1, d2], vars := [g1] }
  | _ => none }
def fnExactMelodyMoveRow : OpenClaim := { program := "ytkahgjejebhgnaadoor", sum := "d0c1d5f29c7d64d5eb79c2da89c9ee877e34939930e039b707cf979490008835", func := "loop.example/neumes/laws.FnExactMelodyMove", spec := "fnExactMelodyMove", named := ["loop.example/neumes/impl.letterHeights"], apart := false, laid := [("loop.example/neumes/impl.letterHeights", laid_loop_example_neumes_impl_letterHeights)] }
def FnExactMelodyMoveSaid : Prop := fnExactMelodyMoveRow.holds Tryd.pinned (OpenSpec.ofChange fnExactMelodyMoveSpec)

/-- ITS FALSE NEIGHBOUR: 'it returns false'. Refute it at one input. -/
def fnExactMelodyMoveWrong : ChangeSpec := { name := "fnExactMelodyMove", vars := ["loop.example/neumes/impl.letterHeights"], fn := fun _ => fun
  | [d1, d2, g1] => { results := [.lit (.bool false)], args := [d1, d2], vars := [g1] }
  | _ => none }
def FnExactMelodyMoveWrongFalsely : Prop := fnExactMelodyMoveRow.holds Tryd.pinned (OpenSpec.ofChange fnExactMelodyMoveWrong)

/-- 'laws.FnExactTonaryJoin': WHATEVER THE INPUT: true; the input reads as it did. -/
def fnExactTonaryJoinSpec : ChangeSpec := { name := "fnExactTonaryJoin", vars := ["loop.example/neumes/impl.modeRows"], fn := fun _ => fun
  | [d1, d2, g1] => { results := [.lit (.bool true)], args := [d1, d2], vars := [g1] }
  | _ => none }
def fnExactTonaryJoinRow : OpenClaim := { program := "ytkahgjejebhgnaadoor", sum := "d0c1d5f29c7d64d5eb79c2da89c9ee877e34939930e039b707cf979490008835", func := "loop.example/neumes/laws.FnExactTonaryJoin", spec := "fnExactTonaryJoin", inPlace := ["internal/bytealg.abigen_runtime_cmpstring", "slices.overlaps[loop.example/neumes/impl.Entry]"], unfollowed := true, recurses := true, named := ["loop.example/neumes/impl.modeRows"], apart := false, laid := [("loop.example/neumes/impl.modeRows", laid_loop_example_neumes_impl_modeRows)] }
def FnExactTonaryJoinSaid : Prop := fnExactTonaryJoinRow.holds Tryd.pinned (OpenSpec.ofChange fnExactTonaryJoinSpec)

/-- ITS FALSE NEIGHBOUR: 'it returns false'. Refute it at one input. -/
def fnExactTonaryJoinWrong : ChangeSpec := { name := "fnExactTonaryJoin", vars := ["loop.example/neumes/impl.modeRows"], fn := fun _ => fun
  | [d1, d2, g1] => { results := [.lit (.bool false)], args := [d1, d2], vars := [g1] }
  | _ => none }
def FnExactTonaryJoinWrongFalsely : Prop := fnExactTonaryJoinRow.holds Tryd.pinned (OpenSpec.ofChange fnExactTonaryJoinWrong)

/-- 'laws.FnExactModeAll': WHATEVER THE INPUT: true; the input reads as it did. -/
def fnExactModeAllSpec : ChangeSpec := { name := "fnExactModeAll", vars := ["loop.example/neumes/impl.modeRows"], fn := fun _ => fun
  | [d, g1] => { results := [.lit (.bool true)], args := [d], vars := [g1] }
  | _ => none }
def fnExactModeAllRow : OpenClaim := { program := "ytkahgjejebhgnaadoor", sum := "d0c1d5f29c7d64d5eb79c2da89c9ee877e34939930e039b707cf979490008835", func := "loop.example/neumes/laws.FnExactModeAll", spec := "fnExactModeAll", named := ["loop.example/neumes/impl.modeRows"], apart := false, laid := [("loop.example/neumes/impl.modeRows", laid_loop_example_neumes_impl_modeRows)] }
def FnExactModeAllSaid : Prop := fnExactModeAllRow.holds Tryd.pinned (OpenSpec.ofChange fnExactModeAllSpec)

/-- ITS FALSE NEIGHBOUR: 'it returns false'. Refute it at one input. -/
def fnExactModeAllWrong : ChangeSpec := { name := "fnExactModeAll", vars := ["loop.example/neumes/impl.modeRows"], fn := fun _ => fun
  | [d, g1] => { results := [.lit (.bool false)], args := [d], vars := [g1] }
  | _ => none }
def FnExactModeAllWrongFalsely : Prop := fnExactModeAllRow.holds Tryd.pinned (OpenSpec.ofChange fnExactModeAllWrong)

/-- 'laws.FnExactTonaryValid': WHATEVER THE INPUT: true; the input reads as it did. -/
def fnExactTonaryValidSpec : ChangeSpec := { name := "fnExactTonaryValid", vars := ["loop.example/neumes/impl.modeRows"], fn := fun _ => fun
  | [d, g1] => { results := [.lit (.bool true)], args := [d], vars := [g1] }
  | _ => none }
def fnExactTonaryValidRow : OpenClaim := { program := "ytkahgjejebhgnaadoor", sum := "d0c1d5f29c7d64d5eb79c2da89c9ee877e34939930e039b707cf979490008835", func := "loop.example/neumes/laws.FnExactTonaryValid", spec := "fnExactTonaryValid", named := ["loop.example/neumes/impl.modeRows"], apart := false, laid := [("loop.example/neumes/impl.modeRows", laid_loop_example_neumes_impl_modeRows)] }
def FnExactTonaryValidSaid : Prop := fnExactTonaryValidRow.holds Tryd.pinned (OpenSpec.ofChange fnExactTonaryValidSpec)

/-- ITS FALSE NEIGHBOUR: 'it returns false'. Refute it at one input. -/
def fnExactTonaryValidWrong : ChangeSpec := { name := "fnExactTonaryValid", vars := ["loop.example/neumes/impl.modeRows"], fn := fun _ => fun
  | [d, g1] => { results := [.lit (.bool false)], args := [d], vars := [g1] }
  | _ => none }
def FnExactTonaryValidWrongFalsely : Prop := fnExactTonaryValidRow.holds Tryd.pinned (OpenSpec.ofChange fnExactTonaryValidWrong)

/-- 'laws.FnReadRead': WHATEVER THE INPUT: true; the input reads as it did. -/
def fnReadReadSpec : ChangeSpec := { name := "fnReadRead", vars := ["loop.example/neumes/impl.letterHeights"], fn := fun _ => fun
  | [d, g1] => { results := [.lit (.bool true)], args := [d], vars := [g1] }
  | _ => none }
def fnReadReadRow : OpenClaim := { program := "ytkahgjejebhgnaadoor", sum := "d0c1d5f29c7d64d5eb79c2da89c9ee877e34939930e039b707cf979490008835", func := "loop.example/neumes/laws.FnReadRead", spec := "fnReadRead", unfollowed := true, recurses := true, named := ["loop.example/neumes/impl.letterHeights"], apart := false, laid := [("loop.example/neumes/impl.letterHeights", laid_loop_example_neumes_impl_letterHeights)] }
def FnReadReadSaid : Prop := fnReadReadRow.holds Tryd.pinned (OpenSpec.ofChange fnReadReadSpec)

/-- ITS FALSE NEIGHBOUR: 'it returns false'. Refute it at one input. -/
def fnReadReadWrong : ChangeSpec := { name := "fnReadRead", vars := ["loop.example/neumes/impl.letterHeights"], fn := fun _ => fun
  | [d, g1] => { results := [.lit (.bool false)], args := [d], vars := [g1] }
  | _ => none }
def FnReadReadWrongFalsely : Prop := fnReadReadRow.holds Tryd.pinned (OpenSpec.ofChange fnReadReadWrong)

/-- 'laws.FnExactModeLikely': WHATEVER THE INPUT: true; the input reads as it did. -/
def fnExactModeLikelySpec : ChangeSpec := { name := "fnExactModeLikely", vars := ["loop.example/neumes/impl.modeRows"], fn := fun _ => fun
  | [d, g1] => { results := [.lit (.bool true)], args := [d], vars := [g1] }
  | _ => none }
def fnExactModeLikelyRow : OpenClaim := { program := "ytkahgjejebhgnaadoor", sum := "d0c1d5f29c7d64d5eb79c2da89c9ee877e34939930e039b707cf979490008835", func := "loop.example/neumes/laws.FnExactModeLikely", spec := "fnExactModeLikely", named := ["loop.example/neumes/impl.modeRows"], apart := false, laid := [("loop.example/neumes/impl.modeRows", laid_loop_example_neumes_impl_modeRows)] }
def FnExactModeLikelySaid : Prop := fnExactModeLikelyRow.holds Tryd.pinned (OpenSpec.ofChange fnExactModeLikelySpec)

/-- ITS FALSE NEIGHBOUR: 'it returns false'. Refute it at one input. -/
def fnExactModeLikelyWrong : ChangeSpec := { name := "fnExactModeLikely", vars := ["loop.example/neumes/impl.modeRows"], fn := fun _ => fun
  | [d, g1] => { results := [.lit (.bool false)], args := [d], vars := [g1] }
  | _ => none }
def FnExactModeLikelyWrongFalsely : Prop := fnExactModeLikelyRow.holds Tryd.pinned (OpenSpec.ofChange fnExactModeLikelyWrong)

/- THE SECOND FORM. 'bulk': how many values and letters a reading holds, each counted each time it is reached (what is shared counts as often as it is met; a slice's spare places count too). A statement '..UptoSaid' is the law's where the arguments, and the package variables that the reading takes, are together of bulk at most 1048576: NARROWER than '..Said'. Prove '..Said' where nothing that the law and all that it calls make is longer than what came in: it says more and counts as full. Else prove '..UptoSaid'. A law counts once. -/
mutual
def uptoBulk {H : Type} : DataW H → Nat
  | .lit (.string bytes) => bytes.length + 1
  | .lit _ => 1
  | .nil => 1
  | .ptr d => uptoBulk d + 1
  | .slice elems spare => uptoBulkAll elems + uptoBulkAll spare + 1
  | .agg parts => uptoBulkAll parts + 1
  | .iface _ d => uptoBulk d + 1
  | .map entries => uptoBulkEntries entries + 1
  | .held _ => 1
def uptoBulkAll {H : Type} : List (DataW H) → Nat
  | [] => 0
  | d :: r => uptoBulk d + uptoBulkAll r
def uptoBulkEntries {H : Type} : List (Lit × DataW H) → Nat
  | [] => 0
  | x :: r => uptoBulkEntry x + uptoBulkEntries r
def uptoBulkEntry {H : Type} : Lit × DataW H → Nat
  | (.string bytes, d) => bytes.length + uptoBulk d + 1
  | (_, d) => uptoBulk d + 1
 end
def uptoSmall : (H : Type) → List (DataW H) → Bool := fun _ ds => decide (uptoBulkAll ds ≤ 1048576)
def OpenSpec.upto (s : _root_.Go.ChangeSpec) : _root_.Go.OpenSpec := { _root_.Go.OpenSpec.ofChange s with cond := some uptoSmall }

/-- 'laws.FnExactMelodyMove', WHERE WHAT IT READS IS OF BULK AT MOST 1048576: true; the input reads as it did. -/
def fnExactMelodyMoveUptoRow : OpenClaim := { program := "ytkahgjejebhgnaadoor", sum := "d0c1d5f29c7d64d5eb79c2da89c9ee877e34939930e039b707cf979490008835", func := "loop.example/neumes/laws.FnExactMelodyMove", spec := "fnExactMelodyMove", named := ["loop.example/neumes/impl.letterHeights"], apart := false, laid := [("loop.example/neumes/impl.letterHeights", laid_loop_example_neumes_impl_letterHeights)], narrowed := true }
def FnExactMelodyMoveUptoSaid : Prop := fnExactMelodyMoveUptoRow.holds Tryd.pinned (OpenSpec.upto fnExactMelodyMoveSpec)

/-- 'laws.FnExactTonaryJoin', WHERE WHAT IT READS IS OF BULK AT MOST 1048576: true; the input reads as it did. -/
def fnExactTonaryJoinUptoRow : OpenClaim := { program := "ytkahgjejebhgnaadoor", sum := "d0c1d5f29c7d64d5eb79c2da89c9ee877e34939930e039b707cf979490008835", func := "loop.example/neumes/laws.FnExactTonaryJoin", spec := "fnExactTonaryJoin", inPlace := ["internal/bytealg.abigen_runtime_cmpstring", "slices.overlaps[loop.example/neumes/impl.Entry]"], unfollowed := true, recurses := true, named := ["loop.example/neumes/impl.modeRows"], apart := false, laid := [("loop.example/neumes/impl.modeRows", laid_loop_example_neumes_impl_modeRows)], narrowed := true }
def FnExactTonaryJoinUptoSaid : Prop := fnExactTonaryJoinUptoRow.holds Tryd.pinned (OpenSpec.upto fnExactTonaryJoinSpec)

/-- 'laws.FnExactModeAll', WHERE WHAT IT READS IS OF BULK AT MOST 1048576: true; the input reads as it did. -/
def fnExactModeAllUptoRow : OpenClaim := { program := "ytkahgjejebhgnaadoor", sum := "d0c1d5f29c7d64d5eb79c2da89c9ee877e34939930e039b707cf979490008835", func := "loop.example/neumes/laws.FnExactModeAll", spec := "fnExactModeAll", named := ["loop.example/neumes/impl.modeRows"], apart := false, laid := [("loop.example/neumes/impl.modeRows", laid_loop_example_neumes_impl_modeRows)], narrowed := true }
def FnExactModeAllUptoSaid : Prop := fnExactModeAllUptoRow.holds Tryd.pinned (OpenSpec.upto fnExactModeAllSpec)

/-- 'laws.FnExactTonaryValid', WHERE WHAT IT READS IS OF BULK AT MOST 1048576: true; the input reads as it did. -/
def fnExactTonaryValidUptoRow : OpenClaim := { program := "ytkahgjejebhgnaadoor", sum := "d0c1d5f29c7d64d5eb79c2da89c9ee877e34939930e039b707cf979490008835", func := "loop.example/neumes/laws.FnExactTonaryValid", spec := "fnExactTonaryValid", named := ["loop.example/neumes/impl.modeRows"], apart := false, laid := [("loop.example/neumes/impl.modeRows", laid_loop_example_neumes_impl_modeRows)], narrowed := true }
def FnExactTonaryValidUptoSaid : Prop := fnExactTonaryValidUptoRow.holds Tryd.pinned (OpenSpec.upto fnExactTonaryValidSpec)

/-- 'laws.FnReadRead', WHERE WHAT IT READS IS OF BULK AT MOST 1048576: true; the input reads as it did. -/
def fnReadReadUptoRow : OpenClaim := { program := "ytkahgjejebhgnaadoor", sum := "d0c1d5f29c7d64d5eb79c2da89c9ee877e34939930e039b707cf979490008835", func := "loop.example/neumes/laws.FnReadRead", spec := "fnReadRead", unfollowed := true, recurses := true, named := ["loop.example/neumes/impl.letterHeights"], apart := false, laid := [("loop.example/neumes/impl.letterHeights", laid_loop_example_neumes_impl_letterHeights)], narrowed := true }
def FnReadReadUptoSaid : Prop := fnReadReadUptoRow.holds Tryd.pinned (OpenSpec.upto fnReadReadSpec)

/-- 'laws.FnExactModeLikely', WHERE WHAT IT READS IS OF BULK AT MOST 1048576: true; the input reads as it did. -/
def fnExactModeLikelyUptoRow : OpenClaim := { program := "ytkahgjejebhgnaadoor", sum := "d0c1d5f29c7d64d5eb79c2da89c9ee877e34939930e039b707cf979490008835", func := "loop.example/neumes/laws.FnExactModeLikely", spec := "fnExactModeLikely", named := ["loop.example/neumes/impl.modeRows"], apart := false, laid := [("loop.example/neumes/impl.modeRows", laid_loop_example_neumes_impl_modeRows)], narrowed := true }
def FnExactModeLikelyUptoSaid : Prop := fnExactModeLikelyUptoRow.holds Tryd.pinned (OpenSpec.upto fnExactModeLikelySpec)

end Rows
end Go.Proofs.YtkahgjejebhgnaaDoor
