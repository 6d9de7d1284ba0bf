/-
  NARROWER THAN 'FOR EVERY INPUT', by the rows' own cells (each row's printed sentence says how): FnExactTonaryJoin: laid · FnExactTonaryValid: laid · FnTonary: laid · FnExactTonaryMode: laid · FnExactTonaryDrop: laid · FnExactTonaryFind: laid · FnTonaryDrop: laid · FnTonaryFind: laid · FnExactTonaryAdd: laid · FnTonaryJoin: laid.
  DERIVED. THE GIVEN ROWS OF THIS SEAT. 10 by the template 'for every input the law returns true; each argument reads behind the call as it read before'; 0 by the template 'total and deterministic' (their statements: YtmacedbpdhkagaaDoorTotals.lean).
  GIVEN WITH THE SEED: the statements are not yours to turn. If you find one false, say at which input.
  Laid BY PROGRAM, IN A SANDBOX (cutbox-rows.mjs): the forced cells as the released guide's own fill.sh prints them over the translation 1f31bb1b35d8bf9a… (all of the seat's roots in one cut). By AI agents, Wed Nov 11 2026. No macro, syntax, notation, axiom, sorry.
-/
import Derived.Test.YtmacedbpdhkagaaDoorChecked
import GoSem.Claim
import GoSem.ClaimJoined
import GoSem.ClaimMapViews
import Derived.JoinedTies
import Derived.KernelRfl
namespace Go.Proofs.YtmacedbpdhkagaaDoor
/- THE CELL 'sum', in the pinned program and in every row, IS THE sha256 OF THE DUMP (.gsa) THAT YtmacedbpdhkagaaDoorProg.lean LOADS. Nothing in Lean hashes anything: it is a label: what it is worth is what the hold of that sum in a sandbox is worth. -/
noncomputable def Tryd.pinned : Pinned := { name := "ytmacedbpdhkagaadoor", sum := "1f31bb1b35d8bf9a1fd6872379a57f0a446c28233641360c87c5122cb648c5e0", checked := Tryd.checked }
namespace Rows
def none {H : Type} : Left H := { results := [], args := [] }

/- WHAT THE LISTED PACKAGE-LEVEL VARIABLES READ AS WHEN THE CALL BEGINS. Each datum BY PROGRAM (the guide's laid-datum.mjs) off the statement by which the dump's own 'gosem.cut.vars' lays the variable. In a bare row this is a premise. The card (YtmacedbpdhkagaaDoorCards.lean) ties it to the program's text. -/
def laid_loop_example_neumes_impl_modeRows {H : Type} : DataW H := .agg [.agg [.lit (.int .i64 4), .lit (.int .i64 8), .lit (.int .i64 3), .lit (.int .i64 12)], .agg [.lit (.int .i64 4), .lit (.int .i64 6), .lit (.int .i64 0), .lit (.int .i64 9)], .agg [.lit (.int .i64 5), .lit (.int .i64 10), .lit (.int .i64 4), .lit (.int .i64 13)], .agg [.lit (.int .i64 5), .lit (.int .i64 8), .lit (.int .i64 1), .lit (.int .i64 10)], .agg [.lit (.int .i64 6), .lit (.int .i64 10), .lit (.int .i64 5), .lit (.int .i64 14)], .agg [.lit (.int .i64 6), .lit (.int .i64 8), .lit (.int .i64 2), .lit (.int .i64 11)], .agg [.lit (.int .i64 7), .lit (.int .i64 11), .lit (.int .i64 6), .lit (.int .i64 15)], .agg [.lit (.int .i64 7), .lit (.int .i64 10), .lit (.int .i64 3), .lit (.int .i64 12)]]
def laid_loop_example_neumes_impl_letterHeights {H : Type} : DataW H := .agg [.lit (.int .i64 0), .lit (.int .i64 2), .lit (.int .i64 4), .lit (.int .i64 5), .lit (.int .i64 7), .lit (.int .i64 9), .lit (.int .i64 10)]

/-- 'laws.FnExactTonaryJoin': WHATEVER THE INPUT: true; the input reads as it did. -/
def fnExactTonaryJoinSpec : ChangeSpec := { name := "fnExactTonaryJoin", vars := ["loop.example/neumes/impl.modeRows"], fn := fun _ => fun
  | [d1, d2, g1] => { results := [.lit (.bool true)], args := [d1, d2], vars := [g1] }
  | _ => none }
def fnExactTonaryJoinRow : OpenClaim := { program := "ytmacedbpdhkagaadoor", sum := "1f31bb1b35d8bf9a1fd6872379a57f0a446c28233641360c87c5122cb648c5e0", func := "loop.example/neumes/laws.FnExactTonaryJoin", spec := "fnExactTonaryJoin", inPlace := ["internal/bytealg.abigen_runtime_cmpstring", "slices.overlaps[loop.example/neumes/impl.Entry]"], unfollowed := true, recurses := true, named := ["loop.example/neumes/impl.modeRows"], apart := false, laid := [("loop.example/neumes/impl.modeRows", laid_loop_example_neumes_impl_modeRows)] }
def FnExactTonaryJoinSaid : Prop := fnExactTonaryJoinRow.holds Tryd.pinned (OpenSpec.ofChange fnExactTonaryJoinSpec)

/-- ITS FALSE NEIGHBOUR: 'it returns false'. Refute it at one input. -/
def fnExactTonaryJoinWrong : ChangeSpec := { name := "fnExactTonaryJoin", vars := ["loop.example/neumes/impl.modeRows"], fn := fun _ => fun
  | [d1, d2, g1] => { results := [.lit (.bool false)], args := [d1, d2], vars := [g1] }
  | _ => none }
def FnExactTonaryJoinWrongFalsely : Prop := fnExactTonaryJoinRow.holds Tryd.pinned (OpenSpec.ofChange fnExactTonaryJoinWrong)

/-- 'laws.FnExactTonaryValid': WHATEVER THE INPUT: true; the input reads as it did. -/
def fnExactTonaryValidSpec : ChangeSpec := { name := "fnExactTonaryValid", vars := ["loop.example/neumes/impl.modeRows"], fn := fun _ => fun
  | [d, g1] => { results := [.lit (.bool true)], args := [d], vars := [g1] }
  | _ => none }
def fnExactTonaryValidRow : OpenClaim := { program := "ytmacedbpdhkagaadoor", sum := "1f31bb1b35d8bf9a1fd6872379a57f0a446c28233641360c87c5122cb648c5e0", func := "loop.example/neumes/laws.FnExactTonaryValid", spec := "fnExactTonaryValid", named := ["loop.example/neumes/impl.modeRows"], apart := false, laid := [("loop.example/neumes/impl.modeRows", laid_loop_example_neumes_impl_modeRows)] }
def FnExactTonaryValidSaid : Prop := fnExactTonaryValidRow.holds Tryd.pinned (OpenSpec.ofChange fnExactTonaryValidSpec)

/-- ITS FALSE NEIGHBOUR: 'it returns false'. Refute it at one input. -/
def fnExactTonaryValidWrong : ChangeSpec := { name := "fnExactTonaryValid", vars := ["loop.example/neumes/impl.modeRows"], fn := fun _ => fun
  | [d, g1] => { results := [.lit (.bool false)], args := [d], vars := [g1] }
  | _ => none }
def FnExactTonaryValidWrongFalsely : Prop := fnExactTonaryValidRow.holds Tryd.pinned (OpenSpec.ofChange fnExactTonaryValidWrong)

/-- 'laws.FnTonary': WHATEVER THE INPUT: true; the input reads as it did. -/
def fnTonarySpec : ChangeSpec := { name := "fnTonary", vars := ["loop.example/neumes/impl.modeRows"], fn := fun _ => fun
  | [d1, d2, g1] => { results := [.lit (.bool true)], args := [d1, d2], vars := [g1] }
  | _ => none }
def fnTonaryRow : OpenClaim := { program := "ytmacedbpdhkagaadoor", sum := "1f31bb1b35d8bf9a1fd6872379a57f0a446c28233641360c87c5122cb648c5e0", func := "loop.example/neumes/laws.FnTonary", spec := "fnTonary", named := ["loop.example/neumes/impl.modeRows"], apart := false, laid := [("loop.example/neumes/impl.modeRows", laid_loop_example_neumes_impl_modeRows)] }
def FnTonarySaid : Prop := fnTonaryRow.holds Tryd.pinned (OpenSpec.ofChange fnTonarySpec)

/-- ITS FALSE NEIGHBOUR: 'it returns false'. Refute it at one input. -/
def fnTonaryWrong : ChangeSpec := { name := "fnTonary", vars := ["loop.example/neumes/impl.modeRows"], fn := fun _ => fun
  | [d1, d2, g1] => { results := [.lit (.bool false)], args := [d1, d2], vars := [g1] }
  | _ => none }
def FnTonaryWrongFalsely : Prop := fnTonaryRow.holds Tryd.pinned (OpenSpec.ofChange fnTonaryWrong)

/-- 'laws.FnExactTonaryMode': WHATEVER THE INPUT: true; the input reads as it did. -/
def fnExactTonaryModeSpec : ChangeSpec := { name := "fnExactTonaryMode", vars := ["loop.example/neumes/impl.modeRows"], fn := fun _ => fun
  | [d1, d2, g1] => { results := [.lit (.bool true)], args := [d1, d2], vars := [g1] }
  | _ => none }
def fnExactTonaryModeRow : OpenClaim := { program := "ytmacedbpdhkagaadoor", sum := "1f31bb1b35d8bf9a1fd6872379a57f0a446c28233641360c87c5122cb648c5e0", func := "loop.example/neumes/laws.FnExactTonaryMode", spec := "fnExactTonaryMode", named := ["loop.example/neumes/impl.modeRows"], apart := false, laid := [("loop.example/neumes/impl.modeRows", laid_loop_example_neumes_impl_modeRows)] }
def FnExactTonaryModeSaid : Prop := fnExactTonaryModeRow.holds Tryd.pinned (OpenSpec.ofChange fnExactTonaryModeSpec)

/-- ITS FALSE NEIGHBOUR: 'it returns false'. Refute it at one input. -/
def fnExactTonaryModeWrong : ChangeSpec := { name := "fnExactTonaryMode", vars := ["loop.example/neumes/impl.modeRows"], fn := fun _ => fun
  | [d1, d2, g1] => { results := [.lit (.bool false)], args := [d1, d2], vars := [g1] }
  | _ => none }
def FnExactTonaryModeWrongFalsely : Prop := fnExactTonaryModeRow.holds Tryd.pinned (OpenSpec.ofChange fnExactTonaryModeWrong)

/-- 'laws.FnExactTonaryDrop': WHATEVER THE INPUT: true; the input reads as it did. -/
def fnExactTonaryDropSpec : ChangeSpec := { name := "fnExactTonaryDrop", vars := ["loop.example/neumes/impl.modeRows"], fn := fun _ => fun
  | [d1, d2, d3, g1] => { results := [.lit (.bool true)], args := [d1, d2, d3], vars := [g1] }
  | _ => none }
def fnExactTonaryDropRow : OpenClaim := { program := "ytmacedbpdhkagaadoor", sum := "1f31bb1b35d8bf9a1fd6872379a57f0a446c28233641360c87c5122cb648c5e0", func := "loop.example/neumes/laws.FnExactTonaryDrop", spec := "fnExactTonaryDrop", inPlace := ["internal/bytealg.abigen_runtime_cmpstring"], unfollowed := true, recurses := true, named := ["loop.example/neumes/impl.modeRows"], apart := false, laid := [("loop.example/neumes/impl.modeRows", laid_loop_example_neumes_impl_modeRows)] }
def FnExactTonaryDropSaid : Prop := fnExactTonaryDropRow.holds Tryd.pinned (OpenSpec.ofChange fnExactTonaryDropSpec)

/-- ITS FALSE NEIGHBOUR: 'it returns false'. Refute it at one input. -/
def fnExactTonaryDropWrong : ChangeSpec := { name := "fnExactTonaryDrop", vars := ["loop.example/neumes/impl.modeRows"], fn := fun _ => fun
  | [d1, d2, d3, g1] => { results := [.lit (.bool false)], args := [d1, d2, d3], vars := [g1] }
  | _ => none }
def FnExactTonaryDropWrongFalsely : Prop := fnExactTonaryDropRow.holds Tryd.pinned (OpenSpec.ofChange fnExactTonaryDropWrong)

/-- 'laws.FnExactTonaryFind': WHATEVER THE INPUT: true; the input reads as it did. -/
def fnExactTonaryFindSpec : ChangeSpec := { name := "fnExactTonaryFind", vars := ["loop.example/neumes/impl.modeRows", "loop.example/neumes/impl.letterHeights"], fn := fun _ => fun
  | [d1, d2, g1, g2] => { results := [.lit (.bool true)], args := [d1, d2], vars := [g1, g2] }
  | _ => none }
def fnExactTonaryFindRow : OpenClaim := { program := "ytmacedbpdhkagaadoor", sum := "1f31bb1b35d8bf9a1fd6872379a57f0a446c28233641360c87c5122cb648c5e0", func := "loop.example/neumes/laws.FnExactTonaryFind", spec := "fnExactTonaryFind", unfollowed := true, recurses := true, named := ["loop.example/neumes/impl.modeRows", "loop.example/neumes/impl.letterHeights"], apart := false, laid := [("loop.example/neumes/impl.letterHeights", laid_loop_example_neumes_impl_letterHeights), ("loop.example/neumes/impl.modeRows", laid_loop_example_neumes_impl_modeRows)] }
def FnExactTonaryFindSaid : Prop := fnExactTonaryFindRow.holds Tryd.pinned (OpenSpec.ofChange fnExactTonaryFindSpec)

/-- ITS FALSE NEIGHBOUR: 'it returns false'. Refute it at one input. -/
def fnExactTonaryFindWrong : ChangeSpec := { name := "fnExactTonaryFind", vars := ["loop.example/neumes/impl.modeRows", "loop.example/neumes/impl.letterHeights"], fn := fun _ => fun
  | [d1, d2, g1, g2] => { results := [.lit (.bool false)], args := [d1, d2], vars := [g1, g2] }
  | _ => none }
def FnExactTonaryFindWrongFalsely : Prop := fnExactTonaryFindRow.holds Tryd.pinned (OpenSpec.ofChange fnExactTonaryFindWrong)

/-- 'laws.FnTonaryDrop': WHATEVER THE INPUT: true; the input reads as it did. -/
def fnTonaryDropSpec : ChangeSpec := { name := "fnTonaryDrop", vars := ["loop.example/neumes/impl.modeRows"], fn := fun _ => fun
  | [d, g1] => { results := [.lit (.bool true)], args := [d], vars := [g1] }
  | _ => none }
def fnTonaryDropRow : OpenClaim := { program := "ytmacedbpdhkagaadoor", sum := "1f31bb1b35d8bf9a1fd6872379a57f0a446c28233641360c87c5122cb648c5e0", func := "loop.example/neumes/laws.FnTonaryDrop", spec := "fnTonaryDrop", inPlace := ["internal/bytealg.abigen_runtime_cmpstring", "slices.overlaps[loop.example/neumes/impl.Entry]"], unfollowed := true, recurses := true, named := ["loop.example/neumes/impl.modeRows"], apart := false, laid := [("loop.example/neumes/impl.modeRows", laid_loop_example_neumes_impl_modeRows)] }
def FnTonaryDropSaid : Prop := fnTonaryDropRow.holds Tryd.pinned (OpenSpec.ofChange fnTonaryDropSpec)

/-- ITS FALSE NEIGHBOUR: 'it returns false'. Refute it at one input. -/
def fnTonaryDropWrong : ChangeSpec := { name := "fnTonaryDrop", vars := ["loop.example/neumes/impl.modeRows"], fn := fun _ => fun
  | [d, g1] => { results := [.lit (.bool false)], args := [d], vars := [g1] }
  | _ => none }
def FnTonaryDropWrongFalsely : Prop := fnTonaryDropRow.holds Tryd.pinned (OpenSpec.ofChange fnTonaryDropWrong)

/-- 'laws.FnTonaryFind': WHATEVER THE INPUT: true; the input reads as it did. -/
def fnTonaryFindSpec : ChangeSpec := { name := "fnTonaryFind", vars := ["loop.example/neumes/impl.modeRows", "loop.example/neumes/impl.letterHeights"], fn := fun _ => fun
  | [d1, d2, g1, g2] => { results := [.lit (.bool true)], args := [d1, d2], vars := [g1, g2] }
  | _ => none }
def fnTonaryFindRow : OpenClaim := { program := "ytmacedbpdhkagaadoor", sum := "1f31bb1b35d8bf9a1fd6872379a57f0a446c28233641360c87c5122cb648c5e0", func := "loop.example/neumes/laws.FnTonaryFind", spec := "fnTonaryFind", unfollowed := true, recurses := true, named := ["loop.example/neumes/impl.modeRows", "loop.example/neumes/impl.letterHeights"], apart := false, laid := [("loop.example/neumes/impl.letterHeights", laid_loop_example_neumes_impl_letterHeights), ("loop.example/neumes/impl.modeRows", laid_loop_example_neumes_impl_modeRows)] }
def FnTonaryFindSaid : Prop := fnTonaryFindRow.holds Tryd.pinned (OpenSpec.ofChange fnTonaryFindSpec)

/-- ITS FALSE NEIGHBOUR: 'it returns false'. Refute it at one input. -/
def fnTonaryFindWrong : ChangeSpec := { name := "fnTonaryFind", vars := ["loop.example/neumes/impl.modeRows", "loop.example/neumes/impl.letterHeights"], fn := fun _ => fun
  | [d1, d2, g1, g2] => { results := [.lit (.bool false)], args := [d1, d2], vars := [g1, g2] }
  | _ => none }
def FnTonaryFindWrongFalsely : Prop := fnTonaryFindRow.holds Tryd.pinned (OpenSpec.ofChange fnTonaryFindWrong)

/-- 'laws.FnExactTonaryAdd': WHATEVER THE INPUT: true; the input reads as it did. -/
def fnExactTonaryAddSpec : ChangeSpec := { name := "fnExactTonaryAdd", vars := ["loop.example/neumes/impl.modeRows"], fn := fun _ => fun
  | [d1, d2, g1] => { results := [.lit (.bool true)], args := [d1, d2], vars := [g1] }
  | _ => none }
def fnExactTonaryAddRow : OpenClaim := { program := "ytmacedbpdhkagaadoor", sum := "1f31bb1b35d8bf9a1fd6872379a57f0a446c28233641360c87c5122cb648c5e0", func := "loop.example/neumes/laws.FnExactTonaryAdd", spec := "fnExactTonaryAdd", inPlace := ["internal/bytealg.abigen_runtime_cmpstring", "slices.overlaps[loop.example/neumes/impl.Entry]"], unfollowed := true, recurses := true, named := ["loop.example/neumes/impl.modeRows"], apart := false, laid := [("loop.example/neumes/impl.modeRows", laid_loop_example_neumes_impl_modeRows)] }
def FnExactTonaryAddSaid : Prop := fnExactTonaryAddRow.holds Tryd.pinned (OpenSpec.ofChange fnExactTonaryAddSpec)

/-- ITS FALSE NEIGHBOUR: 'it returns false'. Refute it at one input. -/
def fnExactTonaryAddWrong : ChangeSpec := { name := "fnExactTonaryAdd", vars := ["loop.example/neumes/impl.modeRows"], fn := fun _ => fun
  | [d1, d2, g1] => { results := [.lit (.bool false)], args := [d1, d2], vars := [g1] }
  | _ => none }
def FnExactTonaryAddWrongFalsely : Prop := fnExactTonaryAddRow.holds Tryd.pinned (OpenSpec.ofChange fnExactTonaryAddWrong)

/-- 'laws.FnTonaryJoin': WHATEVER THE INPUT: true; the input reads as it did. -/
def fnTonaryJoinSpec : ChangeSpec := { name := "fnTonaryJoin", vars := ["loop.example/neumes/impl.modeRows"], fn := fun _ => fun
  | [d, g1] => { results := [.lit (.bool true)], args := [d], vars := [g1] }
  | _ => none }
def fnTonaryJoinRow : OpenClaim := { program := "ytmacedbpdhkagaadoor", sum := "1f31bb1b35d8bf9a1fd6872379a57f0a446c28233641360c87c5122cb648c5e0", func := "loop.example/neumes/laws.FnTonaryJoin", spec := "fnTonaryJoin", inPlace := ["internal/bytealg.abigen_runtime_cmpstring", "slices.overlaps[loop.example/neumes/impl.Entry]"], unfollowed := true, recurses := true, named := ["loop.example/neumes/impl.modeRows"], apart := false, laid := [("loop.example/neumes/impl.modeRows", laid_loop_example_neumes_impl_modeRows)] }
def FnTonaryJoinSaid : Prop := fnTonaryJoinRow.holds Tryd.pinned (OpenSpec.ofChange fnTonaryJoinSpec)

/-- ITS FALSE NEIGHBOUR: 'it returns false'. Refute it at one input. -/
def fnTonaryJoinWrong : ChangeSpec := { name := "fnTonaryJoin", vars := ["loop.example/neumes/impl.modeRows"], fn := fun _ => fun
  | [d, g1] => { results := [.lit (.bool false)], args := [d], vars := [g1] }
  | _ => none }
def FnTonaryJoinWrongFalsely : Prop := fnTonaryJoinRow.holds Tryd.pinned (OpenSpec.ofChange fnTonaryJoinWrong)

/- THE SECOND FORM. 'bulk': how many values and letters a reading holds, each counted each time it is reached (what is shared counts as often as it is met; a slice's spare places count too). A statement '..UptoSaid' is the law's where the arguments, and the package variables that the reading takes, are together of bulk at most 1048576: NARROWER than '..Said'. Prove '..Said' where nothing that the law and all that it calls make is longer than what came in: it says more and counts as full. Else prove '..UptoSaid'. A law counts once. -/
mutual
def uptoBulk {H : Type} : DataW H → Nat
  | .lit (.string bytes) => bytes.length + 1
  | .lit _ => 1
  | .nil => 1
  | .ptr d => uptoBulk d + 1
  | .slice elems spare => uptoBulkAll elems + uptoBulkAll spare + 1
  | .agg parts => uptoBulkAll parts + 1
  | .iface _ d => uptoBulk d + 1
  | .map entries => uptoBulkEntries entries + 1
  | .held _ => 1
def uptoBulkAll {H : Type} : List (DataW H) → Nat
  | [] => 0
  | d :: r => uptoBulk d + uptoBulkAll r
def uptoBulkEntries {H : Type} : List (Lit × DataW H) → Nat
  | [] => 0
  | x :: r => uptoBulkEntry x + uptoBulkEntries r
def uptoBulkEntry {H : Type} : Lit × DataW H → Nat
  | (.string bytes, d) => bytes.length + uptoBulk d + 1
  | (_, d) => uptoBulk d + 1
 end
def uptoSmall : (H : Type) → List (DataW H) → Bool := fun _ ds => decide (uptoBulkAll ds ≤ 1048576)
def OpenSpec.upto (s : _root_.Go.ChangeSpec) : _root_.Go.OpenSpec := { _root_.Go.OpenSpec.ofChange s with cond := some uptoSmall }

/-- 'laws.FnExactTonaryJoin', WHERE WHAT IT READS IS OF BULK AT MOST 1048576: true; the input reads as it did. -/
def fnExactTonaryJoinUptoRow : OpenClaim := { program := "ytmacedbpdhkagaadoor", sum := "1f31bb1b35d8bf9a1fd6872379a57f0a446c28233641360c87c5122cb648c5e0", func := "loop.example/neumes/laws.FnExactTonaryJoin", spec := "fnExactTonaryJoin", inPlace := ["internal/bytealg.abigen_runtime_cmpstring", "slices.overlaps[loop.example/neumes/impl.Entry]"], unfollowed := true, recurses := true, named := ["loop.example/neumes/impl.modeRows"], apart := false, laid := [("loop.example/neumes/impl.modeRows", laid_loop_example_neumes_impl_modeRows)], narrowed := true }
def FnExactTonaryJoinUptoSaid : Prop := fnExactTonaryJoinUptoRow.holds Tryd.pinned (OpenSpec.upto fnExactTonaryJoinSpec)

/-- 'laws.FnExactTonaryValid', WHERE WHAT IT READS IS OF BULK AT MOST 1048576: true; the input reads as it did. -/
def fnExactTonaryValidUptoRow : OpenClaim := { program := "ytmacedbpdhkagaadoor", sum := "1f31bb1b35d8bf9a1fd6872379a57f0a446c28233641360c87c5122cb648c5e0", func := "loop.example/neumes/laws.FnExactTonaryValid", spec := "fnExactTonaryValid", named := ["loop.example/neumes/impl.modeRows"], apart := false, laid := [("loop.example/neumes/impl.modeRows", laid_loop_example_neumes_impl_modeRows)], narrowed := true }
def FnExactTonaryValidUptoSaid : Prop := fnExactTonaryValidUptoRow.holds Tryd.pinned (OpenSpec.upto fnExactTonaryValidSpec)

/-- 'laws.FnTonary', WHERE WHAT IT READS IS OF BULK AT MOST 1048576: true; the input reads as it did. -/
def fnTonaryUptoRow : OpenClaim := { program := "ytmacedbpdhkagaadoor", sum := "1f31bb1b35d8bf9a1fd6872379a57f0a446c28233641360c87c5122cb648c5e0", func := "loop.example/neumes/laws.FnTonary", spec := "fnTonary", named := ["loop.example/neumes/impl.modeRows"], apart := false, laid := [("loop.example/neumes/impl.modeRows", laid_loop_example_neumes_impl_modeRows)], narrowed := true }
def FnTonaryUptoSaid : Prop := fnTonaryUptoRow.holds Tryd.pinned (OpenSpec.upto fnTonarySpec)

/-- 'laws.FnExactTonaryMode', WHERE WHAT IT READS IS OF BULK AT MOST 1048576: true; the input reads as it did. -/
def fnExactTonaryModeUptoRow : OpenClaim := { program := "ytmacedbpdhkagaadoor", sum := "1f31bb1b35d8bf9a1fd6872379a57f0a446c28233641360c87c5122cb648c5e0", func := "loop.example/neumes/laws.FnExactTonaryMode", spec := "fnExactTonaryMode", named := ["loop.example/neumes/impl.modeRows"], apart := false, laid := [("loop.example/neumes/impl.modeRows", laid_loop_example_neumes_impl_modeRows)], narrowed := true }
def FnExactTonaryModeUptoSaid : Prop := fnExactTonaryModeUptoRow.holds Tryd.pinned (OpenSpec.upto fnExactTonaryModeSpec)

/-- 'laws.FnExactTonaryDrop', WHERE WHAT IT READS IS OF BULK AT MOST 1048576: true; the input reads as it did. -/
def fnExactTonaryDropUptoRow : OpenClaim := { program := "ytmacedbpdhkagaadoor", sum := "1f31bb1b35d8bf9a1fd6872379a57f0a446c28233641360c87c5122cb648c5e0", func := "loop.example/neumes/laws.FnExactTonaryDrop", spec := "fnExactTonaryDrop", inPlace := ["internal/bytealg.abigen_runtime_cmpstring"], unfollowed := true, recurses := true, named := ["loop.example/neumes/impl.modeRows"], apart := false, laid := [("loop.example/neumes/impl.modeRows", laid_loop_example_neumes_impl_modeRows)], narrowed := true }
def FnExactTonaryDropUptoSaid : Prop := fnExactTonaryDropUptoRow.holds Tryd.pinned (OpenSpec.upto fnExactTonaryDropSpec)

/-- 'laws.FnExactTonaryFind', WHERE WHAT IT READS IS OF BULK AT MOST 1048576: true; the input reads as it did. -/
def fnExactTonaryFindUptoRow : OpenClaim := { program := "ytmacedbpdhkagaadoor", sum := "1f31bb1b35d8bf9a1fd6872379a57f0a446c28233641360c87c5122cb648c5e0", func := "loop.example/neumes/laws.FnExactTonaryFind", spec := "fnExactTonaryFind", unfollowed := true, recurses := true, named := ["loop.example/neumes/impl.modeRows", "loop.example/neumes/impl.letterHeights"], apart := false, laid := [("loop.example/neumes/impl.letterHeights", laid_loop_example_neumes_impl_letterHeights), ("loop.example/neumes/impl.modeRows", laid_loop_example_neumes_impl_modeRows)], narrowed := true }
def FnExactTonaryFindUptoSaid : Prop := fnExactTonaryFindUptoRow.holds Tryd.pinned (OpenSpec.upto fnExactTonaryFindSpec)

/-- 'laws.FnTonaryDrop', WHERE WHAT IT READS IS OF BULK AT MOST 1048576: true; the input reads as it did. -/
def fnTonaryDropUptoRow : OpenClaim := { program := "ytmacedbpdhkagaadoor", sum := "1f31bb1b35d8bf9a1fd6872379a57f0a446c28233641360c87c5122cb648c5e0", func := "loop.example/neumes/laws.FnTonaryDrop", spec := "fnTonaryDrop", inPlace := ["internal/bytealg.abigen_runtime_cmpstring", "slices.overlaps[loop.example/neumes/impl.Entry]"], unfollowed := true, recurses := true, named := ["loop.example/neumes/impl.modeRows"], apart := false, laid := [("loop.example/neumes/impl.modeRows", laid_loop_example_neumes_impl_modeRows)], narrowed := true }
def FnTonaryDropUptoSaid : Prop := fnTonaryDropUptoRow.holds Tryd.pinned (OpenSpec.upto fnTonaryDropSpec)

/-- 'laws.FnTonaryFind', WHERE WHAT IT READS IS OF BULK AT MOST 1048576: true; the input reads as it did. -/
def fnTonaryFindUptoRow : OpenClaim := { program := "ytmacedbpdhkagaadoor", sum := "1f31bb1b35d8bf9a1fd6872379a57f0a446c28233641360c87c5122cb648c5e0", func := "loop.example/neumes/laws.FnTonaryFind", spec := "fnTonaryFind", unfollowed := true, recurses := true, named := ["loop.example/neumes/impl.modeRows", "loop.example/neumes/impl.letterHeights"], apart := false, laid := [("loop.example/neumes/impl.letterHeights", laid_loop_example_neumes_impl_letterHeights), ("loop.example/neumes/impl.modeRows", laid_loop_example_neumes_impl_modeRows)], narrowed := true }
def FnTonaryFindUptoSaid : Prop := fnTonaryFindUptoRow.holds Tryd.pinned (OpenSpec.upto fnTonaryFindSpec)

/-- 'laws.FnExactTonaryAdd', WHERE WHAT IT READS IS OF BULK AT MOST 1048576: true; the input reads as it did. -/
def fnExactTonaryAddUptoRow : OpenClaim := { program := "ytmacedbpdhkagaadoor", sum := "1f31bb1b35d8bf9a1fd6872379a57f0a446c28233641360c87c5122cb648c5e0", func := "loop.example/neumes/laws.FnExactTonaryAdd", spec := "fnExactTonaryAdd", inPlace := ["internal/bytealg.abigen_runtime_cmpstring", "slices.overlaps[loop.example/neumes/impl.Entry]"], unfollowed := true, recurses := true, named := ["loop.example/neumes/impl.modeRows"], apart := false, laid := [("loop.example/neumes/impl.modeRows", laid_loop_example_neumes_impl_modeRows)], narrowed := true }
def FnExactTonaryAddUptoSaid : Prop := fnExactTonaryAddUptoRow.holds Tryd.pinned (OpenSpec.upto fnExactTonaryAddSpec)

/-- 'laws.FnTonaryJoin', WHERE WHAT IT READS IS OF BULK AT MOST 1048576: true; the input reads as it did. -/
def fnTonaryJoinUptoRow : OpenClaim := { program := "ytmacedbpdhkagaadoor", sum := "1f31bb1b35d8bf9a1fd6872379a57f0a446c28233641360c87c5122cb648c5e0", func := "loop.example/neumes/laws.FnTonaryJoin", spec := "fnTonaryJoin", inPlace := ["internal/bytealg.abigen_runtime_cmpstring", "slices.overlaps[loop.example/neumes/impl.Entry]"], unfollowed := true, recurses := true, named := ["loop.example/neumes/impl.modeRows"], apart := false, laid := [("loop.example/neumes/impl.modeRows", laid_loop_example_neumes_impl_modeRows)], narrowed := true }
def FnTonaryJoinUptoSaid : Prop := fnTonaryJoinUptoRow.holds Tryd.pinned (OpenSpec.upto fnTonaryJoinSpec)

end Rows
end Go.Proofs.YtmacedbpdhkagaaDoor
