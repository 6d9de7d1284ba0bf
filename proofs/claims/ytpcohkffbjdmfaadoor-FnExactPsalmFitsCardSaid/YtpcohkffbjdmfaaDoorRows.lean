/-
  NARROWER THAN 'FOR EVERY INPUT', by the rows' own cells (each row's printed sentence says how): FnExactPsalmMove: laid · FnExactPsalmFits: laid · FnReadRead: laid · FnSingMany: laid · FnExactSingBest: laid · FnContour: laid.
  DERIVED. THE GIVEN ROWS OF THIS SEAT. 6 by the template 'for every input the law returns true; each argument reads behind the call as it read before'; 0 by the template 'total and deterministic' (their statements: YtpcohkffbjdmfaaDoorTotals.lean).
  GIVEN WITH THE SEED: the statements are not yours to turn. If you find one false, say at which input.
  Laid BY PROGRAM, IN A SANDBOX (cutbox-rows.mjs): the forced cells as the released guide's own fill.sh prints them over the translation 65cb970d05007d98… (all of the seat's roots in one cut). By AI agents, Wed Nov 11 2026. No macro, syntax, notation, axiom, sorry.
-/
import Derived.Test.YtpcohkffbjdmfaaDoorChecked
import GoSem.PinnedTables
import GoSem.Claim
import GoSem.ClaimJoined
import GoSem.ClaimMapViews
import Derived.JoinedTies
import Derived.KernelRfl
namespace Go.Proofs.YtpcohkffbjdmfaaDoor
/- THE CELL 'sum', in the pinned program and in every row, IS THE sha256 OF THE DUMP (.gsa) THAT YtpcohkffbjdmfaaDoorProg.lean LOADS. Nothing in Lean hashes anything: it is a label: what it is worth is what the hold of that sum in a sandbox is worth. -/
noncomputable def Tryd.pinned : Pinned := { name := "ytpcohkffbjdmfaadoor", sum := "65cb970d05007d982519f8adb3fd63cc42bc37562926e23f8cdc8540eec18eae", checked := Tryd.checked }
namespace Rows
def none {H : Type} : Left H := { results := [], args := [] }

/- WHAT THE LISTED PACKAGE-LEVEL VARIABLES READ AS WHEN THE CALL BEGINS. Each datum BY PROGRAM (the guide's laid-datum.mjs) off the statement by which the dump's own 'gosem.cut.vars' lays the variable. In a bare row this is a premise. The card (YtpcohkffbjdmfaaDoorCards.lean) ties it to the program's text. -/
def laid_loop_example_neumes_impl_letterHeights {H : Type} : DataW H := .agg [.lit (.int .i64 0), .lit (.int .i64 2), .lit (.int .i64 4), .lit (.int .i64 5), .lit (.int .i64 7), .lit (.int .i64 9), .lit (.int .i64 10)]
def laid_unicode_utf8_acceptRanges {H : Type} : DataW H := .agg [.agg [.lit (.int .u8 128), .lit (.int .u8 191)], .agg [.lit (.int .u8 160), .lit (.int .u8 191)], .agg [.lit (.int .u8 128), .lit (.int .u8 159)], .agg [.lit (.int .u8 144), .lit (.int .u8 191)], .agg [.lit (.int .u8 128), .lit (.int .u8 143)], .agg [.lit (.int .u8 0), .lit (.int .u8 0)], .agg [.lit (.int .u8 0), .lit (.int .u8 0)], .agg [.lit (.int .u8 0), .lit (.int .u8 0)], .agg [.lit (.int .u8 0), .lit (.int .u8 0)], .agg [.lit (.int .u8 0), .lit (.int .u8 0)], .agg [.lit (.int .u8 0), .lit (.int .u8 0)], .agg [.lit (.int .u8 0), .lit (.int .u8 0)], .agg [.lit (.int .u8 0), .lit (.int .u8 0)], .agg [.lit (.int .u8 0), .lit (.int .u8 0)], .agg [.lit (.int .u8 0), .lit (.int .u8 0)], .agg [.lit (.int .u8 0), .lit (.int .u8 0)]]
/-- One of Go's own tables, pinned by name: the form's constant. -/
def laid_unicode_utf8_first : DataW Unit := Go.Pinned.utf8First
def laid_loop_example_neumes_impl_letterNames {H : Type} : DataW H := .agg [.lit (.string [71]), .lit (.string [65]), .lit (.string [66]), .lit (.string [67]), .lit (.string [68]), .lit (.string [69]), .lit (.string [70])]

/-- 'laws.FnExactPsalmMove': WHATEVER THE INPUT: true; the input reads as it did. -/
def fnExactPsalmMoveSpec : ChangeSpec := { name := "fnExactPsalmMove", vars := ["loop.example/neumes/impl.letterHeights"], fn := fun _ => fun
  | [d1, d2, g1] => { results := [.lit (.bool true)], args := [d1, d2], vars := [g1] }
  | _ => none }
def fnExactPsalmMoveRow : OpenClaim := { program := "ytpcohkffbjdmfaadoor", sum := "65cb970d05007d982519f8adb3fd63cc42bc37562926e23f8cdc8540eec18eae", func := "loop.example/neumes/laws.FnExactPsalmMove", spec := "fnExactPsalmMove", named := ["loop.example/neumes/impl.letterHeights"], apart := false, laid := [("loop.example/neumes/impl.letterHeights", laid_loop_example_neumes_impl_letterHeights)] }
def FnExactPsalmMoveSaid : Prop := fnExactPsalmMoveRow.holds Tryd.pinned (OpenSpec.ofChange fnExactPsalmMoveSpec)

/-- ITS FALSE NEIGHBOUR: 'it returns false'. Refute it at one input. -/
def fnExactPsalmMoveWrong : ChangeSpec := { name := "fnExactPsalmMove", vars := ["loop.example/neumes/impl.letterHeights"], fn := fun _ => fun
  | [d1, d2, g1] => { results := [.lit (.bool false)], args := [d1, d2], vars := [g1] }
  | _ => none }
def FnExactPsalmMoveWrongFalsely : Prop := fnExactPsalmMoveRow.holds Tryd.pinned (OpenSpec.ofChange fnExactPsalmMoveWrong)

/-- 'laws.FnExactPsalmFits': WHATEVER THE INPUT: true; the input reads as it did. -/
def fnExactPsalmFitsSpec : ChangeSpec := { name := "fnExactPsalmFits", fn := fun _ => fun
  | [d1, d2] => { results := [.lit (.bool true)], args := [d1, d2] }
  | _ => none }
def fnExactPsalmFitsRow : OpenClaim := { program := "ytpcohkffbjdmfaadoor", sum := "65cb970d05007d982519f8adb3fd63cc42bc37562926e23f8cdc8540eec18eae", func := "loop.example/neumes/laws.FnExactPsalmFits", spec := "fnExactPsalmFits", inPlace := ["internal/bytealg.IndexByteString", "internal/bytealg.IndexString"], unfollowed := true, recurses := true, named := ["internal/bytealg.MaxLen", "unicode/utf8.first", "unicode/utf8.acceptRanges"], apart := false, laid := [("unicode/utf8.acceptRanges", laid_unicode_utf8_acceptRanges), ("unicode/utf8.first", laid_unicode_utf8_first)] }
def FnExactPsalmFitsSaid : Prop := fnExactPsalmFitsRow.holds Tryd.pinned (OpenSpec.ofChange fnExactPsalmFitsSpec)

/-- ITS FALSE NEIGHBOUR: 'it returns false'. Refute it at one input. -/
def fnExactPsalmFitsWrong : ChangeSpec := { name := "fnExactPsalmFits", fn := fun _ => fun
  | [d1, d2] => { results := [.lit (.bool false)], args := [d1, d2] }
  | _ => none }
def FnExactPsalmFitsWrongFalsely : Prop := fnExactPsalmFitsRow.holds Tryd.pinned (OpenSpec.ofChange fnExactPsalmFitsWrong)

/-- 'laws.FnReadRead': WHATEVER THE INPUT: true; the input reads as it did. -/
def fnReadReadSpec : ChangeSpec := { name := "fnReadRead", vars := ["loop.example/neumes/impl.letterHeights"], fn := fun _ => fun
  | [d, g1] => { results := [.lit (.bool true)], args := [d], vars := [g1] }
  | _ => none }
def fnReadReadRow : OpenClaim := { program := "ytpcohkffbjdmfaadoor", sum := "65cb970d05007d982519f8adb3fd63cc42bc37562926e23f8cdc8540eec18eae", func := "loop.example/neumes/laws.FnReadRead", spec := "fnReadRead", unfollowed := true, recurses := true, named := ["loop.example/neumes/impl.letterHeights"], apart := false, laid := [("loop.example/neumes/impl.letterHeights", laid_loop_example_neumes_impl_letterHeights)] }
def FnReadReadSaid : Prop := fnReadReadRow.holds Tryd.pinned (OpenSpec.ofChange fnReadReadSpec)

/-- ITS FALSE NEIGHBOUR: 'it returns false'. Refute it at one input. -/
def fnReadReadWrong : ChangeSpec := { name := "fnReadRead", vars := ["loop.example/neumes/impl.letterHeights"], fn := fun _ => fun
  | [d, g1] => { results := [.lit (.bool false)], args := [d], vars := [g1] }
  | _ => none }
def FnReadReadWrongFalsely : Prop := fnReadReadRow.holds Tryd.pinned (OpenSpec.ofChange fnReadReadWrong)

/-- 'laws.FnSingMany': WHATEVER THE INPUT: true; the input reads as it did. -/
def fnSingManySpec : ChangeSpec := { name := "fnSingMany", vars := ["loop.example/neumes/impl.letterNames"], fn := fun _ => fun
  | [d, g1] => { results := [.lit (.bool true)], args := [d], vars := [g1] }
  | _ => none }
def fnSingManyRow : OpenClaim := { program := "ytpcohkffbjdmfaadoor", sum := "65cb970d05007d982519f8adb3fd63cc42bc37562926e23f8cdc8540eec18eae", func := "loop.example/neumes/laws.FnSingMany", spec := "fnSingMany", named := ["loop.example/neumes/impl.letterNames"], apart := false, laid := [("loop.example/neumes/impl.letterNames", laid_loop_example_neumes_impl_letterNames)] }
def FnSingManySaid : Prop := fnSingManyRow.holds Tryd.pinned (OpenSpec.ofChange fnSingManySpec)

/-- ITS FALSE NEIGHBOUR: 'it returns false'. Refute it at one input. -/
def fnSingManyWrong : ChangeSpec := { name := "fnSingMany", vars := ["loop.example/neumes/impl.letterNames"], fn := fun _ => fun
  | [d, g1] => { results := [.lit (.bool false)], args := [d], vars := [g1] }
  | _ => none }
def FnSingManyWrongFalsely : Prop := fnSingManyRow.holds Tryd.pinned (OpenSpec.ofChange fnSingManyWrong)

/-- 'laws.FnExactSingBest': WHATEVER THE INPUT: true; the input reads as it did. -/
def fnExactSingBestSpec : ChangeSpec := { name := "fnExactSingBest", vars := ["loop.example/neumes/impl.letterNames"], fn := fun _ => fun
  | [d, g1] => { results := [.lit (.bool true)], args := [d], vars := [g1] }
  | _ => none }
def fnExactSingBestRow : OpenClaim := { program := "ytpcohkffbjdmfaadoor", sum := "65cb970d05007d982519f8adb3fd63cc42bc37562926e23f8cdc8540eec18eae", func := "loop.example/neumes/laws.FnExactSingBest", spec := "fnExactSingBest", named := ["loop.example/neumes/impl.letterNames"], apart := false, laid := [("loop.example/neumes/impl.letterNames", laid_loop_example_neumes_impl_letterNames)] }
def FnExactSingBestSaid : Prop := fnExactSingBestRow.holds Tryd.pinned (OpenSpec.ofChange fnExactSingBestSpec)

/-- ITS FALSE NEIGHBOUR: 'it returns false'. Refute it at one input. -/
def fnExactSingBestWrong : ChangeSpec := { name := "fnExactSingBest", vars := ["loop.example/neumes/impl.letterNames"], fn := fun _ => fun
  | [d, g1] => { results := [.lit (.bool false)], args := [d], vars := [g1] }
  | _ => none }
def FnExactSingBestWrongFalsely : Prop := fnExactSingBestRow.holds Tryd.pinned (OpenSpec.ofChange fnExactSingBestWrong)

/-- 'laws.FnContour': WHATEVER THE INPUT: true; the input reads as it did. -/
def fnContourSpec : ChangeSpec := { name := "fnContour", vars := ["loop.example/neumes/impl.letterHeights"], fn := fun _ => fun
  | [d, g1] => { results := [.lit (.bool true)], args := [d], vars := [g1] }
  | _ => none }
def fnContourRow : OpenClaim := { program := "ytpcohkffbjdmfaadoor", sum := "65cb970d05007d982519f8adb3fd63cc42bc37562926e23f8cdc8540eec18eae", func := "loop.example/neumes/laws.FnContour", spec := "fnContour", inPlace := ["internal/bytealg.IndexByteString", "internal/bytealg.IndexString"], unfollowed := true, recurses := true, named := ["loop.example/neumes/impl.letterHeights", "unicode/utf8.first", "unicode/utf8.acceptRanges", "internal/bytealg.MaxLen"], apart := false, laid := [("unicode/utf8.acceptRanges", laid_unicode_utf8_acceptRanges), ("loop.example/neumes/impl.letterHeights", laid_loop_example_neumes_impl_letterHeights), ("unicode/utf8.first", laid_unicode_utf8_first)] }
def FnContourSaid : Prop := fnContourRow.holds Tryd.pinned (OpenSpec.ofChange fnContourSpec)

/-- ITS FALSE NEIGHBOUR: 'it returns false'. Refute it at one input. -/
def fnContourWrong : ChangeSpec := { name := "fnContour", vars := ["loop.example/neumes/impl.letterHeights"], fn := fun _ => fun
  | [d, g1] => { results := [.lit (.bool false)], args := [d], vars := [g1] }
  | _ => none }
def FnContourWrongFalsely : Prop := fnContourRow.holds Tryd.pinned (OpenSpec.ofChange fnContourWrong)

/- THE SECOND FORM. 'bulk': how many values and letters a reading holds, each counted each time it is reached (what is shared counts as often as it is met; a slice's spare places count too). A statement '..UptoSaid' is the law's where the arguments, and the package variables that the reading takes, are together of bulk at most 1048576: NARROWER than '..Said'. Prove '..Said' where nothing that the law and all that it calls make is longer than what came in: it says more and counts as full. Else prove '..UptoSaid'. A law counts once. -/
mutual
def uptoBulk {H : Type} : DataW H → Nat
  | .lit (.string bytes) => bytes.length + 1
  | .lit _ => 1
  | .nil => 1
  | .ptr d => uptoBulk d + 1
  | .slice elems spare => uptoBulkAll elems + uptoBulkAll spare + 1
  | .agg parts => uptoBulkAll parts + 1
  | .iface _ d => uptoBulk d + 1
  | .map entries => uptoBulkEntries entries + 1
  | .held _ => 1
def uptoBulkAll {H : Type} : List (DataW H) → Nat
  | [] => 0
  | d :: r => uptoBulk d + uptoBulkAll r
def uptoBulkEntries {H : Type} : List (Lit × DataW H) → Nat
  | [] => 0
  | x :: r => uptoBulkEntry x + uptoBulkEntries r
def uptoBulkEntry {H : Type} : Lit × DataW H → Nat
  | (.string bytes, d) => bytes.length + uptoBulk d + 1
  | (_, d) => uptoBulk d + 1
 end
def uptoSmall : (H : Type) → List (DataW H) → Bool := fun _ ds => decide (uptoBulkAll ds ≤ 1048576)
def OpenSpec.upto (s : _root_.Go.ChangeSpec) : _root_.Go.OpenSpec := { _root_.Go.OpenSpec.ofChange s with cond := some uptoSmall }

/-- 'laws.FnExactPsalmMove', WHERE WHAT IT READS IS OF BULK AT MOST 1048576: true; the input reads as it did. -/
def fnExactPsalmMoveUptoRow : OpenClaim := { program := "ytpcohkffbjdmfaadoor", sum := "65cb970d05007d982519f8adb3fd63cc42bc37562926e23f8cdc8540eec18eae", func := "loop.example/neumes/laws.FnExactPsalmMove", spec := "fnExactPsalmMove", named := ["loop.example/neumes/impl.letterHeights"], apart := false, laid := [("loop.example/neumes/impl.letterHeights", laid_loop_example_neumes_impl_letterHeights)], narrowed := true }
def FnExactPsalmMoveUptoSaid : Prop := fnExactPsalmMoveUptoRow.holds Tryd.pinned (OpenSpec.upto fnExactPsalmMoveSpec)

/-- 'laws.FnExactPsalmFits', WHERE WHAT IT READS IS OF BULK AT MOST 1048576: true; the input reads as it did. -/
def fnExactPsalmFitsUptoRow : OpenClaim := { program := "ytpcohkffbjdmfaadoor", sum := "65cb970d05007d982519f8adb3fd63cc42bc37562926e23f8cdc8540eec18eae", func := "loop.example/neumes/laws.FnExactPsalmFits", spec := "fnExactPsalmFits", inPlace := ["internal/bytealg.IndexByteString", "internal/bytealg.IndexString"], unfollowed := true, recurses := true, named := ["internal/bytealg.MaxLen", "unicode/utf8.first", "unicode/utf8.acceptRanges"], apart := false, laid := [("unicode/utf8.acceptRanges", laid_unicode_utf8_acceptRanges), ("unicode/utf8.first", laid_unicode_utf8_first)], narrowed := true }
def FnExactPsalmFitsUptoSaid : Prop := fnExactPsalmFitsUptoRow.holds Tryd.pinned (OpenSpec.upto fnExactPsalmFitsSpec)

/-- 'laws.FnReadRead', WHERE WHAT IT READS IS OF BULK AT MOST 1048576: true; the input reads as it did. -/
def fnReadReadUptoRow : OpenClaim := { program := "ytpcohkffbjdmfaadoor", sum := "65cb970d05007d982519f8adb3fd63cc42bc37562926e23f8cdc8540eec18eae", func := "loop.example/neumes/laws.FnReadRead", spec := "fnReadRead", unfollowed := true, recurses := true, named := ["loop.example/neumes/impl.letterHeights"], apart := false, laid := [("loop.example/neumes/impl.letterHeights", laid_loop_example_neumes_impl_letterHeights)], narrowed := true }
def FnReadReadUptoSaid : Prop := fnReadReadUptoRow.holds Tryd.pinned (OpenSpec.upto fnReadReadSpec)

/-- 'laws.FnSingMany', WHERE WHAT IT READS IS OF BULK AT MOST 1048576: true; the input reads as it did. -/
def fnSingManyUptoRow : OpenClaim := { program := "ytpcohkffbjdmfaadoor", sum := "65cb970d05007d982519f8adb3fd63cc42bc37562926e23f8cdc8540eec18eae", func := "loop.example/neumes/laws.FnSingMany", spec := "fnSingMany", named := ["loop.example/neumes/impl.letterNames"], apart := false, laid := [("loop.example/neumes/impl.letterNames", laid_loop_example_neumes_impl_letterNames)], narrowed := true }
def FnSingManyUptoSaid : Prop := fnSingManyUptoRow.holds Tryd.pinned (OpenSpec.upto fnSingManySpec)

/-- 'laws.FnExactSingBest', WHERE WHAT IT READS IS OF BULK AT MOST 1048576: true; the input reads as it did. -/
def fnExactSingBestUptoRow : OpenClaim := { program := "ytpcohkffbjdmfaadoor", sum := "65cb970d05007d982519f8adb3fd63cc42bc37562926e23f8cdc8540eec18eae", func := "loop.example/neumes/laws.FnExactSingBest", spec := "fnExactSingBest", named := ["loop.example/neumes/impl.letterNames"], apart := false, laid := [("loop.example/neumes/impl.letterNames", laid_loop_example_neumes_impl_letterNames)], narrowed := true }
def FnExactSingBestUptoSaid : Prop := fnExactSingBestUptoRow.holds Tryd.pinned (OpenSpec.upto fnExactSingBestSpec)

/-- 'laws.FnContour', WHERE WHAT IT READS IS OF BULK AT MOST 1048576: true; the input reads as it did. -/
def fnContourUptoRow : OpenClaim := { program := "ytpcohkffbjdmfaadoor", sum := "65cb970d05007d982519f8adb3fd63cc42bc37562926e23f8cdc8540eec18eae", func := "loop.example/neumes/laws.FnContour", spec := "fnContour", inPlace := ["internal/bytealg.IndexByteString", "internal/bytealg.IndexString"], unfollowed := true, recurses := true, named := ["loop.example/neumes/impl.letterHeights", "unicode/utf8.first", "unicode/utf8.acceptRanges", "internal/bytealg.MaxLen"], apart := false, laid := [("unicode/utf8.acceptRanges", laid_unicode_utf8_acceptRanges), ("loop.example/neumes/impl.letterHeights", laid_loop_example_neumes_impl_letterHeights), ("unicode/utf8.first", laid_unicode_utf8_first)], narrowed := true }
def FnContourUptoSaid : Prop := fnContourUptoRow.holds Tryd.pinned (OpenSpec.upto fnContourSpec)

end Rows
end Go.Proofs.YtpcohkffbjdmfaaDoor
