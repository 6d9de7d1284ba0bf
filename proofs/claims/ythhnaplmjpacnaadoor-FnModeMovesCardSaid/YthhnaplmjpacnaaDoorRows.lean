/-
  NARROWER THAN 'FOR EVERY INPUT', by the rows' own cells (each row's printed sentence says how): FnModeIn: laid · FnExactMelodyMove: laid · FnModeLikely: laid · FnMelodyMove: laid · FnMelodySame: laid · FnExactToneInterval: laid · FnModeMoves: laid · FnExactModeMoves: laid · FnExactPsalmMove: laid · FnInterval: laid · FnIntervalSemis: laid.
  DERIVED. THE GIVEN ROWS OF THIS SEAT. 11 by the template 'for every input the law returns true; each argument reads behind the call as it read before'; 0 by the template 'total and deterministic' (their statements: YthhnaplmjpacnaaDoorTotals.lean).
  GIVEN WITH THE SEED: the statements are not yours to turn. If you find one false, say at which input.
  Laid BY PROGRAM, IN A SANDBOX (cutbox-rows.mjs): the forced cells as the released guide's own fill.sh prints them over the translation 508ee2a148c78b31… (all of the seat's roots in one cut). By AI agents, Wed Nov 11 2026. No macro, syntax, notation, axiom, sorry.
-/
import Derived.Test.YthhnaplmjpacnaaDoorChecked
import GoSem.Claim
import GoSem.ClaimJoined
import GoSem.ClaimMapViews
import Derived.JoinedTies
import Derived.KernelRfl
namespace Go.Proofs.YthhnaplmjpacnaaDoor
/- THE CELL 'sum', in the pinned program and in every row, IS THE sha256 OF THE DUMP (.gsa) THAT YthhnaplmjpacnaaDoorProg.lean LOADS. Nothing in Lean hashes anything: it is a label: what it is worth is what the hold of that sum in a sandbox is worth. -/
noncomputable def Tryd.pinned : Pinned := { name := "ythhnaplmjpacnaadoor", sum := "508ee2a148c78b313cb15577cc8e00f610cd27288d3a13d44a7a0127b2a0fd78", checked := Tryd.checked }
namespace Rows
def none {H : Type} : Left H := { results := [], args := [] }

/- WHAT THE LISTED PACKAGE-LEVEL VARIABLES READ AS WHEN THE CALL BEGINS. Each datum BY PROGRAM (the guide's laid-datum.mjs) off the statement by which the dump's own 'gosem.cut.vars' lays the variable. In a bare row this is a premise. The card (YthhnaplmjpacnaaDoorCards.lean) ties it to the program's text. -/
def laid_loop_example_neumes_impl_modeRows {H : Type} : DataW H := .agg [.agg [.lit (.int .i64 4), .lit (.int .i64 8), .lit (.int .i64 3), .lit (.int .i64 12)], .agg [.lit (.int .i64 4), .lit (.int .i64 6), .lit (.int .i64 0), .lit (.int .i64 9)], .agg [.lit (.int .i64 5), .lit (.int .i64 10), .lit (.int .i64 4), .lit (.int .i64 13)], .agg [.lit (.int .i64 5), .lit (.int .i64 8), .lit (.int .i64 1), .lit (.int .i64 10)], .agg [.lit (.int .i64 6), .lit (.int .i64 10), .lit (.int .i64 5), .lit (.int .i64 14)], .agg [.lit (.int .i64 6), .lit (.int .i64 8), .lit (.int .i64 2), .lit (.int .i64 11)], .agg [.lit (.int .i64 7), .lit (.int .i64 11), .lit (.int .i64 6), .lit (.int .i64 15)], .agg [.lit (.int .i64 7), .lit (.int .i64 10), .lit (.int .i64 3), .lit (.int .i64 12)]]
def laid_loop_example_neumes_impl_letterHeights {H : Type} : DataW H := .agg [.lit (.int .i64 0), .lit (.int .i64 2), .lit (.int .i64 4), .lit (.int .i64 5), .lit (.int .i64 7), .lit (.int .i64 9), .lit (.int .i64 10)]
def laid_math_bits_deBruijn32tab {H : Type} : DataW H := .agg [.lit (.int .u8 0), .lit (.int .u8 1), .lit (.int .u8 28), .lit (.int .u8 2), .lit (.int .u8 29), .lit (.int .u8 14), .lit (.int .u8 24), .lit (.int .u8 3), .lit (.int .u8 30), .lit (.int .u8 22), .lit (.int .u8 20), .lit (.int .u8 15), .lit (.int .u8 25), .lit (.int .u8 17), .lit (.int .u8 4), .lit (.int .u8 8), .lit (.int .u8 31), .lit (.int .u8 27), .lit (.int .u8 13), .lit (.int .u8 23), .lit (.int .u8 21), .lit (.int .u8 19), .lit (.int .u8 16), .lit (.int .u8 7), .lit (.int .u8 26), .lit (.int .u8 12), .lit (.int .u8 18), .lit (.int .u8 6), .lit (.int .u8 11), .lit (.int .u8 5), .lit (.int .u8 10), .lit (.int .u8 9)]
def laid_math_bits_deBruijn64tab {H : Type} : DataW H := .agg [.lit (.int .u8 0), .lit (.int .u8 1), .lit (.int .u8 56), .lit (.int .u8 2), .lit (.int .u8 57), .lit (.int .u8 49), .lit (.int .u8 28), .lit (.int .u8 3), .lit (.int .u8 61), .lit (.int .u8 58), .lit (.int .u8 42), .lit (.int .u8 50), .lit (.int .u8 38), .lit (.int .u8 29), .lit (.int .u8 17), .lit (.int .u8 4), .lit (.int .u8 62), .lit (.int .u8 47), .lit (.int .u8 59), .lit (.int .u8 36), .lit (.int .u8 45), .lit (.int .u8 43), .lit (.int .u8 51), .lit (.int .u8 22), .lit (.int .u8 53), .lit (.int .u8 39), .lit (.int .u8 33), .lit (.int .u8 30), .lit (.int .u8 24), .lit (.int .u8 18), .lit (.int .u8 12), .lit (.int .u8 5), .lit (.int .u8 63), .lit (.int .u8 55), .lit (.int .u8 48), .lit (.int .u8 27), .lit (.int .u8 60), .lit (.int .u8 41), .lit (.int .u8 37), .lit (.int .u8 16), .lit (.int .u8 46), .lit (.int .u8 35), .lit (.int .u8 44), .lit (.int .u8 21), .lit (.int .u8 52), .lit (.int .u8 32), .lit (.int .u8 23), .lit (.int .u8 11), .lit (.int .u8 54), .lit (.int .u8 26), .lit (.int .u8 40), .lit (.int .u8 15), .lit (.int .u8 34), .lit (.int .u8 20), .lit (.int .u8 31), .lit (.int .u8 10), .lit (.int .u8 25), .lit (.int .u8 14), .lit (.int .u8 19), .lit (.int .u8 9), .lit (.int .u8 13), .lit (.int .u8 8), .lit (.int .u8 7), .lit (.int .u8 6)]
def laid_internal_strconv_uint64pow10 {H : Type} : DataW H := .agg [.lit (.int .u64 1), .lit (.int .u64 10), .lit (.int .u64 100), .lit (.int .u64 1000), .lit (.int .u64 10000), .lit (.int .u64 100000), .lit (.int .u64 1000000), .lit (.int .u64 10000000), .lit (.int .u64 100000000), .lit (.int .u64 1000000000), .lit (.int .u64 10000000000), .lit (.int .u64 100000000000), .lit (.int .u64 1000000000000), .lit (.int .u64 10000000000000), .lit (.int .u64 100000000000000), .lit (.int .u64 1000000000000000), .lit (.int .u64 10000000000000000), .lit (.int .u64 100000000000000000), .lit (.int .u64 1000000000000000000), .lit (.int .u64 10000000000000000000)]
def laid_loop_example_neumes_impl_leastSemis {H : Type} : DataW H := .agg [.lit (.int .i64 0), .lit (.int .i64 1), .lit (.int .i64 3), .lit (.int .i64 5), .lit (.int .i64 7), .lit (.int .i64 8), .lit (.int .i64 10)]

/-- 'laws.FnModeIn': WHATEVER THE INPUT: true; the input reads as it did. -/
def fnModeInSpec : ChangeSpec := { name := "fnModeIn", vars := ["loop.example/neumes/impl.modeRows"], fn := fun _ => fun
  | [d, g1] => { results := [.lit (.bool true)], args := [d], vars := [g1] }
  | _ => none }
def fnModeInRow : OpenClaim := { program := "ythhnaplmjpacnaadoor", sum := "508ee2a148c78b313cb15577cc8e00f610cd27288d3a13d44a7a0127b2a0fd78", func := "loop.example/neumes/laws.FnModeIn", spec := "fnModeIn", named := ["loop.example/neumes/impl.modeRows"], apart := false, laid := [("loop.example/neumes/impl.modeRows", laid_loop_example_neumes_impl_modeRows)] }
def FnModeInSaid : Prop := fnModeInRow.holds Tryd.pinned (OpenSpec.ofChange fnModeInSpec)

/-- ITS FALSE NEIGHBOUR: 'it returns false'. Refute it at one input. -/
def fnModeInWrong : ChangeSpec := { name := "fnModeIn", vars := ["loop.example/neumes/impl.modeRows"], fn := fun _ => fun
  | [d, g1] => { results := [.lit (.bool false)], args := [d], vars := [g1] }
  | _ => none }
def FnModeInWrongFalsely : Prop := fnModeInRow.holds Tryd.pinned (OpenSpec.ofChange fnModeInWrong)

/-- 'laws.FnExactMelodyMove': WHATEVER THE INPUT: true; the input reads as it did. -/
def fnExactMelodyMoveSpec : ChangeSpec := { name := "fnExactMelodyMove", vars := ["loop.example/neumes/impl.letterHeights"], fn := fun _ => fun
  | [d1, d2, g1] => { results := [.lit (.bool true)], args := [d1, d2], vars := [g1] }
  | _ => none }
def fnExactMelodyMoveRow : OpenClaim := { program := "ythhnaplmjpacnaadoor", sum := "508ee2a148c78b313cb15577cc8e00f610cd27288d3a13d44a7a0127b2a0fd78", func := "loop.example/neumes/laws.FnExactMelodyMove", spec := "fnExactMelodyMove", named := ["loop.example/neumes/impl.letterHeights"], apart := false, laid := [("loop.example/neumes/impl.letterHeights", laid_loop_example_neumes_impl_letterHeights)] }
def FnExactMelodyMoveSaid : Prop := fnExactMelodyMoveRow.holds Tryd.pinned (OpenSpec.ofChange fnExactMelodyMoveSpec)

/-- ITS FALSE NEIGHBOUR: 'it returns false'. Refute it at one input. -/
def fnExactMelodyMoveWrong : ChangeSpec := { name := "fnExactMelodyMove", vars := ["loop.example/neumes/impl.letterHeights"], fn := fun _ => fun
  | [d1, d2, g1] => { results := [.lit (.bool false)], args := [d1, d2], vars := [g1] }
  | _ => none }
def FnExactMelodyMoveWrongFalsely : Prop := fnExactMelodyMoveRow.holds Tryd.pinned (OpenSpec.ofChange fnExactMelodyMoveWrong)

/-- 'laws.FnModeLikely': WHATEVER THE INPUT: true; the input reads as it did. -/
def fnModeLikelySpec : ChangeSpec := { name := "fnModeLikely", vars := ["loop.example/neumes/impl.modeRows"], fn := fun _ => fun
  | [d, g1] => { results := [.lit (.bool true)], args := [d], vars := [g1] }
  | _ => none }
def fnModeLikelyRow : OpenClaim := { program := "ythhnaplmjpacnaadoor", sum := "508ee2a148c78b313cb15577cc8e00f610cd27288d3a13d44a7a0127b2a0fd78", func := "loop.example/neumes/laws.FnModeLikely", spec := "fnModeLikely", named := ["loop.example/neumes/impl.modeRows"], apart := false, laid := [("loop.example/neumes/impl.modeRows", laid_loop_example_neumes_impl_modeRows)] }
def FnModeLikelySaid : Prop := fnModeLikelyRow.holds Tryd.pinned (OpenSpec.ofChange fnModeLikelySpec)

/-- ITS FALSE NEIGHBOUR: 'it returns false'. Refute it at one input. -/
def fnModeLikelyWrong : ChangeSpec := { name := "fnModeLikely", vars := ["loop.example/neumes/impl.modeRows"], fn := fun _ => fun
  | [d, g1] => { results := [.lit (.bool false)], args := [d], vars := [g1] }
  | _ => none }
def FnModeLikelyWrongFalsely : Prop := fnModeLikelyRow.holds Tryd.pinned (OpenSpec.ofChange fnModeLikelyWrong)

/-- 'laws.FnMelodyMove': WHATEVER THE INPUT: true; the input reads as it did. -/
def fnMelodyMoveSpec : ChangeSpec := { name := "fnMelodyMove", vars := ["loop.example/neumes/impl.letterHeights"], fn := fun _ => fun
  | [d, g1] => { results := [.lit (.bool true)], args := [d], vars := [g1] }
  | _ => none }
def fnMelodyMoveRow : OpenClaim := { program := "ythhnaplmjpacnaadoor", sum := "508ee2a148c78b313cb15577cc8e00f610cd27288d3a13d44a7a0127b2a0fd78", func := "loop.example/neumes/laws.FnMelodyMove", spec := "fnMelodyMove", unfollowed := true, recurses := true, named := ["loop.example/neumes/impl.letterHeights"], apart := false, laid := [("loop.example/neumes/impl.letterHeights", laid_loop_example_neumes_impl_letterHeights)] }
def FnMelodyMoveSaid : Prop := fnMelodyMoveRow.holds Tryd.pinned (OpenSpec.ofChange fnMelodyMoveSpec)

/-- ITS FALSE NEIGHBOUR: 'it returns false'. Refute it at one input. -/
def fnMelodyMoveWrong : ChangeSpec := { name := "fnMelodyMove", vars := ["loop.example/neumes/impl.letterHeights"], fn := fun _ => fun
  | [d, g1] => { results := [.lit (.bool false)], args := [d], vars := [g1] }
  | _ => none }
def FnMelodyMoveWrongFalsely : Prop := fnMelodyMoveRow.holds Tryd.pinned (OpenSpec.ofChange fnMelodyMoveWrong)

/-- 'laws.FnMelodySame': WHATEVER THE INPUT: true; the input reads as it did. -/
def fnMelodySameSpec : ChangeSpec := { name := "fnMelodySame", vars := ["loop.example/neumes/impl.letterHeights"], fn := fun _ => fun
  | [d, g1] => { results := [.lit (.bool true)], args := [d], vars := [g1] }
  | _ => none }
def fnMelodySameRow : OpenClaim := { program := "ythhnaplmjpacnaadoor", sum := "508ee2a148c78b313cb15577cc8e00f610cd27288d3a13d44a7a0127b2a0fd78", func := "loop.example/neumes/laws.FnMelodySame", spec := "fnMelodySame", unfollowed := true, recurses := true, named := ["loop.example/neumes/impl.letterHeights"], apart := false, laid := [("loop.example/neumes/impl.letterHeights", laid_loop_example_neumes_impl_letterHeights)] }
def FnMelodySameSaid : Prop := fnMelodySameRow.holds Tryd.pinned (OpenSpec.ofChange fnMelodySameSpec)

/-- ITS FALSE NEIGHBOUR: 'it returns false'. Refute it at one input. -/
def fnMelodySameWrong : ChangeSpec := { name := "fnMelodySame", vars := ["loop.example/neumes/impl.letterHeights"], fn := fun _ => fun
  | [d, g1] => { results := [.lit (.bool false)], args := [d], vars := [g1] }
  | _ => none }
def FnMelodySameWrongFalsely : Prop := fnMelodySameRow.holds Tryd.pinned (OpenSpec.ofChange fnMelodySameWrong)

/-- 'laws.FnExactToneInterval': WHATEVER THE INPUT: true; the input reads as it did. -/
def fnExactToneIntervalSpec : ChangeSpec := { name := "fnExactToneInterval", vars := ["loop.example/neumes/impl.letterHeights", "loop.example/neumes/impl.leastSemis"], fn := fun _ => fun
  | [d1, d2, g1, g2] => { results := [.lit (.bool true)], args := [d1, d2], vars := [g1, g2] }
  | _ => none }
def fnExactToneIntervalRow : OpenClaim := { program := "ythhnaplmjpacnaadoor", sum := "508ee2a148c78b313cb15577cc8e00f610cd27288d3a13d44a7a0127b2a0fd78", func := "loop.example/neumes/laws.FnExactToneInterval", spec := "fnExactToneInterval", recurses := true, named := ["loop.example/neumes/impl.letterHeights", "internal/strconv.uint64pow10", "math/bits.deBruijn32tab", "math/bits.deBruijn64tab", "loop.example/neumes/impl.leastSemis"], apart := false, laid := [("math/bits.deBruijn32tab", laid_math_bits_deBruijn32tab), ("math/bits.deBruijn64tab", laid_math_bits_deBruijn64tab), ("internal/strconv.uint64pow10", laid_internal_strconv_uint64pow10), ("loop.example/neumes/impl.letterHeights", laid_loop_example_neumes_impl_letterHeights), ("loop.example/neumes/impl.leastSemis", laid_loop_example_neumes_impl_leastSemis)] }
def FnExactToneIntervalSaid : Prop := fnExactToneIntervalRow.holds Tryd.pinned (OpenSpec.ofChange fnExactToneIntervalSpec)

/-- ITS FALSE NEIGHBOUR: 'it returns false'. Refute it at one input. -/
def fnExactToneIntervalWrong : ChangeSpec := { name := "fnExactToneInterval", vars := ["loop.example/neumes/impl.letterHeights", "loop.example/neumes/impl.leastSemis"], fn := fun _ => fun
  | [d1, d2, g1, g2] => { results := [.lit (.bool false)], args := [d1, d2], vars := [g1, g2] }
  | _ => none }
def FnExactToneIntervalWrongFalsely : Prop := fnExactToneIntervalRow.holds Tryd.pinned (OpenSpec.ofChange fnExactToneIntervalWrong)

/-- 'laws.FnModeMoves': WHATEVER THE INPUT: true; the input reads as it did. -/
def fnModeMovesSpec : ChangeSpec := { name := "fnModeMoves", vars := ["loop.example/neumes/impl.letterHeights", "loop.example/neumes/impl.modeRows"], fn := fun _ => fun
  | [d, g1, g2] => { results := [.lit (.bool true)], args := [d], vars := [g1, g2] }
  | _ => none }
def fnModeMovesRow : OpenClaim := { program := "ythhnaplmjpacnaadoor", sum := "508ee2a148c78b313cb15577cc8e00f610cd27288d3a13d44a7a0127b2a0fd78", func := "loop.example/neumes/laws.FnModeMoves", spec := "fnModeMoves", named := ["loop.example/neumes/impl.letterHeights", "loop.example/neumes/impl.modeRows"], apart := false, laid := [("loop.example/neumes/impl.letterHeights", laid_loop_example_neumes_impl_letterHeights), ("loop.example/neumes/impl.modeRows", laid_loop_example_neumes_impl_modeRows)] }
def FnModeMovesSaid : Prop := fnModeMovesRow.holds Tryd.pinned (OpenSpec.ofChange fnModeMovesSpec)

/-- ITS FALSE NEIGHBOUR: 'it returns false'. Refute it at one input. -/
def fnModeMovesWrong : ChangeSpec := { name := "fnModeMoves", vars := ["loop.example/neumes/impl.letterHeights", "loop.example/neumes/impl.modeRows"], fn := fun _ => fun
  | [d, g1, g2] => { results := [.lit (.bool false)], args := [d], vars := [g1, g2] }
  | _ => none }
def FnModeMovesWrongFalsely : Prop := fnModeMovesRow.holds Tryd.pinned (OpenSpec.ofChange fnModeMovesWrong)

/-- 'laws.FnExactModeMoves': WHATEVER THE INPUT: true; the input reads as it did. -/
def fnExactModeMovesSpec : ChangeSpec := { name := "fnExactModeMoves", vars := ["loop.example/neumes/impl.letterHeights", "loop.example/neumes/impl.modeRows"], fn := fun _ => fun
  | [d, g1, g2] => { results := [.lit (.bool true)], args := [d], vars := [g1, g2] }
  | _ => none }
def fnExactModeMovesRow : OpenClaim := { program := "ythhnaplmjpacnaadoor", sum := "508ee2a148c78b313cb15577cc8e00f610cd27288d3a13d44a7a0127b2a0fd78", func := "loop.example/neumes/laws.FnExactModeMoves", spec := "fnExactModeMoves", named := ["loop.example/neumes/impl.letterHeights", "loop.example/neumes/impl.modeRows"], apart := false, laid := [("loop.example/neumes/impl.letterHeights", laid_loop_example_neumes_impl_letterHeights), ("loop.example/neumes/impl.modeRows", laid_loop_example_neumes_impl_modeRows)] }
def FnExactModeMovesSaid : Prop := fnExactModeMovesRow.holds Tryd.pinned (OpenSpec.ofChange fnExactModeMovesSpec)

/-- ITS FALSE NEIGHBOUR: 'it returns false'. Refute it at one input. -/
def fnExactModeMovesWrong : ChangeSpec := { name := "fnExactModeMoves", vars := ["loop.example/neumes/impl.letterHeights", "loop.example/neumes/impl.modeRows"], fn := fun _ => fun
  | [d, g1, g2] => { results := [.lit (.bool false)], args := [d], vars := [g1, g2] }
  | _ => none }
def FnExactModeMovesWrongFalsely : Prop := fnExactModeMovesRow.holds Tryd.pinned (OpenSpec.ofChange fnExactModeMovesWrong)

/-- 'laws.FnExactPsalmMove': WHATEVER THE INPUT: true; the input reads as it did. -/
def fnExactPsalmMoveSpec : ChangeSpec := { name := "fnExactPsalmMove", vars := ["loop.example/neumes/impl.letterHeights"], fn := fun _ => fun
  | [d1, d2, g1] => { results := [.lit (.bool true)], args := [d1, d2], vars := [g1] }
  | _ => none }
def fnExactPsalmMoveRow : OpenClaim := { program := "ythhnaplmjpacnaadoor", sum := "508ee2a148c78b313cb15577cc8e00f610cd27288d3a13d44a7a0127b2a0fd78", func := "loop.example/neumes/laws.FnExactPsalmMove", spec := "fnExactPsalmMove", named := ["loop.example/neumes/impl.letterHeights"], apart := false, laid := [("loop.example/neumes/impl.letterHeights", laid_loop_example_neumes_impl_letterHeights)] }
def FnExactPsalmMoveSaid : Prop := fnExactPsalmMoveRow.holds Tryd.pinned (OpenSpec.ofChange fnExactPsalmMoveSpec)

/-- ITS FALSE NEIGHBOUR: 'it returns false'. Refute it at one input. -/
def fnExactPsalmMoveWrong : ChangeSpec := { name := "fnExactPsalmMove", vars := ["loop.example/neumes/impl.letterHeights"], fn := fun _ => fun
  | [d1, d2, g1] => { results := [.lit (.bool false)], args := [d1, d2], vars := [g1] }
  | _ => none }
def FnExactPsalmMoveWrongFalsely : Prop := fnExactPsalmMoveRow.holds Tryd.pinned (OpenSpec.ofChange fnExactPsalmMoveWrong)

/-- 'laws.FnInterval': WHATEVER THE INPUT: true; the input reads as it did. -/
def fnIntervalSpec : ChangeSpec := { name := "fnInterval", vars := ["loop.example/neumes/impl.letterHeights", "loop.example/neumes/impl.leastSemis"], fn := fun _ => fun
  | [d, g1, g2] => { results := [.lit (.bool true)], args := [d], vars := [g1, g2] }
  | _ => none }
def fnIntervalRow : OpenClaim := { program := "ythhnaplmjpacnaadoor", sum := "508ee2a148c78b313cb15577cc8e00f610cd27288d3a13d44a7a0127b2a0fd78", func := "loop.example/neumes/laws.FnInterval", spec := "fnInterval", recurses := true, named := ["loop.example/neumes/impl.letterHeights", "internal/strconv.uint64pow10", "math/bits.deBruijn32tab", "math/bits.deBruijn64tab", "loop.example/neumes/impl.leastSemis"], apart := false, laid := [("math/bits.deBruijn32tab", laid_math_bits_deBruijn32tab), ("math/bits.deBruijn64tab", laid_math_bits_deBruijn64tab), ("internal/strconv.uint64pow10", laid_internal_strconv_uint64pow10), ("loop.example/neumes/impl.letterHeights", laid_loop_example_neumes_impl_letterHeights), ("loop.example/neumes/impl.leastSemis", laid_loop_example_neumes_impl_leastSemis)] }
def FnIntervalSaid : Prop := fnIntervalRow.holds Tryd.pinned (OpenSpec.ofChange fnIntervalSpec)

/-- ITS FALSE NEIGHBOUR: 'it returns false'. Refute it at one input. -/
def fnIntervalWrong : ChangeSpec := { name := "fnInterval", vars := ["loop.example/neumes/impl.letterHeights", "loop.example/neumes/impl.leastSemis"], fn := fun _ => fun
  | [d, g1, g2] => { results := [.lit (.bool false)], args := [d], vars := [g1, g2] }
  | _ => none }
def FnIntervalWrongFalsely : Prop := fnIntervalRow.holds Tryd.pinned (OpenSpec.ofChange fnIntervalWrong)

/-- 'laws.FnIntervalSemis': WHATEVER THE INPUT: true; the input reads as it did. -/
def fnIntervalSemisSpec : ChangeSpec := { name := "fnIntervalSemis", vars := ["loop.example/neumes/impl.letterHeights", "loop.example/neumes/impl.leastSemis"], fn := fun _ => fun
  | [d, g1, g2] => { results := [.lit (.bool true)], args := [d], vars := [g1, g2] }
  | _ => none }
def fnIntervalSemisRow : OpenClaim := { program := "ythhnaplmjpacnaadoor", sum := "508ee2a148c78b313cb15577cc8e00f610cd27288d3a13d44a7a0127b2a0fd78", func := "loop.example/neumes/laws.FnIntervalSemis", spec := "fnIntervalSemis", recurses := true, named := ["loop.example/neumes/impl.letterHeights", "internal/strconv.uint64pow10", "math/bits.deBruijn32tab", "math/bits.deBruijn64tab", "loop.example/neumes/impl.leastSemis"], apart := false, laid := [("math/bits.deBruijn32tab", laid_math_bits_deBruijn32tab), ("math/bits.deBruijn64tab", laid_math_bits_deBruijn64tab), ("internal/strconv.uint64pow10", laid_internal_strconv_uint64pow10), ("loop.example/neumes/impl.letterHeights", laid_loop_example_neumes_impl_letterHeights), ("loop.example/neumes/impl.leastSemis", laid_loop_example_neumes_impl_leastSemis)] }
def FnIntervalSemisSaid : Prop := fnIntervalSemisRow.holds Tryd.pinned (OpenSpec.ofChange fnIntervalSemisSpec)

/-- ITS FALSE NEIGHBOUR: 'it returns false'. Refute it at one input. -/
def fnIntervalSemisWrong : ChangeSpec := { name := "fnIntervalSemis", vars := ["loop.example/neumes/impl.letterHeights", "loop.example/neumes/impl.leastSemis"], fn := fun _ => fun
  | [d, g1, g2] => { results := [.lit (.bool false)], args := [d], vars := [g1, g2] }
  | _ => none }
def FnIntervalSemisWrongFalsely : Prop := fnIntervalSemisRow.holds Tryd.pinned (OpenSpec.ofChange fnIntervalSemisWrong)

/- THE SECOND FORM. 'bulk': how many values and letters a reading holds, each counted each time it is reached (what is shared counts as often as it is met; a slice's spare places count too). A statement '..UptoSaid' is the law's where the arguments, and the package variables that the reading takes, are together of bulk at most 1048576: NARROWER than '..Said'. Prove '..Said' where nothing that the law and all that it calls make is longer than what came in: it says more and counts as full. Else prove '..UptoSaid'. A law counts once. -/
mutual
def uptoBulk {H : Type} : DataW H → Nat
  | .lit (.string bytes) => bytes.length + 1
  | .lit _ => 1
  | .nil => 1
  | .ptr d => uptoBulk d + 1
  | .slice elems spare => uptoBulkAll elems + uptoBulkAll spare + 1
  | .agg parts => uptoBulkAll parts + 1
  | .iface _ d => uptoBulk d + 1
  | .map entries => uptoBulkEntries entries + 1
  | .held _ => 1
def uptoBulkAll {H : Type} : List (DataW H) → Nat
  | [] => 0
  | d :: r => uptoBulk d + uptoBulkAll r
def uptoBulkEntries {H : Type} : List (Lit × DataW H) → Nat
  | [] => 0
  | x :: r => uptoBulkEntry x + uptoBulkEntries r
def uptoBulkEntry {H : Type} : Lit × DataW H → Nat
  | (.string bytes, d) => bytes.length + uptoBulk d + 1
  | (_, d) => uptoBulk d + 1
 end
def uptoSmall : (H : Type) → List (DataW H) → Bool := fun _ ds => decide (uptoBulkAll ds ≤ 1048576)
def OpenSpec.upto (s : _root_.Go.ChangeSpec) : _root_.Go.OpenSpec := { _root_.Go.OpenSpec.ofChange s with cond := some uptoSmall }

/-- 'laws.FnModeIn', WHERE WHAT IT READS IS OF BULK AT MOST 1048576: true; the input reads as it did. -/
def fnModeInUptoRow : OpenClaim := { program := "ythhnaplmjpacnaadoor", sum := "508ee2a148c78b313cb15577cc8e00f610cd27288d3a13d44a7a0127b2a0fd78", func := "loop.example/neumes/laws.FnModeIn", spec := "fnModeIn", named := ["loop.example/neumes/impl.modeRows"], apart := false, laid := [("loop.example/neumes/impl.modeRows", laid_loop_example_neumes_impl_modeRows)], narrowed := true }
def FnModeInUptoSaid : Prop := fnModeInUptoRow.holds Tryd.pinned (OpenSpec.upto fnModeInSpec)

/-- 'laws.FnExactMelodyMove', WHERE WHAT IT READS IS OF BULK AT MOST 1048576: true; the input reads as it did. -/
def fnExactMelodyMoveUptoRow : OpenClaim := { program := "ythhnaplmjpacnaadoor", sum := "508ee2a148c78b313cb15577cc8e00f610cd27288d3a13d44a7a0127b2a0fd78", func := "loop.example/neumes/laws.FnExactMelodyMove", spec := "fnExactMelodyMove", named := ["loop.example/neumes/impl.letterHeights"], apart := false, laid := [("loop.example/neumes/impl.letterHeights", laid_loop_example_neumes_impl_letterHeights)], narrowed := true }
def FnExactMelodyMoveUptoSaid : Prop := fnExactMelodyMoveUptoRow.holds Tryd.pinned (OpenSpec.upto fnExactMelodyMoveSpec)

/-- 'laws.FnModeLikely', WHERE WHAT IT READS IS OF BULK AT MOST 1048576: true; the input reads as it did. -/
def fnModeLikelyUptoRow : OpenClaim := { program := "ythhnaplmjpacnaadoor", sum := "508ee2a148c78b313cb15577cc8e00f610cd27288d3a13d44a7a0127b2a0fd78", func := "loop.example/neumes/laws.FnModeLikely", spec := "fnModeLikely", named := ["loop.example/neumes/impl.modeRows"], apart := false, laid := [("loop.example/neumes/impl.modeRows", laid_loop_example_neumes_impl_modeRows)], narrowed := true }
def FnModeLikelyUptoSaid : Prop := fnModeLikelyUptoRow.holds Tryd.pinned (OpenSpec.upto fnModeLikelySpec)

/-- 'laws.FnMelodyMove', WHERE WHAT IT READS IS OF BULK AT MOST 1048576: true; the input reads as it did. -/
def fnMelodyMoveUptoRow : OpenClaim := { program := "ythhnaplmjpacnaadoor", sum := "508ee2a148c78b313cb15577cc8e00f610cd27288d3a13d44a7a0127b2a0fd78", func := "loop.example/neumes/laws.FnMelodyMove", spec := "fnMelodyMove", unfollowed := true, recurses := true, named := ["loop.example/neumes/impl.letterHeights"], apart := false, laid := [("loop.example/neumes/impl.letterHeights", laid_loop_example_neumes_impl_letterHeights)], narrowed := true }
def FnMelodyMoveUptoSaid : Prop := fnMelodyMoveUptoRow.holds Tryd.pinned (OpenSpec.upto fnMelodyMoveSpec)

/-- 'laws.FnMelodySame', WHERE WHAT IT READS IS OF BULK AT MOST 1048576: true; the input reads as it did. -/
def fnMelodySameUptoRow : OpenClaim := { program := "ythhnaplmjpacnaadoor", sum := "508ee2a148c78b313cb15577cc8e00f610cd27288d3a13d44a7a0127b2a0fd78", func := "loop.example/neumes/laws.FnMelodySame", spec := "fnMelodySame", unfollowed := true, recurses := true, named := ["loop.example/neumes/impl.letterHeights"], apart := false, laid := [("loop.example/neumes/impl.letterHeights", laid_loop_example_neumes_impl_letterHeights)], narrowed := true }
def FnMelodySameUptoSaid : Prop := fnMelodySameUptoRow.holds Tryd.pinned (OpenSpec.upto fnMelodySameSpec)

/-- 'laws.FnExactToneInterval', WHERE WHAT IT READS IS OF BULK AT MOST 1048576: true; the input reads as it did. -/
def fnExactToneIntervalUptoRow : OpenClaim := { program := "ythhnaplmjpacnaadoor", sum := "508ee2a148c78b313cb15577cc8e00f610cd27288d3a13d44a7a0127b2a0fd78", func := "loop.example/neumes/laws.FnExactToneInterval", spec := "fnExactToneInterval", recurses := true, named := ["loop.example/neumes/impl.letterHeights", "internal/strconv.uint64pow10", "math/bits.deBruijn32tab", "math/bits.deBruijn64tab", "loop.example/neumes/impl.leastSemis"], apart := false, laid := [("math/bits.deBruijn32tab", laid_math_bits_deBruijn32tab), ("math/bits.deBruijn64tab", laid_math_bits_deBruijn64tab), ("internal/strconv.uint64pow10", laid_internal_strconv_uint64pow10), ("loop.example/neumes/impl.letterHeights", laid_loop_example_neumes_impl_letterHeights), ("loop.example/neumes/impl.leastSemis", laid_loop_example_neumes_impl_leastSemis)], narrowed := true }
def FnExactToneIntervalUptoSaid : Prop := fnExactToneIntervalUptoRow.holds Tryd.pinned (OpenSpec.upto fnExactToneIntervalSpec)

/-- 'laws.FnModeMoves', WHERE WHAT IT READS IS OF BULK AT MOST 1048576: true; the input reads as it did. -/
def fnModeMovesUptoRow : OpenClaim := { program := "ythhnaplmjpacnaadoor", sum := "508ee2a148c78b313cb15577cc8e00f610cd27288d3a13d44a7a0127b2a0fd78", func := "loop.example/neumes/laws.FnModeMoves", spec := "fnModeMoves", named := ["loop.example/neumes/impl.letterHeights", "loop.example/neumes/impl.modeRows"], apart := false, laid := [("loop.example/neumes/impl.letterHeights", laid_loop_example_neumes_impl_letterHeights), ("loop.example/neumes/impl.modeRows", laid_loop_example_neumes_impl_modeRows)], narrowed := true }
def FnModeMovesUptoSaid : Prop := fnModeMovesUptoRow.holds Tryd.pinned (OpenSpec.upto fnModeMovesSpec)

/-- 'laws.FnExactModeMoves', WHERE WHAT IT READS IS OF BULK AT MOST 1048576: true; the input reads as it did. -/
def fnExactModeMovesUptoRow : OpenClaim := { program := "ythhnaplmjpacnaadoor", sum := "508ee2a148c78b313cb15577cc8e00f610cd27288d3a13d44a7a0127b2a0fd78", func := "loop.example/neumes/laws.FnExactModeMoves", spec := "fnExactModeMoves", named := ["loop.example/neumes/impl.letterHeights", "loop.example/neumes/impl.modeRows"], apart := false, laid := [("loop.example/neumes/impl.letterHeights", laid_loop_example_neumes_impl_letterHeights), ("loop.example/neumes/impl.modeRows", laid_loop_example_neumes_impl_modeRows)], narrowed := true }
def FnExactModeMovesUptoSaid : Prop := fnExactModeMovesUptoRow.holds Tryd.pinned (OpenSpec.upto fnExactModeMovesSpec)

/-- 'laws.FnExactPsalmMove', WHERE WHAT IT READS IS OF BULK AT MOST 1048576: true; the input reads as it did. -/
def fnExactPsalmMoveUptoRow : OpenClaim := { program := "ythhnaplmjpacnaadoor", sum := "508ee2a148c78b313cb15577cc8e00f610cd27288d3a13d44a7a0127b2a0fd78", func := "loop.example/neumes/laws.FnExactPsalmMove", spec := "fnExactPsalmMove", named := ["loop.example/neumes/impl.letterHeights"], apart := false, laid := [("loop.example/neumes/impl.letterHeights", laid_loop_example_neumes_impl_letterHeights)], narrowed := true }
def FnExactPsalmMoveUptoSaid : Prop := fnExactPsalmMoveUptoRow.holds Tryd.pinned (OpenSpec.upto fnExactPsalmMoveSpec)

/-- 'laws.FnInterval', WHERE WHAT IT READS IS OF BULK AT MOST 1048576: true; the input reads as it did. -/
def fnIntervalUptoRow : OpenClaim := { program := "ythhnaplmjpacnaadoor", sum := "508ee2a148c78b313cb15577cc8e00f610cd27288d3a13d44a7a0127b2a0fd78", func := "loop.example/neumes/laws.FnInterval", spec := "fnInterval", recurses := true, named := ["loop.example/neumes/impl.letterHeights", "internal/strconv.uint64pow10", "math/bits.deBruijn32tab", "math/bits.deBruijn64tab", "loop.example/neumes/impl.leastSemis"], apart := false, laid := [("math/bits.deBruijn32tab", laid_math_bits_deBruijn32tab), ("math/bits.deBruijn64tab", laid_math_bits_deBruijn64tab), ("internal/strconv.uint64pow10", laid_internal_strconv_uint64pow10), ("loop.example/neumes/impl.letterHeights", laid_loop_example_neumes_impl_letterHeights), ("loop.example/neumes/impl.leastSemis", laid_loop_example_neumes_impl_leastSemis)], narrowed := true }
def FnIntervalUptoSaid : Prop := fnIntervalUptoRow.holds Tryd.pinned (OpenSpec.upto fnIntervalSpec)

/-- 'laws.FnIntervalSemis', WHERE WHAT IT READS IS OF BULK AT MOST 1048576: true; the input reads as it did. -/
def fnIntervalSemisUptoRow : OpenClaim := { program := "ythhnaplmjpacnaadoor", sum := "508ee2a148c78b313cb15577cc8e00f610cd27288d3a13d44a7a0127b2a0fd78", func := "loop.example/neumes/laws.FnIntervalSemis", spec := "fnIntervalSemis", recurses := true, named := ["loop.example/neumes/impl.letterHeights", "internal/strconv.uint64pow10", "math/bits.deBruijn32tab", "math/bits.deBruijn64tab", "loop.example/neumes/impl.leastSemis"], apart := false, laid := [("math/bits.deBruijn32tab", laid_math_bits_deBruijn32tab), ("math/bits.deBruijn64tab", laid_math_bits_deBruijn64tab), ("internal/strconv.uint64pow10", laid_internal_strconv_uint64pow10), ("loop.example/neumes/impl.letterHeights", laid_loop_example_neumes_impl_letterHeights), ("loop.example/neumes/impl.leastSemis", laid_loop_example_neumes_impl_leastSemis)], narrowed := true }
def FnIntervalSemisUptoSaid : Prop := fnIntervalSemisUptoRow.holds Tryd.pinned (OpenSpec.upto fnIntervalSemisSpec)

end Rows
end Go.Proofs.YthhnaplmjpacnaaDoor
