/-
  DERIVED. GIVEN WITH THE SEED: THE PROGRAM's TIES (one call each: nine closed facts by the kernel) AND EACH ROW's TIE, after the 31st guide's Derived/Test/Toyas{Tie, Card}.lean. No idea stands in it: it is a product of the set-up. Laid BY PROGRAM, IN A SANDBOX (cutbox-door.mjs). By AI agents, Wed Nov 11 2026. No macro, syntax, notation, axiom, sorry.
-/
import Derived.Test.YthhnaplmjpacnaaDoorRows
import Derived.LaidByTextLater
import Derived.SevenTiedAt
import Derived.LaidSub
import Derived.LaidOnce
namespace Go.Proofs.YthhnaplmjpacnaaDoor
open Go
set_option maxRecDepth 100000
theorem seatTie1 : Tryd.prog.laidByTextLater [("math/bits.deBruijn32tab", Rows.laid_math_bits_deBruijn32tab), ("math/bits.deBruijn64tab", Rows.laid_math_bits_deBruijn64tab), ("internal/strconv.uint64pow10", Rows.laid_internal_strconv_uint64pow10), ("loop.example/neumes/impl.letterHeights", Rows.laid_loop_example_neumes_impl_letterHeights), ("loop.example/neumes/impl.leastSemis", Rows.laid_loop_example_neumes_impl_leastSemis), ("loop.example/neumes/impl.modeRows", Rows.laid_loop_example_neumes_impl_modeRows)] [.data, .data, .data, .data, .data, .data] true :=
  Program.laidByTextLater_by_one 47 8 65 (by kernel_rfl) (by kernel_rfl) (by kernel_rfl) (by kernel_rfl) (by kernel_rfl) (by kernel_rfl) (fun _ _ => by kernel_rfl)
theorem noOwnUnsafe : Tryd.pinned.checked.prog.headLifts.contains "ownunsafe" = false := by kernel_rfl
theorem tie : Tryd.prog.laidByTextLater [("loop.example/neumes/impl.modeRows", Rows.laid_loop_example_neumes_impl_modeRows)] [.data] true :=
  Program.laidByTextLater.sub seatTie1 ["loop.example/neumes/impl.modeRows"] (by kernel_rfl) (by kernel_rfl)
theorem fnModeIn_row_tie : Rows.fnModeInRow.laidByTextAt .later Tryd.pinned [.data] true :=
  OpenClaim.laidByTextAt_later rfl rfl tie noOwnUnsafe
theorem fnModeLikely_row_tie : Rows.fnModeLikelyRow.laidByTextAt .later Tryd.pinned [.data] true :=
  OpenClaim.laidByTextAt_later rfl rfl tie noOwnUnsafe
theorem tie2 : Tryd.prog.laidByTextLater [("loop.example/neumes/impl.letterHeights", Rows.laid_loop_example_neumes_impl_letterHeights)] [.data] true :=
  Program.laidByTextLater.sub seatTie1 ["loop.example/neumes/impl.letterHeights"] (by kernel_rfl) (by kernel_rfl)
theorem fnExactMelodyMove_row_tie : Rows.fnExactMelodyMoveRow.laidByTextAt .later Tryd.pinned [.data] true :=
  OpenClaim.laidByTextAt_later rfl rfl tie2 noOwnUnsafe
theorem fnMelodyMove_row_tie : Rows.fnMelodyMoveRow.laidByTextAt .later Tryd.pinned [.data] true :=
  OpenClaim.laidByTextAt_later rfl rfl tie2 noOwnUnsafe
theorem fnMelodySame_row_tie : Rows.fnMelodySameRow.laidByTextAt .later Tryd.pinned [.data] true :=
  OpenClaim.laidByTextAt_later rfl rfl tie2 noOwnUnsafe
theorem fnExactPsalmMove_row_tie : Rows.fnExactPsalmMoveRow.laidByTextAt .later Tryd.pinned [.data] true :=
  OpenClaim.laidByTextAt_later rfl rfl tie2 noOwnUnsafe
theorem tie3 : Tryd.prog.laidByTextLater [("math/bits.deBruijn32tab", Rows.laid_math_bits_deBruijn32tab), ("math/bits.deBruijn64tab", Rows.laid_math_bits_deBruijn64tab), ("internal/strconv.uint64pow10", Rows.laid_internal_strconv_uint64pow10), ("loop.example/neumes/impl.letterHeights", Rows.laid_loop_example_neumes_impl_letterHeights), ("loop.example/neumes/impl.leastSemis", Rows.laid_loop_example_neumes_impl_leastSemis)] [.data, .data, .data, .data, .data] true :=
  Program.laidByTextLater.sub seatTie1 ["math/bits.deBruijn32tab", "math/bits.deBruijn64tab", "internal/strconv.uint64pow10", "loop.example/neumes/impl.letterHeights", "loop.example/neumes/impl.leastSemis"] (by kernel_rfl) (by kernel_rfl)
theorem fnExactToneInterval_row_tie : Rows.fnExactToneIntervalRow.laidByTextAt .later Tryd.pinned [.data, .data, .data, .data, .data] true :=
  OpenClaim.laidByTextAt_later rfl rfl tie3 noOwnUnsafe
theorem fnInterval_row_tie : Rows.fnIntervalRow.laidByTextAt .later Tryd.pinned [.data, .data, .data, .data, .data] true :=
  OpenClaim.laidByTextAt_later rfl rfl tie3 noOwnUnsafe
theorem fnIntervalSemis_row_tie : Rows.fnIntervalSemisRow.laidByTextAt .later Tryd.pinned [.data, .data, .data, .data, .data] true :=
  OpenClaim.laidByTextAt_later rfl rfl tie3 noOwnUnsafe
theorem tie4 : Tryd.prog.laidByTextLater [("loop.example/neumes/impl.letterHeights", Rows.laid_loop_example_neumes_impl_letterHeights), ("loop.example/neumes/impl.modeRows", Rows.laid_loop_example_neumes_impl_modeRows)] [.data, .data] true :=
  Program.laidByTextLater.sub seatTie1 ["loop.example/neumes/impl.letterHeights", "loop.example/neumes/impl.modeRows"] (by kernel_rfl) (by kernel_rfl)
theorem fnModeMoves_row_tie : Rows.fnModeMovesRow.laidByTextAt .later Tryd.pinned [.data, .data] true :=
  OpenClaim.laidByTextAt_later rfl rfl tie4 noOwnUnsafe
theorem fnExactModeMoves_row_tie : Rows.fnExactModeMovesRow.laidByTextAt .later Tryd.pinned [.data, .data] true :=
  OpenClaim.laidByTextAt_later rfl rfl tie4 noOwnUnsafe
theorem fnModeInUpto_row_tie : Rows.fnModeInUptoRow.laidByTextAt .later Tryd.pinned [.data] true :=
  OpenClaim.laidByTextAt_later rfl rfl tie noOwnUnsafe
theorem fnExactMelodyMoveUpto_row_tie : Rows.fnExactMelodyMoveUptoRow.laidByTextAt .later Tryd.pinned [.data] true :=
  OpenClaim.laidByTextAt_later rfl rfl tie2 noOwnUnsafe
theorem fnModeLikelyUpto_row_tie : Rows.fnModeLikelyUptoRow.laidByTextAt .later Tryd.pinned [.data] true :=
  OpenClaim.laidByTextAt_later rfl rfl tie noOwnUnsafe
theorem fnMelodyMoveUpto_row_tie : Rows.fnMelodyMoveUptoRow.laidByTextAt .later Tryd.pinned [.data] true :=
  OpenClaim.laidByTextAt_later rfl rfl tie2 noOwnUnsafe
theorem fnMelodySameUpto_row_tie : Rows.fnMelodySameUptoRow.laidByTextAt .later Tryd.pinned [.data] true :=
  OpenClaim.laidByTextAt_later rfl rfl tie2 noOwnUnsafe
theorem fnExactToneIntervalUpto_row_tie : Rows.fnExactToneIntervalUptoRow.laidByTextAt .later Tryd.pinned [.data, .data, .data, .data, .data] true :=
  OpenClaim.laidByTextAt_later rfl rfl tie3 noOwnUnsafe
theorem fnModeMovesUpto_row_tie : Rows.fnModeMovesUptoRow.laidByTextAt .later Tryd.pinned [.data, .data] true :=
  OpenClaim.laidByTextAt_later rfl rfl tie4 noOwnUnsafe
theorem fnExactModeMovesUpto_row_tie : Rows.fnExactModeMovesUptoRow.laidByTextAt .later Tryd.pinned [.data, .data] true :=
  OpenClaim.laidByTextAt_later rfl rfl tie4 noOwnUnsafe
theorem fnExactPsalmMoveUpto_row_tie : Rows.fnExactPsalmMoveUptoRow.laidByTextAt .later Tryd.pinned [.data] true :=
  OpenClaim.laidByTextAt_later rfl rfl tie2 noOwnUnsafe
theorem fnIntervalUpto_row_tie : Rows.fnIntervalUptoRow.laidByTextAt .later Tryd.pinned [.data, .data, .data, .data, .data] true :=
  OpenClaim.laidByTextAt_later rfl rfl tie3 noOwnUnsafe
theorem fnIntervalSemisUpto_row_tie : Rows.fnIntervalSemisUptoRow.laidByTextAt .later Tryd.pinned [.data, .data, .data, .data, .data] true :=
  OpenClaim.laidByTextAt_later rfl rfl tie3 noOwnUnsafe
end Go.Proofs.YthhnaplmjpacnaaDoor
