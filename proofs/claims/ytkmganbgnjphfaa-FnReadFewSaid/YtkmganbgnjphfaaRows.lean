/-
  No cell of these rows narrows 'for every input' (looked for: loops, veiled, ifaces, maps, wideKeys, modest, calm, conditions, laid).
  DERIVED. THE GIVEN ROWS OF THIS SEAT. 7 by the template 'for every input the law returns true; each argument reads behind the call as it read before'; 0 by the template 'total and deterministic' (their statements: YtkmganbgnjphfaaTotals.lean).
  GIVEN WITH THE SEED: the statements are not yours to turn. If you find one false, say at which input.
  Laid BY PROGRAM, IN A SANDBOX (cutbox-rows.mjs): the forced cells as the released guide's own fill.sh prints them over the translation 58ed6973a245355c… (all of the seat's roots in one cut). By AI agents, Wed Nov 11 2026. No macro, syntax, notation, axiom, sorry.
-/
import Derived.Test.YtkmganbgnjphfaaChecked
import GoSem.Claim
import GoSem.ClaimJoined
import GoSem.ClaimMapViews
import Derived.JoinedTies
import Derived.KernelRfl
namespace Go.Proofs.Ytkmganbgnjphfaa
/- THE CELL 'sum', in the pinned program and in every row, IS THE sha256 OF THE DUMP (.gsa) THAT YtkmganbgnjphfaaProg.lean LOADS. Nothing in Lean hashes anything: it is a label: what it is worth is what the hold of that sum in a sandbox is worth. -/
noncomputable def Try.pinned : Pinned := { name := "ytkmganbgnjphfaa", sum := "58ed6973a245355cfb7b30e4aa5dd2faecad482ec4054d0558c3a2d227e11bf7", checked := Try.checked }
namespace Rows
def none {H : Type} : Left H := { results := [], args := [] }

/-- 'laws.FnReadClear': WHATEVER THE INPUT: true; the input reads as it did. -/
def fnReadClearSpec : ChangeSpec := { name := "fnReadClear", fn := fun _ => fun
  | [d1, d2] => { results := [.lit (.bool true)], args := [d1, d2] }
  | _ => none }
def fnReadClearRow : OpenClaim := { program := "ytkmganbgnjphfaa", sum := "58ed6973a245355cfb7b30e4aa5dd2faecad482ec4054d0558c3a2d227e11bf7", func := "loop.example/neumes/laws.FnReadClear", spec := "fnReadClear", unfollowed := true, recurses := true, apart := false }
def FnReadClearSaid : Prop := fnReadClearRow.holds Try.pinned (OpenSpec.ofChange fnReadClearSpec)

/-- ITS FALSE NEIGHBOUR: 'it returns false'. Refute it at one input. -/
def fnReadClearWrong : ChangeSpec := { name := "fnReadClear", fn := fun _ => fun
  | [d1, d2] => { results := [.lit (.bool false)], args := [d1, d2] }
  | _ => none }
def FnReadClearWrongFalsely : Prop := fnReadClearRow.holds Try.pinned (OpenSpec.ofChange fnReadClearWrong)

/-- 'laws.FnReadMany': WHATEVER THE INPUT: true; the input reads as it did. -/
def fnReadManySpec : ChangeSpec := { name := "fnReadMany", fn := fun _ => fun
  | [d] => { results := [.lit (.bool true)], args := [d] }
  | _ => none }
def fnReadManyRow : OpenClaim := { program := "ytkmganbgnjphfaa", sum := "58ed6973a245355cfb7b30e4aa5dd2faecad482ec4054d0558c3a2d227e11bf7", func := "loop.example/neumes/laws.FnReadMany", spec := "fnReadMany", unfollowed := true, recurses := true, apart := false }
def FnReadManySaid : Prop := fnReadManyRow.holds Try.pinned (OpenSpec.ofChange fnReadManySpec)

/-- ITS FALSE NEIGHBOUR: 'it returns false'. Refute it at one input. -/
def fnReadManyWrong : ChangeSpec := { name := "fnReadMany", fn := fun _ => fun
  | [d] => { results := [.lit (.bool false)], args := [d] }
  | _ => none }
def FnReadManyWrongFalsely : Prop := fnReadManyRow.holds Try.pinned (OpenSpec.ofChange fnReadManyWrong)

/-- 'laws.FnReadFew': WHATEVER THE INPUT: true; the input reads as it did. -/
def fnReadFewSpec : ChangeSpec := { name := "fnReadFew", fn := fun _ => fun
  | [d] => { results := [.lit (.bool true)], args := [d] }
  | _ => none }
def fnReadFewRow : OpenClaim := { program := "ytkmganbgnjphfaa", sum := "58ed6973a245355cfb7b30e4aa5dd2faecad482ec4054d0558c3a2d227e11bf7", func := "loop.example/neumes/laws.FnReadFew", spec := "fnReadFew", unfollowed := true, recurses := true, apart := false }
def FnReadFewSaid : Prop := fnReadFewRow.holds Try.pinned (OpenSpec.ofChange fnReadFewSpec)

/-- ITS FALSE NEIGHBOUR: 'it returns false'. Refute it at one input. -/
def fnReadFewWrong : ChangeSpec := { name := "fnReadFew", fn := fun _ => fun
  | [d] => { results := [.lit (.bool false)], args := [d] }
  | _ => none }
def FnReadFewWrongFalsely : Prop := fnReadFewRow.holds Try.pinned (OpenSpec.ofChange fnReadFewWrong)

/-- 'laws.FnExactFormulasBest': WHATEVER THE INPUT: true; the input reads as it did. -/
def fnExactFormulasBestSpec : ChangeSpec := { name := "fnExactFormulasBest", fn := fun _ => fun
  | [d1, d2] => { results := [.lit (.bool true)], args := [d1, d2] }
  | _ => none }
def fnExactFormulasBestRow : OpenClaim := { program := "ytkmganbgnjphfaa", sum := "58ed6973a245355cfb7b30e4aa5dd2faecad482ec4054d0558c3a2d227e11bf7", func := "loop.example/neumes/laws.FnExactFormulasBest", spec := "fnExactFormulasBest", unfollowed := true, recurses := true, apart := false }
def FnExactFormulasBestSaid : Prop := fnExactFormulasBestRow.holds Try.pinned (OpenSpec.ofChange fnExactFormulasBestSpec)

/-- ITS FALSE NEIGHBOUR: 'it returns false'. Refute it at one input. -/
def fnExactFormulasBestWrong : ChangeSpec := { name := "fnExactFormulasBest", fn := fun _ => fun
  | [d1, d2] => { results := [.lit (.bool false)], args := [d1, d2] }
  | _ => none }
def FnExactFormulasBestWrongFalsely : Prop := fnExactFormulasBestRow.holds Try.pinned (OpenSpec.ofChange fnExactFormulasBestWrong)

/-- 'laws.FnExactFormulasMelody': WHATEVER THE INPUT: true; the input reads as it did. -/
def fnExactFormulasMelodySpec : ChangeSpec := { name := "fnExactFormulasMelody", fn := fun _ => fun
  | [d1, d2, d3] => { results := [.lit (.bool true)], args := [d1, d2, d3] }
  | _ => none }
def fnExactFormulasMelodyRow : OpenClaim := { program := "ytkmganbgnjphfaa", sum := "58ed6973a245355cfb7b30e4aa5dd2faecad482ec4054d0558c3a2d227e11bf7", func := "loop.example/neumes/laws.FnExactFormulasMelody", spec := "fnExactFormulasMelody", apart := false }
def FnExactFormulasMelodySaid : Prop := fnExactFormulasMelodyRow.holds Try.pinned (OpenSpec.ofChange fnExactFormulasMelodySpec)

/-- ITS FALSE NEIGHBOUR: 'it returns false'. Refute it at one input. -/
def fnExactFormulasMelodyWrong : ChangeSpec := { name := "fnExactFormulasMelody", fn := fun _ => fun
  | [d1, d2, d3] => { results := [.lit (.bool false)], args := [d1, d2, d3] }
  | _ => none }
def FnExactFormulasMelodyWrongFalsely : Prop := fnExactFormulasMelodyRow.holds Try.pinned (OpenSpec.ofChange fnExactFormulasMelodyWrong)

/-- 'laws.FnExactFormulasUsed': WHATEVER THE INPUT: true; the input reads as it did. -/
def fnExactFormulasUsedSpec : ChangeSpec := { name := "fnExactFormulasUsed", fn := fun _ => fun
  | [d1, d2] => { results := [.lit (.bool true)], args := [d1, d2] }
  | _ => none }
def fnExactFormulasUsedRow : OpenClaim := { program := "ytkmganbgnjphfaa", sum := "58ed6973a245355cfb7b30e4aa5dd2faecad482ec4054d0558c3a2d227e11bf7", func := "loop.example/neumes/laws.FnExactFormulasUsed", spec := "fnExactFormulasUsed", unfollowed := true, recurses := true, apart := false }
def FnExactFormulasUsedSaid : Prop := fnExactFormulasUsedRow.holds Try.pinned (OpenSpec.ofChange fnExactFormulasUsedSpec)

/-- ITS FALSE NEIGHBOUR: 'it returns false'. Refute it at one input. -/
def fnExactFormulasUsedWrong : ChangeSpec := { name := "fnExactFormulasUsed", fn := fun _ => fun
  | [d1, d2] => { results := [.lit (.bool false)], args := [d1, d2] }
  | _ => none }
def FnExactFormulasUsedWrongFalsely : Prop := fnExactFormulasUsedRow.holds Try.pinned (OpenSpec.ofChange fnExactFormulasUsedWrong)

/-- 'laws.FnReadBest': WHATEVER THE INPUT: true; the input reads as it did. -/
def fnReadBestSpec : ChangeSpec := { name := "fnReadBest", fn := fun _ => fun
  | [d] => { results := [.lit (.bool true)], args := [d] }
  | _ => none }
def fnReadBestRow : OpenClaim := { program := "ytkmganbgnjphfaa", sum := "58ed6973a245355cfb7b30e4aa5dd2faecad482ec4054d0558c3a2d227e11bf7", func := "loop.example/neumes/laws.FnReadBest", spec := "fnReadBest", unfollowed := true, recurses := true, apart := false }
def FnReadBestSaid : Prop := fnReadBestRow.holds Try.pinned (OpenSpec.ofChange fnReadBestSpec)

/-- ITS FALSE NEIGHBOUR: 'it returns false'. Refute it at one input. -/
def fnReadBestWrong : ChangeSpec := { name := "fnReadBest", fn := fun _ => fun
  | [d] => { results := [.lit (.bool false)], args := [d] }
  | _ => none }
def FnReadBestWrongFalsely : Prop := fnReadBestRow.holds Try.pinned (OpenSpec.ofChange fnReadBestWrong)

/- THE SECOND FORM. 'bulk': how many values and letters a reading holds, each counted each time it is reached (what is shared counts as often as it is met; a slice's spare places count too). A statement '..UptoSaid' is the law's where the arguments, and the package variables that the reading takes, are together of bulk at most 1048576: NARROWER than '..Said'. Prove '..Said' where nothing that the law and all that it calls make is longer than what came in: it says more and counts as full. Else prove '..UptoSaid'. A law counts once. -/
mutual
def uptoBulk {H : Type} : DataW H → Nat
  | .lit (.string bytes) => bytes.length + 1
  | .lit _ => 1
  | .nil => 1
  | .ptr d => uptoBulk d + 1
  | .slice elems spare => uptoBulkAll elems + uptoBulkAll spare + 1
  | .agg parts => uptoBulkAll parts + 1
  | .iface _ d => uptoBulk d + 1
  | .map entries => uptoBulkEntries entries + 1
  | .held _ => 1
def uptoBulkAll {H : Type} : List (DataW H) → Nat
  | [] => 0
  | d :: r => uptoBulk d + uptoBulkAll r
def uptoBulkEntries {H : Type} : List (Lit × DataW H) → Nat
  | [] => 0
  | x :: r => uptoBulkEntry x + uptoBulkEntries r
def uptoBulkEntry {H : Type} : Lit × DataW H → Nat
  | (.string bytes, d) => bytes.length + uptoBulk d + 1
  | (_, d) => uptoBulk d + 1
 end
def uptoSmall : (H : Type) → List (DataW H) → Bool := fun _ ds => decide (uptoBulkAll ds ≤ 1048576)
def OpenSpec.upto (s : _root_.Go.ChangeSpec) : _root_.Go.OpenSpec := { _root_.Go.OpenSpec.ofChange s with cond := some uptoSmall }

/-- 'laws.FnReadClear', WHERE WHAT IT READS IS OF BULK AT MOST 1048576: true; the input reads as it did. -/
def fnReadClearUptoRow : OpenClaim := { program := "ytkmganbgnjphfaa", sum := "58ed6973a245355cfb7b30e4aa5dd2faecad482ec4054d0558c3a2d227e11bf7", func := "loop.example/neumes/laws.FnReadClear", spec := "fnReadClear", unfollowed := true, recurses := true, apart := false, narrowed := true }
def FnReadClearUptoSaid : Prop := fnReadClearUptoRow.holds Try.pinned (OpenSpec.upto fnReadClearSpec)

/-- 'laws.FnReadMany', WHERE WHAT IT READS IS OF BULK AT MOST 1048576: true; the input reads as it did. -/
def fnReadManyUptoRow : OpenClaim := { program := "ytkmganbgnjphfaa", sum := "58ed6973a245355cfb7b30e4aa5dd2faecad482ec4054d0558c3a2d227e11bf7", func := "loop.example/neumes/laws.FnReadMany", spec := "fnReadMany", unfollowed := true, recurses := true, apart := false, narrowed := true }
def FnReadManyUptoSaid : Prop := fnReadManyUptoRow.holds Try.pinned (OpenSpec.upto fnReadManySpec)

/-- 'laws.FnReadFew', WHERE WHAT IT READS IS OF BULK AT MOST 1048576: true; the input reads as it did. -/
def fnReadFewUptoRow : OpenClaim := { program := "ytkmganbgnjphfaa", sum := "58ed6973a245355cfb7b30e4aa5dd2faecad482ec4054d0558c3a2d227e11bf7", func := "loop.example/neumes/laws.FnReadFew", spec := "fnReadFew", unfollowed := true, recurses := true, apart := false, narrowed := true }
def FnReadFewUptoSaid : Prop := fnReadFewUptoRow.holds Try.pinned (OpenSpec.upto fnReadFewSpec)

/-- 'laws.FnExactFormulasBest', WHERE WHAT IT READS IS OF BULK AT MOST 1048576: true; the input reads as it did. -/
def fnExactFormulasBestUptoRow : OpenClaim := { program := "ytkmganbgnjphfaa", sum := "58ed6973a245355cfb7b30e4aa5dd2faecad482ec4054d0558c3a2d227e11bf7", func := "loop.example/neumes/laws.FnExactFormulasBest", spec := "fnExactFormulasBest", unfollowed := true, recurses := true, apart := false, narrowed := true }
def FnExactFormulasBestUptoSaid : Prop := fnExactFormulasBestUptoRow.holds Try.pinned (OpenSpec.upto fnExactFormulasBestSpec)

/-- 'laws.FnExactFormulasMelody', WHERE WHAT IT READS IS OF BULK AT MOST 1048576: true; the input reads as it did. -/
def fnExactFormulasMelodyUptoRow : OpenClaim := { program := "ytkmganbgnjphfaa", sum := "58ed6973a245355cfb7b30e4aa5dd2faecad482ec4054d0558c3a2d227e11bf7", func := "loop.example/neumes/laws.FnExactFormulasMelody", spec := "fnExactFormulasMelody", apart := false, narrowed := true }
def FnExactFormulasMelodyUptoSaid : Prop := fnExactFormulasMelodyUptoRow.holds Try.pinned (OpenSpec.upto fnExactFormulasMelodySpec)

/-- 'laws.FnExactFormulasUsed', WHERE WHAT IT READS IS OF BULK AT MOST 1048576: true; the input reads as it did. -/
def fnExactFormulasUsedUptoRow : OpenClaim := { program := "ytkmganbgnjphfaa", sum := "58ed6973a245355cfb7b30e4aa5dd2faecad482ec4054d0558c3a2d227e11bf7", func := "loop.example/neumes/laws.FnExactFormulasUsed", spec := "fnExactFormulasUsed", unfollowed := true, recurses := true, apart := false, narrowed := true }
def FnExactFormulasUsedUptoSaid : Prop := fnExactFormulasUsedUptoRow.holds Try.pinned (OpenSpec.upto fnExactFormulasUsedSpec)

/-- 'laws.FnReadBest', WHERE WHAT IT READS IS OF BULK AT MOST 1048576: true; the input reads as it did. -/
def fnReadBestUptoRow : OpenClaim := { program := "ytkmganbgnjphfaa", sum := "58ed6973a245355cfb7b30e4aa5dd2faecad482ec4054d0558c3a2d227e11bf7", func := "loop.example/neumes/laws.FnReadBest", spec := "fnReadBest", unfollowed := true, recurses := true, apart := false, narrowed := true }
def FnReadBestUptoSaid : Prop := fnReadBestUptoRow.holds Try.pinned (OpenSpec.upto fnReadBestSpec)

end Rows
end Go.Proofs.Ytkmganbgnjphfaa
