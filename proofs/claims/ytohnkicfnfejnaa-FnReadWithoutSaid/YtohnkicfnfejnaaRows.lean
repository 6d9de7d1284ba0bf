/-
  No cell of these rows narrows 'for every input' (looked for: loops, veiled, ifaces, maps, wideKeys, modest, calm, conditions, laid).
  DERIVED. THE GIVEN ROWS OF THIS SEAT. 6 by the template 'for every input the law returns true; each argument reads behind the call as it read before'; 0 by the template 'total and deterministic' (their statements: YtohnkicfnfejnaaTotals.lean).
  GIVEN WITH THE SEED: the statements are not yours to turn. If you find one false, say at which input.
  Laid BY PROGRAM, IN A SANDBOX (cutbox-rows.mjs): the forced cells as the released guide's own fill.sh prints them over the translation 288dae9c04a95789… (all of the seat's roots in one cut). By AI agents, Wed Nov 11 2026. No macro, syntax, notation, axiom, sorry.
-/
import Derived.Test.YtohnkicfnfejnaaChecked
import GoSem.Claim
import GoSem.ClaimJoined
import GoSem.ClaimMapViews
import Derived.JoinedTies
import Derived.KernelRfl
namespace Go.Proofs.Ytohnkicfnfejnaa
/- THE CELL 'sum', in the pinned program and in every row, IS THE sha256 OF THE DUMP (.gsa) THAT YtohnkicfnfejnaaProg.lean LOADS. Nothing in Lean hashes anything: it is a label: what it is worth is what the hold of that sum in a sandbox is worth. -/
noncomputable def Try.pinned : Pinned := { name := "ytohnkicfnfejnaa", sum := "288dae9c04a9578902a5dc2d739e09236055ded8ac7382ff058b1d6d19127e96", checked := Try.checked }
namespace Rows
def none {H : Type} : Left H := { results := [], args := [] }

/-- 'laws.FnExactFormulasClear': WHATEVER THE INPUT: true; the input reads as it did. -/
def fnExactFormulasClearSpec : ChangeSpec := { name := "fnExactFormulasClear", fn := fun _ => fun
  | [d1, d2] => { results := [.lit (.bool true)], args := [d1, d2] }
  | _ => none }
def fnExactFormulasClearRow : OpenClaim := { program := "ytohnkicfnfejnaa", sum := "288dae9c04a9578902a5dc2d739e09236055ded8ac7382ff058b1d6d19127e96", func := "loop.example/neumes/laws.FnExactFormulasClear", spec := "fnExactFormulasClear", recurses := true, apart := false }
def FnExactFormulasClearSaid : Prop := fnExactFormulasClearRow.holds Try.pinned (OpenSpec.ofChange fnExactFormulasClearSpec)

/-- ITS FALSE NEIGHBOUR: 'it returns false'. Refute it at one input. -/
def fnExactFormulasClearWrong : ChangeSpec := { name := "fnExactFormulasClear", fn := fun _ => fun
  | [d1, d2] => { results := [.lit (.bool false)], args := [d1, d2] }
  | _ => none }
def FnExactFormulasClearWrongFalsely : Prop := fnExactFormulasClearRow.holds Try.pinned (OpenSpec.ofChange fnExactFormulasClearWrong)

/-- 'laws.FnExactFormulasMany': WHATEVER THE INPUT: true; the input reads as it did. -/
def fnExactFormulasManySpec : ChangeSpec := { name := "fnExactFormulasMany", fn := fun _ => fun
  | [d1, d2] => { results := [.lit (.bool true)], args := [d1, d2] }
  | _ => none }
def fnExactFormulasManyRow : OpenClaim := { program := "ytohnkicfnfejnaa", sum := "288dae9c04a9578902a5dc2d739e09236055ded8ac7382ff058b1d6d19127e96", func := "loop.example/neumes/laws.FnExactFormulasMany", spec := "fnExactFormulasMany", unfollowed := true, recurses := true, apart := false }
def FnExactFormulasManySaid : Prop := fnExactFormulasManyRow.holds Try.pinned (OpenSpec.ofChange fnExactFormulasManySpec)

/-- ITS FALSE NEIGHBOUR: 'it returns false'. Refute it at one input. -/
def fnExactFormulasManyWrong : ChangeSpec := { name := "fnExactFormulasMany", fn := fun _ => fun
  | [d1, d2] => { results := [.lit (.bool false)], args := [d1, d2] }
  | _ => none }
def FnExactFormulasManyWrongFalsely : Prop := fnExactFormulasManyRow.holds Try.pinned (OpenSpec.ofChange fnExactFormulasManyWrong)

/-- 'laws.FnReadWithout': WHATEVER THE INPUT: true; the input reads as it did. -/
def fnReadWithoutSpec : ChangeSpec := { name := "fnReadWithout", fn := fun _ => fun
  | [d1, d2] => { results := [.lit (.bool true)], args := [d1, d2] }
  | _ => none }
def fnReadWithoutRow : OpenClaim := { program := "ytohnkicfnfejnaa", sum := "288dae9c04a9578902a5dc2d739e09236055ded8ac7382ff058b1d6d19127e96", func := "loop.example/neumes/laws.FnReadWithout", spec := "fnReadWithout", unfollowed := true, recurses := true, apart := false }
def FnReadWithoutSaid : Prop := fnReadWithoutRow.holds Try.pinned (OpenSpec.ofChange fnReadWithoutSpec)

/-- ITS FALSE NEIGHBOUR: 'it returns false'. Refute it at one input. -/
def fnReadWithoutWrong : ChangeSpec := { name := "fnReadWithout", fn := fun _ => fun
  | [d1, d2] => { results := [.lit (.bool false)], args := [d1, d2] }
  | _ => none }
def FnReadWithoutWrongFalsely : Prop := fnReadWithoutRow.holds Try.pinned (OpenSpec.ofChange fnReadWithoutWrong)

/-- 'laws.FnExactFormulasFew': WHATEVER THE INPUT: true; the input reads as it did. -/
def fnExactFormulasFewSpec : ChangeSpec := { name := "fnExactFormulasFew", fn := fun _ => fun
  | [d1, d2] => { results := [.lit (.bool true)], args := [d1, d2] }
  | _ => none }
def fnExactFormulasFewRow : OpenClaim := { program := "ytohnkicfnfejnaa", sum := "288dae9c04a9578902a5dc2d739e09236055ded8ac7382ff058b1d6d19127e96", func := "loop.example/neumes/laws.FnExactFormulasFew", spec := "fnExactFormulasFew", unfollowed := true, recurses := true, apart := false }
def FnExactFormulasFewSaid : Prop := fnExactFormulasFewRow.holds Try.pinned (OpenSpec.ofChange fnExactFormulasFewSpec)

/-- ITS FALSE NEIGHBOUR: 'it returns false'. Refute it at one input. -/
def fnExactFormulasFewWrong : ChangeSpec := { name := "fnExactFormulasFew", fn := fun _ => fun
  | [d1, d2] => { results := [.lit (.bool false)], args := [d1, d2] }
  | _ => none }
def FnExactFormulasFewWrongFalsely : Prop := fnExactFormulasFewRow.holds Try.pinned (OpenSpec.ofChange fnExactFormulasFewWrong)

/-- 'laws.FnExactFormulasFirst': WHATEVER THE INPUT: true; the input reads as it did. -/
def fnExactFormulasFirstSpec : ChangeSpec := { name := "fnExactFormulasFirst", fn := fun _ => fun
  | [d1, d2] => { results := [.lit (.bool true)], args := [d1, d2] }
  | _ => none }
def fnExactFormulasFirstRow : OpenClaim := { program := "ytohnkicfnfejnaa", sum := "288dae9c04a9578902a5dc2d739e09236055ded8ac7382ff058b1d6d19127e96", func := "loop.example/neumes/laws.FnExactFormulasFirst", spec := "fnExactFormulasFirst", unfollowed := true, recurses := true, apart := false }
def FnExactFormulasFirstSaid : Prop := fnExactFormulasFirstRow.holds Try.pinned (OpenSpec.ofChange fnExactFormulasFirstSpec)

/-- ITS FALSE NEIGHBOUR: 'it returns false'. Refute it at one input. -/
def fnExactFormulasFirstWrong : ChangeSpec := { name := "fnExactFormulasFirst", fn := fun _ => fun
  | [d1, d2] => { results := [.lit (.bool false)], args := [d1, d2] }
  | _ => none }
def FnExactFormulasFirstWrongFalsely : Prop := fnExactFormulasFirstRow.holds Try.pinned (OpenSpec.ofChange fnExactFormulasFirstWrong)

/-- 'laws.FnBuild': WHATEVER THE INPUT: true; the input reads as it did. -/
def fnBuildSpec : ChangeSpec := { name := "fnBuild", fn := fun _ => fun
  | [d1, d2] => { results := [.lit (.bool true)], args := [d1, d2] }
  | _ => none }
def fnBuildRow : OpenClaim := { program := "ytohnkicfnfejnaa", sum := "288dae9c04a9578902a5dc2d739e09236055ded8ac7382ff058b1d6d19127e96", func := "loop.example/neumes/laws.FnBuild", spec := "fnBuild", unfollowed := true, recurses := true, apart := false }
def FnBuildSaid : Prop := fnBuildRow.holds Try.pinned (OpenSpec.ofChange fnBuildSpec)

/-- ITS FALSE NEIGHBOUR: 'it returns false'. Refute it at one input. -/
def fnBuildWrong : ChangeSpec := { name := "fnBuild", fn := fun _ => fun
  | [d1, d2] => { results := [.lit (.bool false)], args := [d1, d2] }
  | _ => none }
def FnBuildWrongFalsely : Prop := fnBuildRow.holds Try.pinned (OpenSpec.ofChange fnBuildWrong)

/- THE SECOND FORM. 'bulk': how many values and letters a reading holds, each counted each time it is reached (what is shared counts as often as it is met; a slice's spare places count too). A statement '..UptoSaid' is the law's where the arguments, and the package variables that the reading takes, are together of bulk at most 1048576: NARROWER than '..Said'. Prove '..Said' where nothing that the law and all that it calls make is longer than what came in: it says more and counts as full. Else prove '..UptoSaid'. A law counts once. -/
mutual
def uptoBulk {H : Type} : DataW H → Nat
  | .lit (.string bytes) => bytes.length + 1
  | .lit _ => 1
  | .nil => 1
  | .ptr d => uptoBulk d + 1
  | .slice elems spare => uptoBulkAll elems + uptoBulkAll spare + 1
  | .agg parts => uptoBulkAll parts + 1
  | .iface _ d => uptoBulk d + 1
  | .map entries => uptoBulkEntries entries + 1
  | .held _ => 1
def uptoBulkAll {H : Type} : List (DataW H) → Nat
  | [] => 0
  | d :: r => uptoBulk d + uptoBulkAll r
def uptoBulkEntries {H : Type} : List (Lit × DataW H) → Nat
  | [] => 0
  | x :: r => uptoBulkEntry x + uptoBulkEntries r
def uptoBulkEntry {H : Type} : Lit × DataW H → Nat
  | (.string bytes, d) => bytes.length + uptoBulk d + 1
  | (_, d) => uptoBulk d + 1
 end
def uptoSmall : (H : Type) → List (DataW H) → Bool := fun _ ds => decide (uptoBulkAll ds ≤ 1048576)
def OpenSpec.upto (s : _root_.Go.ChangeSpec) : _root_.Go.OpenSpec := { _root_.Go.OpenSpec.ofChange s with cond := some uptoSmall }

/-- 'laws.FnExactFormulasClear', WHERE WHAT IT READS IS OF BULK AT MOST 1048576: true; the input reads as it did. -/
def fnExactFormulasClearUptoRow : OpenClaim := { program := "ytohnkicfnfejnaa", sum := "288dae9c04a9578902a5dc2d739e09236055ded8ac7382ff058b1d6d19127e96", func := "loop.example/neumes/laws.FnExactFormulasClear", spec := "fnExactFormulasClear", recurses := true, apart := false, narrowed := true }
def FnExactFormulasClearUptoSaid : Prop := fnExactFormulasClearUptoRow.holds Try.pinned (OpenSpec.upto fnExactFormulasClearSpec)

/-- 'laws.FnExactFormulasMany', WHERE WHAT IT READS IS OF BULK AT MOST 1048576: true; the input reads as it did. -/
def fnExactFormulasManyUptoRow : OpenClaim := { program := "ytohnkicfnfejnaa", sum := "288dae9c04a9578902a5dc2d739e09236055ded8ac7382ff058b1d6d19127e96", func := "loop.example/neumes/laws.FnExactFormulasMany", spec := "fnExactFormulasMany", unfollowed := true, recurses := true, apart := false, narrowed := true }
def FnExactFormulasManyUptoSaid : Prop := fnExactFormulasManyUptoRow.holds Try.pinned (OpenSpec.upto fnExactFormulasManySpec)

/-- 'laws.FnReadWithout', WHERE WHAT IT READS IS OF BULK AT MOST 1048576: true; the input reads as it did. -/
def fnReadWithoutUptoRow : OpenClaim := { program := "ytohnkicfnfejnaa", sum := "288dae9c04a9578902a5dc2d739e09236055ded8ac7382ff058b1d6d19127e96", func := "loop.example/neumes/laws.FnReadWithout", spec := "fnReadWithout", unfollowed := true, recurses := true, apart := false, narrowed := true }
def FnReadWithoutUptoSaid : Prop := fnReadWithoutUptoRow.holds Try.pinned (OpenSpec.upto fnReadWithoutSpec)

/-- 'laws.FnExactFormulasFew', WHERE WHAT IT READS IS OF BULK AT MOST 1048576: true; the input reads as it did. -/
def fnExactFormulasFewUptoRow : OpenClaim := { program := "ytohnkicfnfejnaa", sum := "288dae9c04a9578902a5dc2d739e09236055ded8ac7382ff058b1d6d19127e96", func := "loop.example/neumes/laws.FnExactFormulasFew", spec := "fnExactFormulasFew", unfollowed := true, recurses := true, apart := false, narrowed := true }
def FnExactFormulasFewUptoSaid : Prop := fnExactFormulasFewUptoRow.holds Try.pinned (OpenSpec.upto fnExactFormulasFewSpec)

/-- 'laws.FnExactFormulasFirst', WHERE WHAT IT READS IS OF BULK AT MOST 1048576: true; the input reads as it did. -/
def fnExactFormulasFirstUptoRow : OpenClaim := { program := "ytohnkicfnfejnaa", sum := "288dae9c04a9578902a5dc2d739e09236055ded8ac7382ff058b1d6d19127e96", func := "loop.example/neumes/laws.FnExactFormulasFirst", spec := "fnExactFormulasFirst", unfollowed := true, recurses := true, apart := false, narrowed := true }
def FnExactFormulasFirstUptoSaid : Prop := fnExactFormulasFirstUptoRow.holds Try.pinned (OpenSpec.upto fnExactFormulasFirstSpec)

/-- 'laws.FnBuild', WHERE WHAT IT READS IS OF BULK AT MOST 1048576: true; the input reads as it did. -/
def fnBuildUptoRow : OpenClaim := { program := "ytohnkicfnfejnaa", sum := "288dae9c04a9578902a5dc2d739e09236055ded8ac7382ff058b1d6d19127e96", func := "loop.example/neumes/laws.FnBuild", spec := "fnBuild", unfollowed := true, recurses := true, apart := false, narrowed := true }
def FnBuildUptoSaid : Prop := fnBuildUptoRow.holds Try.pinned (OpenSpec.upto fnBuildSpec)

end Rows
end Go.Proofs.Ytohnkicfnfejnaa
