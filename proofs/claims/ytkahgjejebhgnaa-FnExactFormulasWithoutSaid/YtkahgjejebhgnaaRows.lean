/-
  No cell of these rows narrows 'for every input' (looked for: loops, veiled, ifaces, maps, wideKeys, modest, calm, conditions, laid).
  DERIVED. THE GIVEN ROWS OF THIS SEAT. 6 by the template 'for every input the law returns true; each argument reads behind the call as it read before'; 0 by the template 'total and deterministic' (their statements: YtkahgjejebhgnaaTotals.lean).
  GIVEN WITH THE SEED: the statements are not yours to turn. If you find one false, say at which input.
  Laid BY PROGRAM, IN A SANDBOX (cutbox-rows.mjs): the forced cells as the released guide's own fill.sh prints them over the translation df755c9170e63090… (all of the seat's roots in one cut). By AI agents, Wed Nov 11 2026. No macro, syntax, notation, axiom, sorry.
-/
import Derived.Test.YtkahgjejebhgnaaChecked
import GoSem.Claim
import GoSem.ClaimJoined
import GoSem.ClaimMapViews
import Derived.JoinedTies
import Derived.KernelRfl
namespace Go.Proofs.Ytkahgjejebhgnaa
/- THE CELL 'sum', in the pinned program and in every row, IS THE sha256 OF THE DUMP (.gsa) THAT YtkahgjejebhgnaaProg.lean LOADS. Nothing in Lean hashes anything: it is a label: what it is worth is what the hold of that sum in a sandbox is worth. -/
noncomputable def Try.pinned : Pinned := { name := "ytkahgjejebhgnaa", sum := "df755c9170e63090a9f9ddfc5ff075ec7173b8f316ea72cb9f6b0fc8c145b4d4", checked := Try.checked }
namespace Rows
def none {H : Type} : Left H := { results := [], args := [] }

/-- 'laws.FnExactGroupsSplit': WHATEVER THE INPUT: true; the input reads as it did. -/
def fnExactGroupsSplitSpec : ChangeSpec := { name := "fnExactGroupsSplit", fn := fun _ => fun
  | [d1, d2, d3, d4] => { results := [.lit (.bool true)], args := [d1, d2, d3, d4] }
  | _ => none }
def fnExactGroupsSplitRow : OpenClaim := { program := "ytkahgjejebhgnaa", sum := "df755c9170e63090a9f9ddfc5ff075ec7173b8f316ea72cb9f6b0fc8c145b4d4", func := "loop.example/neumes/laws.FnExactGroupsSplit", spec := "fnExactGroupsSplit", apart := false }
def FnExactGroupsSplitSaid : Prop := fnExactGroupsSplitRow.holds Try.pinned (OpenSpec.ofChange fnExactGroupsSplitSpec)

/-- ITS FALSE NEIGHBOUR: 'it returns false'. Refute it at one input. -/
def fnExactGroupsSplitWrong : ChangeSpec := { name := "fnExactGroupsSplit", fn := fun _ => fun
  | [d1, d2, d3, d4] => { results := [.lit (.bool false)], args := [d1, d2, d3, d4] }
  | _ => none }
def FnExactGroupsSplitWrongFalsely : Prop := fnExactGroupsSplitRow.holds Try.pinned (OpenSpec.ofChange fnExactGroupsSplitWrong)

/-- 'laws.FnExactGroupsCut': WHATEVER THE INPUT: true; the input reads as it did. -/
def fnExactGroupsCutSpec : ChangeSpec := { name := "fnExactGroupsCut", fn := fun _ => fun
  | [d1, d2, d3] => { results := [.lit (.bool true)], args := [d1, d2, d3] }
  | _ => none }
def fnExactGroupsCutRow : OpenClaim := { program := "ytkahgjejebhgnaa", sum := "df755c9170e63090a9f9ddfc5ff075ec7173b8f316ea72cb9f6b0fc8c145b4d4", func := "loop.example/neumes/laws.FnExactGroupsCut", spec := "fnExactGroupsCut", apart := false }
def FnExactGroupsCutSaid : Prop := fnExactGroupsCutRow.holds Try.pinned (OpenSpec.ofChange fnExactGroupsCutSpec)

/-- ITS FALSE NEIGHBOUR: 'it returns false'. Refute it at one input. -/
def fnExactGroupsCutWrong : ChangeSpec := { name := "fnExactGroupsCut", fn := fun _ => fun
  | [d1, d2, d3] => { results := [.lit (.bool false)], args := [d1, d2, d3] }
  | _ => none }
def FnExactGroupsCutWrongFalsely : Prop := fnExactGroupsCutRow.holds Try.pinned (OpenSpec.ofChange fnExactGroupsCutWrong)

/-- 'laws.FnExactGroupsJoin': WHATEVER THE INPUT: true; the input reads as it did. -/
def fnExactGroupsJoinSpec : ChangeSpec := { name := "fnExactGroupsJoin", fn := fun _ => fun
  | [d1, d2, d3] => { results := [.lit (.bool true)], args := [d1, d2, d3] }
  | _ => none }
def fnExactGroupsJoinRow : OpenClaim := { program := "ytkahgjejebhgnaa", sum := "df755c9170e63090a9f9ddfc5ff075ec7173b8f316ea72cb9f6b0fc8c145b4d4", func := "loop.example/neumes/laws.FnExactGroupsJoin", spec := "fnExactGroupsJoin", apart := false }
def FnExactGroupsJoinSaid : Prop := fnExactGroupsJoinRow.holds Try.pinned (OpenSpec.ofChange fnExactGroupsJoinSpec)

/-- ITS FALSE NEIGHBOUR: 'it returns false'. Refute it at one input. -/
def fnExactGroupsJoinWrong : ChangeSpec := { name := "fnExactGroupsJoin", fn := fun _ => fun
  | [d1, d2, d3] => { results := [.lit (.bool false)], args := [d1, d2, d3] }
  | _ => none }
def FnExactGroupsJoinWrongFalsely : Prop := fnExactGroupsJoinRow.holds Try.pinned (OpenSpec.ofChange fnExactGroupsJoinWrong)

/-- 'laws.FnExactFormulasBuild': WHATEVER THE INPUT: true; the input reads as it did. -/
def fnExactFormulasBuildSpec : ChangeSpec := { name := "fnExactFormulasBuild", fn := fun _ => fun
  | [d1, d2] => { results := [.lit (.bool true)], args := [d1, d2] }
  | _ => none }
def fnExactFormulasBuildRow : OpenClaim := { program := "ytkahgjejebhgnaa", sum := "df755c9170e63090a9f9ddfc5ff075ec7173b8f316ea72cb9f6b0fc8c145b4d4", func := "loop.example/neumes/laws.FnExactFormulasBuild", spec := "fnExactFormulasBuild", apart := false }
def FnExactFormulasBuildSaid : Prop := fnExactFormulasBuildRow.holds Try.pinned (OpenSpec.ofChange fnExactFormulasBuildSpec)

/-- ITS FALSE NEIGHBOUR: 'it returns false'. Refute it at one input. -/
def fnExactFormulasBuildWrong : ChangeSpec := { name := "fnExactFormulasBuild", fn := fun _ => fun
  | [d1, d2] => { results := [.lit (.bool false)], args := [d1, d2] }
  | _ => none }
def FnExactFormulasBuildWrongFalsely : Prop := fnExactFormulasBuildRow.holds Try.pinned (OpenSpec.ofChange fnExactFormulasBuildWrong)

/-- 'laws.FnGroupsSplit': WHATEVER THE INPUT: true; the input reads as it did. -/
def fnGroupsSplitSpec : ChangeSpec := { name := "fnGroupsSplit", fn := fun _ => fun
  | [d] => { results := [.lit (.bool true)], args := [d] }
  | _ => none }
def fnGroupsSplitRow : OpenClaim := { program := "ytkahgjejebhgnaa", sum := "df755c9170e63090a9f9ddfc5ff075ec7173b8f316ea72cb9f6b0fc8c145b4d4", func := "loop.example/neumes/laws.FnGroupsSplit", spec := "fnGroupsSplit", unfollowed := true, recurses := true, apart := false }
def FnGroupsSplitSaid : Prop := fnGroupsSplitRow.holds Try.pinned (OpenSpec.ofChange fnGroupsSplitSpec)

/-- ITS FALSE NEIGHBOUR: 'it returns false'. Refute it at one input. -/
def fnGroupsSplitWrong : ChangeSpec := { name := "fnGroupsSplit", fn := fun _ => fun
  | [d] => { results := [.lit (.bool false)], args := [d] }
  | _ => none }
def FnGroupsSplitWrongFalsely : Prop := fnGroupsSplitRow.holds Try.pinned (OpenSpec.ofChange fnGroupsSplitWrong)

/-- 'laws.FnExactFormulasWithout': WHATEVER THE INPUT: true; the input reads as it did. -/
def fnExactFormulasWithoutSpec : ChangeSpec := { name := "fnExactFormulasWithout", fn := fun _ => fun
  | [d1, d2] => { results := [.lit (.bool true)], args := [d1, d2] }
  | _ => none }
def fnExactFormulasWithoutRow : OpenClaim := { program := "ytkahgjejebhgnaa", sum := "df755c9170e63090a9f9ddfc5ff075ec7173b8f316ea72cb9f6b0fc8c145b4d4", func := "loop.example/neumes/laws.FnExactFormulasWithout", spec := "fnExactFormulasWithout", apart := false }
def FnExactFormulasWithoutSaid : Prop := fnExactFormulasWithoutRow.holds Try.pinned (OpenSpec.ofChange fnExactFormulasWithoutSpec)

/-- ITS FALSE NEIGHBOUR: 'it returns false'. Refute it at one input. -/
def fnExactFormulasWithoutWrong : ChangeSpec := { name := "fnExactFormulasWithout", fn := fun _ => fun
  | [d1, d2] => { results := [.lit (.bool false)], args := [d1, d2] }
  | _ => none }
def FnExactFormulasWithoutWrongFalsely : Prop := fnExactFormulasWithoutRow.holds Try.pinned (OpenSpec.ofChange fnExactFormulasWithoutWrong)

/- THE SECOND FORM. 'bulk': how many values and letters a reading holds, each counted each time it is reached (what is shared counts as often as it is met; a slice's spare places count too). A statement '..UptoSaid' is the law's where the arguments, and the package variables that the reading takes, are together of bulk at most 1048576: NARROWER than '..Said'. Prove '..Said' where nothing that the law and all that it calls make is longer than what came in: it says more and counts as full. Else prove '..UptoSaid'. A law counts once. -/
mutual
def uptoBulk {H : Type} : DataW H → Nat
  | .lit (.string bytes) => bytes.length + 1
  | .lit _ => 1
  | .nil => 1
  | .ptr d => uptoBulk d + 1
  | .slice elems spare => uptoBulkAll elems + uptoBulkAll spare + 1
  | .agg parts => uptoBulkAll parts + 1
  | .iface _ d => uptoBulk d + 1
  | .map entries => uptoBulkEntries entries + 1
  | .held _ => 1
def uptoBulkAll {H : Type} : List (DataW H) → Nat
  | [] => 0
  | d :: r => uptoBulk d + uptoBulkAll r
def uptoBulkEntries {H : Type} : List (Lit × DataW H) → Nat
  | [] => 0
  | x :: r => uptoBulkEntry x + uptoBulkEntries r
def uptoBulkEntry {H : Type} : Lit × DataW H → Nat
  | (.string bytes, d) => bytes.length + uptoBulk d + 1
  | (_, d) => uptoBulk d + 1
 end
def uptoSmall : (H : Type) → List (DataW H) → Bool := fun _ ds => decide (uptoBulkAll ds ≤ 1048576)
def OpenSpec.upto (s : _root_.Go.ChangeSpec) : _root_.Go.OpenSpec := { _root_.Go.OpenSpec.ofChange s with cond := some uptoSmall }

/-- 'laws.FnExactGroupsSplit', WHERE WHAT IT READS IS OF BULK AT MOST 1048576: true; the input reads as it did. -/
def fnExactGroupsSplitUptoRow : OpenClaim := { program := "ytkahgjejebhgnaa", sum := "df755c9170e63090a9f9ddfc5ff075ec7173b8f316ea72cb9f6b0fc8c145b4d4", func := "loop.example/neumes/laws.FnExactGroupsSplit", spec := "fnExactGroupsSplit", apart := false, narrowed := true }
def FnExactGroupsSplitUptoSaid : Prop := fnExactGroupsSplitUptoRow.holds Try.pinned (OpenSpec.upto fnExactGroupsSplitSpec)

/-- 'laws.FnExactGroupsCut', WHERE WHAT IT READS IS OF BULK AT MOST 1048576: true; the input reads as it did. -/
def fnExactGroupsCutUptoRow : OpenClaim := { program := "ytkahgjejebhgnaa", sum := "df755c9170e63090a9f9ddfc5ff075ec7173b8f316ea72cb9f6b0fc8c145b4d4", func := "loop.example/neumes/laws.FnExactGroupsCut", spec := "fnExactGroupsCut", apart := false, narrowed := true }
def FnExactGroupsCutUptoSaid : Prop := fnExactGroupsCutUptoRow.holds Try.pinned (OpenSpec.upto fnExactGroupsCutSpec)

/-- 'laws.FnExactGroupsJoin', WHERE WHAT IT READS IS OF BULK AT MOST 1048576: true; the input reads as it did. -/
def fnExactGroupsJoinUptoRow : OpenClaim := { program := "ytkahgjejebhgnaa", sum := "df755c9170e63090a9f9ddfc5ff075ec7173b8f316ea72cb9f6b0fc8c145b4d4", func := "loop.example/neumes/laws.FnExactGroupsJoin", spec := "fnExactGroupsJoin", apart := false, narrowed := true }
def FnExactGroupsJoinUptoSaid : Prop := fnExactGroupsJoinUptoRow.holds Try.pinned (OpenSpec.upto fnExactGroupsJoinSpec)

/-- 'laws.FnExactFormulasBuild', WHERE WHAT IT READS IS OF BULK AT MOST 1048576: true; the input reads as it did. -/
def fnExactFormulasBuildUptoRow : OpenClaim := { program := "ytkahgjejebhgnaa", sum := "df755c9170e63090a9f9ddfc5ff075ec7173b8f316ea72cb9f6b0fc8c145b4d4", func := "loop.example/neumes/laws.FnExactFormulasBuild", spec := "fnExactFormulasBuild", apart := false, narrowed := true }
def FnExactFormulasBuildUptoSaid : Prop := fnExactFormulasBuildUptoRow.holds Try.pinned (OpenSpec.upto fnExactFormulasBuildSpec)

/-- 'laws.FnGroupsSplit', WHERE WHAT IT READS IS OF BULK AT MOST 1048576: true; the input reads as it did. -/
def fnGroupsSplitUptoRow : OpenClaim := { program := "ytkahgjejebhgnaa", sum := "df755c9170e63090a9f9ddfc5ff075ec7173b8f316ea72cb9f6b0fc8c145b4d4", func := "loop.example/neumes/laws.FnGroupsSplit", spec := "fnGroupsSplit", unfollowed := true, recurses := true, apart := false, narrowed := true }
def FnGroupsSplitUptoSaid : Prop := fnGroupsSplitUptoRow.holds Try.pinned (OpenSpec.upto fnGroupsSplitSpec)

/-- 'laws.FnExactFormulasWithout', WHERE WHAT IT READS IS OF BULK AT MOST 1048576: true; the input reads as it did. -/
def fnExactFormulasWithoutUptoRow : OpenClaim := { program := "ytkahgjejebhgnaa", sum := "df755c9170e63090a9f9ddfc5ff075ec7173b8f316ea72cb9f6b0fc8c145b4d4", func := "loop.example/neumes/laws.FnExactFormulasWithout", spec := "fnExactFormulasWithout", apart := false, narrowed := true }
def FnExactFormulasWithoutUptoSaid : Prop := fnExactFormulasWithoutUptoRow.holds Try.pinned (OpenSpec.upto fnExactFormulasWithoutSpec)

end Rows
end Go.Proofs.Ytkahgjejebhgnaa
