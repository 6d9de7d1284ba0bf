/-
  No cell of these rows narrows 'for every input' (looked for: loops, veiled, ifaces, maps, wideKeys, modest, calm, conditions, laid).
  DERIVED. THE GIVEN ROWS OF THIS SEAT. 2 by the template 'for every input the law returns true; each argument reads behind the call as it read before'; 0 by the template 'total and deterministic' (their statements: YtnjnnalnicoojaaTotals.lean).
  GIVEN WITH THE SEED: the statements are not yours to turn. If you find one false, say at which input.
  Laid BY PROGRAM, IN A SANDBOX (cutbox-rows.mjs): the forced cells as the released guide's own fill.sh prints them over the translation 161746f4ae2116d3… (all of the seat's roots in one cut). By AI agents, Wed Nov 11 2026. No macro, syntax, notation, axiom, sorry.
-/
import Derived.Test.YtnjnnalnicoojaaChecked
import GoSem.Claim
import GoSem.ClaimJoined
import GoSem.ClaimMapViews
import Derived.JoinedTies
import Derived.KernelRfl
namespace Go.Proofs.Ytnjnnalnicoojaa
/- THE CELL 'sum', in the pinned program and in every row, IS THE sha256 OF THE DUMP (.gsa) THAT YtnjnnalnicoojaaProg.lean LOADS. Nothing in Lean hashes anything: it is a label: what it is worth is what the hold of that sum in a sandbox is worth. -/
noncomputable def Try.pinned : Pinned := { name := "ytnjnnalnicoojaa", sum := "161746f4ae2116d34d4cf0262e33283113106456f488cc5bfc442267f915fb74", checked := Try.checked }
namespace Rows
def none {H : Type} : Left H := { results := [], args := [] }

/-- 'laws.FnGroupsJoin': WHATEVER THE INPUT: true; the input reads as it did. -/
def fnGroupsJoinSpec : ChangeSpec := { name := "fnGroupsJoin", fn := fun _ => fun
  | [d] => { results := [.lit (.bool true)], args := [d] }
  | _ => none }
def fnGroupsJoinRow : OpenClaim := { program := "ytnjnnalnicoojaa", sum := "161746f4ae2116d34d4cf0262e33283113106456f488cc5bfc442267f915fb74", func := "loop.example/neumes/laws.FnGroupsJoin", spec := "fnGroupsJoin", apart := false }
def FnGroupsJoinSaid : Prop := fnGroupsJoinRow.holds Try.pinned (OpenSpec.ofChange fnGroupsJoinSpec)

/-- ITS FALSE NEIGHBOUR: 'it returns false'. Refute it at one input. -/
def fnGroupsJoinWrong : ChangeSpec := { name := "fnGroupsJoin", fn := fun _ => fun
  | [d] => { results := [.lit (.bool false)], args := [d] }
  | _ => none }
def FnGroupsJoinWrongFalsely : Prop := fnGroupsJoinRow.holds Try.pinned (OpenSpec.ofChange fnGroupsJoinWrong)

/-- 'laws.FnExactFormulasWeight': WHATEVER THE INPUT: true; the input reads as it did. -/
def fnExactFormulasWeightSpec : ChangeSpec := { name := "fnExactFormulasWeight", fn := fun _ => fun
  | [d1, d2] => { results := [.lit (.bool true)], args := [d1, d2] }
  | _ => none }
def fnExactFormulasWeightRow : OpenClaim := { program := "ytnjnnalnicoojaa", sum := "161746f4ae2116d34d4cf0262e33283113106456f488cc5bfc442267f915fb74", func := "loop.example/neumes/laws.FnExactFormulasWeight", spec := "fnExactFormulasWeight", apart := false }
def FnExactFormulasWeightSaid : Prop := fnExactFormulasWeightRow.holds Try.pinned (OpenSpec.ofChange fnExactFormulasWeightSpec)

/-- ITS FALSE NEIGHBOUR: 'it returns false'. Refute it at one input. -/
def fnExactFormulasWeightWrong : ChangeSpec := { name := "fnExactFormulasWeight", fn := fun _ => fun
  | [d1, d2] => { results := [.lit (.bool false)], args := [d1, d2] }
  | _ => none }
def FnExactFormulasWeightWrongFalsely : Prop := fnExactFormulasWeightRow.holds Try.pinned (OpenSpec.ofChange fnExactFormulasWeightWrong)

/- THE SECOND FORM. 'bulk': how many values and letters a reading holds, each counted each time it is reached (what is shared counts as often as it is met; a slice's spare places count too). A statement '..UptoSaid' is the law's where the arguments, and the package variables that the reading takes, are together of bulk at most 1048576: NARROWER than '..Said'. Prove '..Said' where nothing that the law and all that it calls make is longer than what came in: it says more and counts as full. Else prove '..UptoSaid'. A law counts once. -/
mutual
def uptoBulk {H : Type} : DataW H → Nat
  | .lit (.string bytes) => bytes.length + 1
  | .lit _ => 1
  | .nil => 1
  | .ptr d => uptoBulk d + 1
  | .slice elems spare => uptoBulkAll elems + uptoBulkAll spare + 1
  | .agg parts => uptoBulkAll parts + 1
  | .iface _ d => uptoBulk d + 1
  | .map entries => uptoBulkEntries entries + 1
  | .held _ => 1
def uptoBulkAll {H : Type} : List (DataW H) → Nat
  | [] => 0
  | d :: r => uptoBulk d + uptoBulkAll r
def uptoBulkEntries {H : Type} : List (Lit × DataW H) → Nat
  | [] => 0
  | x :: r => uptoBulkEntry x + uptoBulkEntries r
def uptoBulkEntry {H : Type} : Lit × DataW H → Nat
  | (.string bytes, d) => bytes.length + uptoBulk d + 1
  | (_, d) => uptoBulk d + 1
 end
def uptoSmall : (H : Type) → List (DataW H) → Bool := fun _ ds => decide (uptoBulkAll ds ≤ 1048576)
def OpenSpec.upto (s : _root_.Go.ChangeSpec) : _root_.Go.OpenSpec := { _root_.Go.OpenSpec.ofChange s with cond := some uptoSmall }

/-- 'laws.FnGroupsJoin', WHERE WHAT IT READS IS OF BULK AT MOST 1048576: true; the input reads as it did. -/
def fnGroupsJoinUptoRow : OpenClaim := { program := "ytnjnnalnicoojaa", sum := "161746f4ae2116d34d4cf0262e33283113106456f488cc5bfc442267f915fb74", func := "loop.example/neumes/laws.FnGroupsJoin", spec := "fnGroupsJoin", apart := false, narrowed := true }
def FnGroupsJoinUptoSaid : Prop := fnGroupsJoinUptoRow.holds Try.pinned (OpenSpec.upto fnGroupsJoinSpec)

/-- 'laws.FnExactFormulasWeight', WHERE WHAT IT READS IS OF BULK AT MOST 1048576: true; the input reads as it did. -/
def fnExactFormulasWeightUptoRow : OpenClaim := { program := "ytnjnnalnicoojaa", sum := "161746f4ae2116d34d4cf0262e33283113106456f488cc5bfc442267f915fb74", func := "loop.example/neumes/laws.FnExactFormulasWeight", spec := "fnExactFormulasWeight", apart := false, narrowed := true }
def FnExactFormulasWeightUptoSaid : Prop := fnExactFormulasWeightUptoRow.holds Try.pinned (OpenSpec.upto fnExactFormulasWeightSpec)

end Rows
end Go.Proofs.Ytnjnnalnicoojaa
