/-
  No cell of these rows narrows 'for every input' (looked for: loops, veiled, ifaces, maps, wideKeys, modest, calm, conditions, laid).
  DERIVED. THE GIVEN ROWS OF THIS SEAT. 9 by the template 'for every input the law returns true; each argument reads behind the call as it read before'; 0 by the template 'total and deterministic' (their statements: YtnemcppllfmioaaTotals.lean).
  GIVEN WITH THE SEED: the statements are not yours to turn. If you find one false, say at which input.
  Laid BY PROGRAM, IN A SANDBOX (cutbox-rows.mjs): the forced cells as the released guide's own fill.sh prints them over the translation dd966a3883adf9f3… (all of the seat's roots in one cut). By AI agents, Wed Nov 11 2026. No macro, syntax, notation, axiom, sorry.
-/
import Derived.Test.YtnemcppllfmioaaChecked
import GoSem.Claim
import GoSem.ClaimJoined
import GoSem.ClaimMapViews
import Derived.JoinedTies
import Derived.KernelRfl
namespace Go.Proofs.Ytnemcppllfmioaa
/- THE CELL 'sum', in the pinned program and in every row, IS THE sha256 OF THE DUMP (.gsa) THAT YtnemcppllfmioaaProg.lean LOADS. Nothing in Lean hashes anything: it is a label: what it is worth is what the hold of that sum in a sandbox is worth. -/
noncomputable def Try.pinned : Pinned := { name := "ytnemcppllfmioaa", sum := "dd966a3883adf9f3cc97aa2077531733f5fc6887b54da68d385961d92392de19", checked := Try.checked }
namespace Rows
def none {H : Type} : Left H := { results := [], args := [] }

/-- 'laws.FnGroupsSplit': WHATEVER THE INPUT: true; the input reads as it did. -/
def fnGroupsSplitSpec : ChangeSpec := { name := "fnGroupsSplit", fn := fun _ => fun
  | [d] => { results := [.lit (.bool true)], args := [d] }
  | _ => none }
def fnGroupsSplitRow : OpenClaim := { program := "ytnemcppllfmioaa", sum := "dd966a3883adf9f3cc97aa2077531733f5fc6887b54da68d385961d92392de19", func := "loop.example/neumes/laws.FnGroupsSplit", spec := "fnGroupsSplit", unfollowed := true, recurses := true, apart := false }
def FnGroupsSplitSaid : Prop := fnGroupsSplitRow.holds Try.pinned (OpenSpec.ofChange fnGroupsSplitSpec)

/-- ITS FALSE NEIGHBOUR: 'it returns false'. Refute it at one input. -/
def fnGroupsSplitWrong : ChangeSpec := { name := "fnGroupsSplit", fn := fun _ => fun
  | [d] => { results := [.lit (.bool false)], args := [d] }
  | _ => none }
def FnGroupsSplitWrongFalsely : Prop := fnGroupsSplitRow.holds Try.pinned (OpenSpec.ofChange fnGroupsSplitWrong)

/-- 'laws.FnExactFormulasClear': WHATEVER THE INPUT: true; the input reads as it did. -/
def fnExactFormulasClearSpec : ChangeSpec := { name := "fnExactFormulasClear", fn := fun _ => fun
  | [d1, d2] => { results := [.lit (.bool true)], args := [d1, d2] }
  | _ => none }
def fnExactFormulasClearRow : OpenClaim := { program := "ytnemcppllfmioaa", sum := "dd966a3883adf9f3cc97aa2077531733f5fc6887b54da68d385961d92392de19", func := "loop.example/neumes/laws.FnExactFormulasClear", spec := "fnExactFormulasClear", recurses := true, apart := false }
def FnExactFormulasClearSaid : Prop := fnExactFormulasClearRow.holds Try.pinned (OpenSpec.ofChange fnExactFormulasClearSpec)

/-- ITS FALSE NEIGHBOUR: 'it returns false'. Refute it at one input. -/
def fnExactFormulasClearWrong : ChangeSpec := { name := "fnExactFormulasClear", fn := fun _ => fun
  | [d1, d2] => { results := [.lit (.bool false)], args := [d1, d2] }
  | _ => none }
def FnExactFormulasClearWrongFalsely : Prop := fnExactFormulasClearRow.holds Try.pinned (OpenSpec.ofChange fnExactFormulasClearWrong)

/-- 'laws.FnReadClear': WHATEVER THE INPUT: true; the input reads as it did. -/
def fnReadClearSpec : ChangeSpec := { name := "fnReadClear", fn := fun _ => fun
  | [d1, d2] => { results := [.lit (.bool true)], args := [d1, d2] }
  | _ => none }
def fnReadClearRow : OpenClaim := { program := "ytnemcppllfmioaa", sum := "dd966a3883adf9f3cc97aa2077531733f5fc6887b54da68d385961d92392de19", func := "loop.example/neumes/laws.FnReadClear", spec := "fnReadClear", unfollowed := true, recurses := true, apart := false }
def FnReadClearSaid : Prop := fnReadClearRow.holds Try.pinned (OpenSpec.ofChange fnReadClearSpec)

/-- ITS FALSE NEIGHBOUR: 'it returns false'. Refute it at one input. -/
def fnReadClearWrong : ChangeSpec := { name := "fnReadClear", fn := fun _ => fun
  | [d1, d2] => { results := [.lit (.bool false)], args := [d1, d2] }
  | _ => none }
def FnReadClearWrongFalsely : Prop := fnReadClearRow.holds Try.pinned (OpenSpec.ofChange fnReadClearWrong)

/-- 'laws.FnReadBest': WHATEVER THE INPUT: true; the input reads as it did. -/
def fnReadBestSpec : ChangeSpec := { name := "fnReadBest", fn := fun _ => fun
  | [d] => { results := [.lit (.bool true)], args := [d] }
  | _ => none }
def fnReadBestRow : OpenClaim := { program := "ytnemcppllfmioaa", sum := "dd966a3883adf9f3cc97aa2077531733f5fc6887b54da68d385961d92392de19", func := "loop.example/neumes/laws.FnReadBest", spec := "fnReadBest", unfollowed := true, recurses := true, apart := false }
def FnReadBestSaid : Prop := fnReadBestRow.holds Try.pinned (OpenSpec.ofChange fnReadBestSpec)

/-- ITS FALSE NEIGHBOUR: 'it returns false'. Refute it at one input. -/
def fnReadBestWrong : ChangeSpec := { name := "fnReadBest", fn := fun _ => fun
  | [d] => { results := [.lit (.bool false)], args := [d] }
  | _ => none }
def FnReadBestWrongFalsely : Prop := fnReadBestRow.holds Try.pinned (OpenSpec.ofChange fnReadBestWrong)

/-- 'laws.FnExactFormulasUsed': WHATEVER THE INPUT: true; the input reads as it did. -/
def fnExactFormulasUsedSpec : ChangeSpec := { name := "fnExactFormulasUsed", fn := fun _ => fun
  | [d1, d2] => { results := [.lit (.bool true)], args := [d1, d2] }
  | _ => none }
def fnExactFormulasUsedRow : OpenClaim := { program := "ytnemcppllfmioaa", sum := "dd966a3883adf9f3cc97aa2077531733f5fc6887b54da68d385961d92392de19", func := "loop.example/neumes/laws.FnExactFormulasUsed", spec := "fnExactFormulasUsed", unfollowed := true, recurses := true, apart := false }
def FnExactFormulasUsedSaid : Prop := fnExactFormulasUsedRow.holds Try.pinned (OpenSpec.ofChange fnExactFormulasUsedSpec)

/-- ITS FALSE NEIGHBOUR: 'it returns false'. Refute it at one input. -/
def fnExactFormulasUsedWrong : ChangeSpec := { name := "fnExactFormulasUsed", fn := fun _ => fun
  | [d1, d2] => { results := [.lit (.bool false)], args := [d1, d2] }
  | _ => none }
def FnExactFormulasUsedWrongFalsely : Prop := fnExactFormulasUsedRow.holds Try.pinned (OpenSpec.ofChange fnExactFormulasUsedWrong)

/-- 'laws.FnExactFormulasMelody': WHATEVER THE INPUT: true; the input reads as it did. -/
def fnExactFormulasMelodySpec : ChangeSpec := { name := "fnExactFormulasMelody", fn := fun _ => fun
  | [d1, d2, d3] => { results := [.lit (.bool true)], args := [d1, d2, d3] }
  | _ => none }
def fnExactFormulasMelodyRow : OpenClaim := { program := "ytnemcppllfmioaa", sum := "dd966a3883adf9f3cc97aa2077531733f5fc6887b54da68d385961d92392de19", func := "loop.example/neumes/laws.FnExactFormulasMelody", spec := "fnExactFormulasMelody", apart := false }
def FnExactFormulasMelodySaid : Prop := fnExactFormulasMelodyRow.holds Try.pinned (OpenSpec.ofChange fnExactFormulasMelodySpec)

/-- ITS FALSE NEIGHBOUR: 'it returns false'. Refute it at one input. -/
def fnExactFormulasMelodyWrong : ChangeSpec := { name := "fnExactFormulasMelody", fn := fun _ => fun
  | [d1, d2, d3] => { results := [.lit (.bool false)], args := [d1, d2, d3] }
  | _ => none }
def FnExactFormulasMelodyWrongFalsely : Prop := fnExactFormulasMelodyRow.holds Try.pinned (OpenSpec.ofChange fnExactFormulasMelodyWrong)

/-- 'laws.FnReadUsed': WHATEVER THE INPUT: true; the input reads as it did. -/
def fnReadUsedSpec : ChangeSpec := { name := "fnReadUsed", fn := fun _ => fun
  | [d] => { results := [.lit (.bool true)], args := [d] }
  | _ => none }
def fnReadUsedRow : OpenClaim := { program := "ytnemcppllfmioaa", sum := "dd966a3883adf9f3cc97aa2077531733f5fc6887b54da68d385961d92392de19", func := "loop.example/neumes/laws.FnReadUsed", spec := "fnReadUsed", unfollowed := true, recurses := true, apart := false }
def FnReadUsedSaid : Prop := fnReadUsedRow.holds Try.pinned (OpenSpec.ofChange fnReadUsedSpec)

/-- ITS FALSE NEIGHBOUR: 'it returns false'. Refute it at one input. -/
def fnReadUsedWrong : ChangeSpec := { name := "fnReadUsed", fn := fun _ => fun
  | [d] => { results := [.lit (.bool false)], args := [d] }
  | _ => none }
def FnReadUsedWrongFalsely : Prop := fnReadUsedRow.holds Try.pinned (OpenSpec.ofChange fnReadUsedWrong)

/-- 'laws.FnReadMelody': WHATEVER THE INPUT: true; the input reads as it did. -/
def fnReadMelodySpec : ChangeSpec := { name := "fnReadMelody", fn := fun _ => fun
  | [d] => { results := [.lit (.bool true)], args := [d] }
  | _ => none }
def fnReadMelodyRow : OpenClaim := { program := "ytnemcppllfmioaa", sum := "dd966a3883adf9f3cc97aa2077531733f5fc6887b54da68d385961d92392de19", func := "loop.example/neumes/laws.FnReadMelody", spec := "fnReadMelody", unfollowed := true, recurses := true, apart := false }
def FnReadMelodySaid : Prop := fnReadMelodyRow.holds Try.pinned (OpenSpec.ofChange fnReadMelodySpec)

/-- ITS FALSE NEIGHBOUR: 'it returns false'. Refute it at one input. -/
def fnReadMelodyWrong : ChangeSpec := { name := "fnReadMelody", fn := fun _ => fun
  | [d] => { results := [.lit (.bool false)], args := [d] }
  | _ => none }
def FnReadMelodyWrongFalsely : Prop := fnReadMelodyRow.holds Try.pinned (OpenSpec.ofChange fnReadMelodyWrong)

/-- 'laws.FnExactFormulasRead': WHATEVER THE INPUT: true; the input reads as it did. -/
def fnExactFormulasReadSpec : ChangeSpec := { name := "fnExactFormulasRead", fn := fun _ => fun
  | [d1, d2] => { results := [.lit (.bool true)], args := [d1, d2] }
  | _ => none }
def fnExactFormulasReadRow : OpenClaim := { program := "ytnemcppllfmioaa", sum := "dd966a3883adf9f3cc97aa2077531733f5fc6887b54da68d385961d92392de19", func := "loop.example/neumes/laws.FnExactFormulasRead", spec := "fnExactFormulasRead", unfollowed := true, recurses := true, apart := false }
def FnExactFormulasReadSaid : Prop := fnExactFormulasReadRow.holds Try.pinned (OpenSpec.ofChange fnExactFormulasReadSpec)

/-- ITS FALSE NEIGHBOUR: 'it returns false'. Refute it at one input. -/
def fnExactFormulasReadWrong : ChangeSpec := { name := "fnExactFormulasRead", fn := fun _ => fun
  | [d1, d2] => { results := [.lit (.bool false)], args := [d1, d2] }
  | _ => none }
def FnExactFormulasReadWrongFalsely : Prop := fnExactFormulasReadRow.holds Try.pinned (OpenSpec.ofChange fnExactFormulasReadWrong)

/- THE SECOND FORM. 'bulk': how many values and letters a reading holds, each counted each time it is reached (what is shared counts as often as it is met; a slice's spare places count too). A statement '..UptoSaid' is the law's where the arguments, and the package variables that the reading takes, are together of bulk at most 1048576: NARROWER than '..Said'. Prove '..Said' where nothing that the law and all that it calls make is longer than what came in: it says more and counts as full. Else prove '..UptoSaid'. A law counts once. -/
mutual
def uptoBulk {H : Type} : DataW H → Nat
  | .lit (.string bytes) => bytes.length + 1
  | .lit _ => 1
  | .nil => 1
  | .ptr d => uptoBulk d + 1
  | .slice elems spare => uptoBulkAll elems + uptoBulkAll spare + 1
  | .agg parts => uptoBulkAll parts + 1
  | .iface _ d => uptoBulk d + 1
  | .map entries => uptoBulkEntries entries + 1
  | .held _ => 1
def uptoBulkAll {H : Type} : List (DataW H) → Nat
  | [] => 0
  | d :: r => uptoBulk d + uptoBulkAll r
def uptoBulkEntries {H : Type} : List (Lit × DataW H) → Nat
  | [] => 0
  | x :: r => uptoBulkEntry x + uptoBulkEntries r
def uptoBulkEntry {H : Type} : Lit × DataW H → Nat
  | (.string bytes, d) => bytes.length + uptoBulk d + 1
  | (_, d) => uptoBulk d + 1
 end
def uptoSmall : (H : Type) → List (DataW H) → Bool := fun _ ds => decide (uptoBulkAll ds ≤ 1048576)
def OpenSpec.upto (s : _root_.Go.ChangeSpec) : _root_.Go.OpenSpec := { _root_.Go.OpenSpec.ofChange s with cond := some uptoSmall }

/-- 'laws.FnGroupsSplit', WHERE WHAT IT READS IS OF BULK AT MOST 1048576: true; the input reads as it did. -/
def fnGroupsSplitUptoRow : OpenClaim := { program := "ytnemcppllfmioaa", sum := "dd966a3883adf9f3cc97aa2077531733f5fc6887b54da68d385961d92392de19", func := "loop.example/neumes/laws.FnGroupsSplit", spec := "fnGroupsSplit", unfollowed := true, recurses := true, apart := false, narrowed := true }
def FnGroupsSplitUptoSaid : Prop := fnGroupsSplitUptoRow.holds Try.pinned (OpenSpec.upto fnGroupsSplitSpec)

/-- 'laws.FnExactFormulasClear', WHERE WHAT IT READS IS OF BULK AT MOST 1048576: true; the input reads as it did. -/
def fnExactFormulasClearUptoRow : OpenClaim := { program := "ytnemcppllfmioaa", sum := "dd966a3883adf9f3cc97aa2077531733f5fc6887b54da68d385961d92392de19", func := "loop.example/neumes/laws.FnExactFormulasClear", spec := "fnExactFormulasClear", recurses := true, apart := false, narrowed := true }
def FnExactFormulasClearUptoSaid : Prop := fnExactFormulasClearUptoRow.holds Try.pinned (OpenSpec.upto fnExactFormulasClearSpec)

/-- 'laws.FnReadClear', WHERE WHAT IT READS IS OF BULK AT MOST 1048576: true; the input reads as it did. -/
def fnReadClearUptoRow : OpenClaim := { program := "ytnemcppllfmioaa", sum := "dd966a3883adf9f3cc97aa2077531733f5fc6887b54da68d385961d92392de19", func := "loop.example/neumes/laws.FnReadClear", spec := "fnReadClear", unfollowed := true, recurses := true, apart := false, narrowed := true }
def FnReadClearUptoSaid : Prop := fnReadClearUptoRow.holds Try.pinned (OpenSpec.upto fnReadClearSpec)

/-- 'laws.FnReadBest', WHERE WHAT IT READS IS OF BULK AT MOST 1048576: true; the input reads as it did. -/
def fnReadBestUptoRow : OpenClaim := { program := "ytnemcppllfmioaa", sum := "dd966a3883adf9f3cc97aa2077531733f5fc6887b54da68d385961d92392de19", func := "loop.example/neumes/laws.FnReadBest", spec := "fnReadBest", unfollowed := true, recurses := true, apart := false, narrowed := true }
def FnReadBestUptoSaid : Prop := fnReadBestUptoRow.holds Try.pinned (OpenSpec.upto fnReadBestSpec)

/-- 'laws.FnExactFormulasUsed', WHERE WHAT IT READS IS OF BULK AT MOST 1048576: true; the input reads as it did. -/
def fnExactFormulasUsedUptoRow : OpenClaim := { program := "ytnemcppllfmioaa", sum := "dd966a3883adf9f3cc97aa2077531733f5fc6887b54da68d385961d92392de19", func := "loop.example/neumes/laws.FnExactFormulasUsed", spec := "fnExactFormulasUsed", unfollowed := true, recurses := true, apart := false, narrowed := true }
def FnExactFormulasUsedUptoSaid : Prop := fnExactFormulasUsedUptoRow.holds Try.pinned (OpenSpec.upto fnExactFormulasUsedSpec)

/-- 'laws.FnExactFormulasMelody', WHERE WHAT IT READS IS OF BULK AT MOST 1048576: true; the input reads as it did. -/
def fnExactFormulasMelodyUptoRow : OpenClaim := { program := "ytnemcppllfmioaa", sum := "dd966a3883adf9f3cc97aa2077531733f5fc6887b54da68d385961d92392de19", func := "loop.example/neumes/laws.FnExactFormulasMelody", spec := "fnExactFormulasMelody", apart := false, narrowed := true }
def FnExactFormulasMelodyUptoSaid : Prop := fnExactFormulasMelodyUptoRow.holds Try.pinned (OpenSpec.upto fnExactFormulasMelodySpec)

/-- 'laws.FnReadUsed', WHERE WHAT IT READS IS OF BULK AT MOST 1048576: true; the input reads as it did. -/
def fnReadUsedUptoRow : OpenClaim := { program := "ytnemcppllfmioaa", sum := "dd966a3883adf9f3cc97aa2077531733f5fc6887b54da68d385961d92392de19", func := "loop.example/neumes/laws.FnReadUsed", spec := "fnReadUsed", unfollowed := true, recurses := true, apart := false, narrowed := true }
def FnReadUsedUptoSaid : Prop := fnReadUsedUptoRow.holds Try.pinned (OpenSpec.upto fnReadUsedSpec)

/-- 'laws.FnReadMelody', WHERE WHAT IT READS IS OF BULK AT MOST 1048576: true; the input reads as it did. -/
def fnReadMelodyUptoRow : OpenClaim := { program := "ytnemcppllfmioaa", sum := "dd966a3883adf9f3cc97aa2077531733f5fc6887b54da68d385961d92392de19", func := "loop.example/neumes/laws.FnReadMelody", spec := "fnReadMelody", unfollowed := true, recurses := true, apart := false, narrowed := true }
def FnReadMelodyUptoSaid : Prop := fnReadMelodyUptoRow.holds Try.pinned (OpenSpec.upto fnReadMelodySpec)

/-- 'laws.FnExactFormulasRead', WHERE WHAT IT READS IS OF BULK AT MOST 1048576: true; the input reads as it did. -/
def fnExactFormulasReadUptoRow : OpenClaim := { program := "ytnemcppllfmioaa", sum := "dd966a3883adf9f3cc97aa2077531733f5fc6887b54da68d385961d92392de19", func := "loop.example/neumes/laws.FnExactFormulasRead", spec := "fnExactFormulasRead", unfollowed := true, recurses := true, apart := false, narrowed := true }
def FnExactFormulasReadUptoSaid : Prop := fnExactFormulasReadUptoRow.holds Try.pinned (OpenSpec.upto fnExactFormulasReadSpec)

end Rows
end Go.Proofs.Ytnemcppllfmioaa
