/-
  No cell of these rows narrows 'for every input' (looked for: loops, veiled, ifaces, maps, wideKeys, modest, calm, conditions, laid).
  DERIVED. THE GIVEN ROWS OF THIS SEAT. 5 by the template 'for every input the law returns true; each argument reads behind the call as it read before'; 0 by the template 'total and deterministic' (their statements: YtklkhnomnanpoaaTotals.lean).
  GIVEN WITH THE SEED: the statements are not yours to turn. If you find one false, say at which input.
  Laid BY PROGRAM, IN A SANDBOX (cutbox-rows.mjs): the forced cells as the released guide's own fill.sh prints them over the translation 8645e845ffdae6f3… (all of the seat's roots in one cut). By AI agents, Wed Nov 11 2026. No macro, syntax, notation, axiom, sorry.
-/
import Derived.Test.YtklkhnomnanpoaaChecked
import GoSem.Claim
import GoSem.ClaimJoined
import GoSem.ClaimMapViews
import Derived.JoinedTies
import Derived.KernelRfl
namespace Go.Proofs.Ytklkhnomnanpoaa
/- THE CELL 'sum', in the pinned program and in every row, IS THE sha256 OF THE DUMP (.gsa) THAT YtklkhnomnanpoaaProg.lean LOADS. Nothing in Lean hashes anything: it is a label: what it is worth is what the hold of that sum in a sandbox is worth. -/
noncomputable def Try.pinned : Pinned := { name := "ytklkhnomnanpoaa", sum := "8645e845ffdae6f397a0fb76c5bb005e6e0e8dee9246afe0d4f200e25a809980", checked := Try.checked }
namespace Rows
def none {H : Type} : Left H := { results := [], args := [] }

/-- 'laws.FnExactLiveOf': WHATEVER THE INPUT: true; the input reads as it did. -/
def fnExactLiveOfSpec : ChangeSpec := { name := "fnExactLiveOf", fn := fun _ => fun
  | [d] => { results := [.lit (.bool true)], args := [d] }
  | _ => none }
def fnExactLiveOfRow : OpenClaim := { program := "ytklkhnomnanpoaa", sum := "8645e845ffdae6f397a0fb76c5bb005e6e0e8dee9246afe0d4f200e25a809980", func := "loop.example/g00195/laws.FnExactLiveOf", spec := "fnExactLiveOf", recurses := true, apart := false }
def FnExactLiveOfSaid : Prop := fnExactLiveOfRow.holds Try.pinned (OpenSpec.ofChange fnExactLiveOfSpec)

/-- ITS FALSE NEIGHBOUR: 'it returns false'. Refute it at one input. -/
def fnExactLiveOfWrong : ChangeSpec := { name := "fnExactLiveOf", fn := fun _ => fun
  | [d] => { results := [.lit (.bool false)], args := [d] }
  | _ => none }
def FnExactLiveOfWrongFalsely : Prop := fnExactLiveOfRow.holds Try.pinned (OpenSpec.ofChange fnExactLiveOfWrong)

/-- 'laws.FnExactTorment': WHATEVER THE INPUT: true; the input reads as it did. -/
def fnExactTormentSpec : ChangeSpec := { name := "fnExactTorment", fn := fun _ => fun
  | [d1, d2] => { results := [.lit (.bool true)], args := [d1, d2] }
  | _ => none }
def fnExactTormentRow : OpenClaim := { program := "ytklkhnomnanpoaa", sum := "8645e845ffdae6f397a0fb76c5bb005e6e0e8dee9246afe0d4f200e25a809980", func := "loop.example/g00195/laws.FnExactTorment", spec := "fnExactTorment", apart := false }
def FnExactTormentSaid : Prop := fnExactTormentRow.holds Try.pinned (OpenSpec.ofChange fnExactTormentSpec)

/-- ITS FALSE NEIGHBOUR: 'it returns false'. Refute it at one input. -/
def fnExactTormentWrong : ChangeSpec := { name := "fnExactTorment", fn := fun _ => fun
  | [d1, d2] => { results := [.lit (.bool false)], args := [d1, d2] }
  | _ => none }
def FnExactTormentWrongFalsely : Prop := fnExactTormentRow.holds Try.pinned (OpenSpec.ofChange fnExactTormentWrong)

/-- 'laws.FnExactCutSteps': WHATEVER THE INPUT: true; the input reads as it did. -/
def fnExactCutStepsSpec : ChangeSpec := { name := "fnExactCutSteps", fn := fun _ => fun
  | [d1, d2, d3, d4] => { results := [.lit (.bool true)], args := [d1, d2, d3, d4] }
  | _ => none }
def fnExactCutStepsRow : OpenClaim := { program := "ytklkhnomnanpoaa", sum := "8645e845ffdae6f397a0fb76c5bb005e6e0e8dee9246afe0d4f200e25a809980", func := "loop.example/g00195/laws.FnExactCutSteps", spec := "fnExactCutSteps", apart := false }
def FnExactCutStepsSaid : Prop := fnExactCutStepsRow.holds Try.pinned (OpenSpec.ofChange fnExactCutStepsSpec)

/-- ITS FALSE NEIGHBOUR: 'it returns false'. Refute it at one input. -/
def fnExactCutStepsWrong : ChangeSpec := { name := "fnExactCutSteps", fn := fun _ => fun
  | [d1, d2, d3, d4] => { results := [.lit (.bool false)], args := [d1, d2, d3, d4] }
  | _ => none }
def FnExactCutStepsWrongFalsely : Prop := fnExactCutStepsRow.holds Try.pinned (OpenSpec.ofChange fnExactCutStepsWrong)

/-- 'laws.FnSteps': WHATEVER THE INPUT: true; the input reads as it did. -/
def fnStepsSpec : ChangeSpec := { name := "fnSteps", fn := fun _ => fun
  | [d] => { results := [.lit (.bool true)], args := [d] }
  | _ => none }
def fnStepsRow : OpenClaim := { program := "ytklkhnomnanpoaa", sum := "8645e845ffdae6f397a0fb76c5bb005e6e0e8dee9246afe0d4f200e25a809980", func := "loop.example/g00195/laws.FnSteps", spec := "fnSteps", apart := false }
def FnStepsSaid : Prop := fnStepsRow.holds Try.pinned (OpenSpec.ofChange fnStepsSpec)

/-- ITS FALSE NEIGHBOUR: 'it returns false'. Refute it at one input. -/
def fnStepsWrong : ChangeSpec := { name := "fnSteps", fn := fun _ => fun
  | [d] => { results := [.lit (.bool false)], args := [d] }
  | _ => none }
def FnStepsWrongFalsely : Prop := fnStepsRow.holds Try.pinned (OpenSpec.ofChange fnStepsWrong)

/-- 'laws.FnCuts': WHATEVER THE INPUT: true; the input reads as it did. -/
def fnCutsSpec : ChangeSpec := { name := "fnCuts", fn := fun _ => fun
  | [d] => { results := [.lit (.bool true)], args := [d] }
  | _ => none }
def fnCutsRow : OpenClaim := { program := "ytklkhnomnanpoaa", sum := "8645e845ffdae6f397a0fb76c5bb005e6e0e8dee9246afe0d4f200e25a809980", func := "loop.example/g00195/laws.FnCuts", spec := "fnCuts", apart := false }
def FnCutsSaid : Prop := fnCutsRow.holds Try.pinned (OpenSpec.ofChange fnCutsSpec)

/-- ITS FALSE NEIGHBOUR: 'it returns false'. Refute it at one input. -/
def fnCutsWrong : ChangeSpec := { name := "fnCuts", fn := fun _ => fun
  | [d] => { results := [.lit (.bool false)], args := [d] }
  | _ => none }
def FnCutsWrongFalsely : Prop := fnCutsRow.holds Try.pinned (OpenSpec.ofChange fnCutsWrong)

/- THE SECOND FORM. 'bulk': how many values and letters a reading holds, each counted each time it is reached (what is shared counts as often as it is met; a slice's spare places count too). A statement '..UptoSaid' is the law's where the arguments, and the package variables that the reading takes, are together of bulk at most 1048576: NARROWER than '..Said'. Prove '..Said' where nothing that the law and all that it calls make is longer than what came in: it says more and counts as full. Else prove '..UptoSaid'. A law counts once. -/
mutual
def uptoBulk {H : Type} : DataW H → Nat
  | .lit (.string bytes) => bytes.length + 1
  | .lit _ => 1
  | .nil => 1
  | .ptr d => uptoBulk d + 1
  | .slice elems spare => uptoBulkAll elems + uptoBulkAll spare + 1
  | .agg parts => uptoBulkAll parts + 1
  | .iface _ d => uptoBulk d + 1
  | .map entries => uptoBulkEntries entries + 1
  | .held _ => 1
def uptoBulkAll {H : Type} : List (DataW H) → Nat
  | [] => 0
  | d :: r => uptoBulk d + uptoBulkAll r
def uptoBulkEntries {H : Type} : List (Lit × DataW H) → Nat
  | [] => 0
  | x :: r => uptoBulkEntry x + uptoBulkEntries r
def uptoBulkEntry {H : Type} : Lit × DataW H → Nat
  | (.string bytes, d) => bytes.length + uptoBulk d + 1
  | (_, d) => uptoBulk d + 1
 end
def uptoSmall : (H : Type) → List (DataW H) → Bool := fun _ ds => decide (uptoBulkAll ds ≤ 1048576)
def OpenSpec.upto (s : _root_.Go.ChangeSpec) : _root_.Go.OpenSpec := { _root_.Go.OpenSpec.ofChange s with cond := some uptoSmall }

/-- 'laws.FnExactLiveOf', WHERE WHAT IT READS IS OF BULK AT MOST 1048576: true; the input reads as it did. -/
def fnExactLiveOfUptoRow : OpenClaim := { program := "ytklkhnomnanpoaa", sum := "8645e845ffdae6f397a0fb76c5bb005e6e0e8dee9246afe0d4f200e25a809980", func := "loop.example/g00195/laws.FnExactLiveOf", spec := "fnExactLiveOf", recurses := true, apart := false, narrowed := true }
def FnExactLiveOfUptoSaid : Prop := fnExactLiveOfUptoRow.holds Try.pinned (OpenSpec.upto fnExactLiveOfSpec)

/-- 'laws.FnExactTorment', WHERE WHAT IT READS IS OF BULK AT MOST 1048576: true; the input reads as it did. -/
def fnExactTormentUptoRow : OpenClaim := { program := "ytklkhnomnanpoaa", sum := "8645e845ffdae6f397a0fb76c5bb005e6e0e8dee9246afe0d4f200e25a809980", func := "loop.example/g00195/laws.FnExactTorment", spec := "fnExactTorment", apart := false, narrowed := true }
def FnExactTormentUptoSaid : Prop := fnExactTormentUptoRow.holds Try.pinned (OpenSpec.upto fnExactTormentSpec)

/-- 'laws.FnExactCutSteps', WHERE WHAT IT READS IS OF BULK AT MOST 1048576: true; the input reads as it did. -/
def fnExactCutStepsUptoRow : OpenClaim := { program := "ytklkhnomnanpoaa", sum := "8645e845ffdae6f397a0fb76c5bb005e6e0e8dee9246afe0d4f200e25a809980", func := "loop.example/g00195/laws.FnExactCutSteps", spec := "fnExactCutSteps", apart := false, narrowed := true }
def FnExactCutStepsUptoSaid : Prop := fnExactCutStepsUptoRow.holds Try.pinned (OpenSpec.upto fnExactCutStepsSpec)

/-- 'laws.FnSteps', WHERE WHAT IT READS IS OF BULK AT MOST 1048576: true; the input reads as it did. -/
def fnStepsUptoRow : OpenClaim := { program := "ytklkhnomnanpoaa", sum := "8645e845ffdae6f397a0fb76c5bb005e6e0e8dee9246afe0d4f200e25a809980", func := "loop.example/g00195/laws.FnSteps", spec := "fnSteps", apart := false, narrowed := true }
def FnStepsUptoSaid : Prop := fnStepsUptoRow.holds Try.pinned (OpenSpec.upto fnStepsSpec)

/-- 'laws.FnCuts', WHERE WHAT IT READS IS OF BULK AT MOST 1048576: true; the input reads as it did. -/
def fnCutsUptoRow : OpenClaim := { program := "ytklkhnomnanpoaa", sum := "8645e845ffdae6f397a0fb76c5bb005e6e0e8dee9246afe0d4f200e25a809980", func := "loop.example/g00195/laws.FnCuts", spec := "fnCuts", apart := false, narrowed := true }
def FnCutsUptoSaid : Prop := fnCutsUptoRow.holds Try.pinned (OpenSpec.upto fnCutsSpec)

end Rows
end Go.Proofs.Ytklkhnomnanpoaa
