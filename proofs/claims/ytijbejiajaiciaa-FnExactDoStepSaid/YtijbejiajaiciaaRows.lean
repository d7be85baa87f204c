/-
  No cell of these rows narrows 'for every input' (looked for: loops, veiled, ifaces, maps, wideKeys, modest, calm, conditions, laid).
  DERIVED. THE GIVEN ROWS OF THIS SEAT. 7 by the template 'for every input the law returns true; each argument reads behind the call as it read before'; 0 by the template 'total and deterministic' (their statements: YtijbejiajaiciaaTotals.lean).
  GIVEN WITH THE SEED: the statements are not yours to turn. If you find one false, say at which input.
  Laid BY PROGRAM, IN A SANDBOX (cutbox-rows.mjs): the forced cells as the released guide's own fill.sh prints them over the translation ec8963926bbfb607… (all of the seat's roots in one cut). By AI agents, Wed Nov 11 2026. No macro, syntax, notation, axiom, sorry.
-/
import Derived.Test.YtijbejiajaiciaaChecked
import GoSem.Claim
import GoSem.ClaimJoined
import GoSem.ClaimMapViews
import Derived.JoinedTies
import Derived.KernelRfl
namespace Go.Proofs.Ytijbejiajaiciaa
/- THE CELL 'sum', in the pinned program and in every row, IS THE sha256 OF THE DUMP (.gsa) THAT YtijbejiajaiciaaProg.lean LOADS. Nothing in Lean hashes anything: it is a label: what it is worth is what the hold of that sum in a sandbox is worth. -/
noncomputable def Try.pinned : Pinned := { name := "ytijbejiajaiciaa", sum := "ec8963926bbfb607069e09a90de94ed6072cc7066dae075acd395e8c35acec91", checked := Try.checked }
namespace Rows
def none {H : Type} : Left H := { results := [], args := [] }

/-- 'laws.FnExactStoreNew': WHATEVER THE INPUT: true; the input reads as it did. -/
def fnExactStoreNewSpec : ChangeSpec := { name := "fnExactStoreNew", fn := fun _ => fun
  | [] => { results := [.lit (.bool true)], args := [] }
  | _ => none }
def fnExactStoreNewRow : OpenClaim := { program := "ytijbejiajaiciaa", sum := "ec8963926bbfb607069e09a90de94ed6072cc7066dae075acd395e8c35acec91", func := "loop.example/g00195/laws.FnExactStoreNew", spec := "fnExactStoreNew", apart := false }
def FnExactStoreNewSaid : Prop := fnExactStoreNewRow.holds Try.pinned (OpenSpec.ofChange fnExactStoreNewSpec)

/-- ITS FALSE NEIGHBOUR: 'it returns false'. Refute it at one input. -/
def fnExactStoreNewWrong : ChangeSpec := { name := "fnExactStoreNew", fn := fun _ => fun
  | [] => { results := [.lit (.bool false)], args := [] }
  | _ => none }
def FnExactStoreNewWrongFalsely : Prop := fnExactStoreNewRow.holds Try.pinned (OpenSpec.ofChange fnExactStoreNewWrong)

/-- 'laws.FnExactSinceBase': WHATEVER THE INPUT: true; the input reads as it did. -/
def fnExactSinceBaseSpec : ChangeSpec := { name := "fnExactSinceBase", fn := fun _ => fun
  | [d] => { results := [.lit (.bool true)], args := [d] }
  | _ => none }
def fnExactSinceBaseRow : OpenClaim := { program := "ytijbejiajaiciaa", sum := "ec8963926bbfb607069e09a90de94ed6072cc7066dae075acd395e8c35acec91", func := "loop.example/g00195/laws.FnExactSinceBase", spec := "fnExactSinceBase", apart := false }
def FnExactSinceBaseSaid : Prop := fnExactSinceBaseRow.holds Try.pinned (OpenSpec.ofChange fnExactSinceBaseSpec)

/-- ITS FALSE NEIGHBOUR: 'it returns false'. Refute it at one input. -/
def fnExactSinceBaseWrong : ChangeSpec := { name := "fnExactSinceBase", fn := fun _ => fun
  | [d] => { results := [.lit (.bool false)], args := [d] }
  | _ => none }
def FnExactSinceBaseWrongFalsely : Prop := fnExactSinceBaseRow.holds Try.pinned (OpenSpec.ofChange fnExactSinceBaseWrong)

/-- 'laws.FnExactAllAt': WHATEVER THE INPUT: true; the input reads as it did. -/
def fnExactAllAtSpec : ChangeSpec := { name := "fnExactAllAt", fn := fun _ => fun
  | [d1, d2] => { results := [.lit (.bool true)], args := [d1, d2] }
  | _ => none }
def fnExactAllAtRow : OpenClaim := { program := "ytijbejiajaiciaa", sum := "ec8963926bbfb607069e09a90de94ed6072cc7066dae075acd395e8c35acec91", func := "loop.example/g00195/laws.FnExactAllAt", spec := "fnExactAllAt", apart := false }
def FnExactAllAtSaid : Prop := fnExactAllAtRow.holds Try.pinned (OpenSpec.ofChange fnExactAllAtSpec)

/-- ITS FALSE NEIGHBOUR: 'it returns false'. Refute it at one input. -/
def fnExactAllAtWrong : ChangeSpec := { name := "fnExactAllAt", fn := fun _ => fun
  | [d1, d2] => { results := [.lit (.bool false)], args := [d1, d2] }
  | _ => none }
def FnExactAllAtWrongFalsely : Prop := fnExactAllAtRow.holds Try.pinned (OpenSpec.ofChange fnExactAllAtWrong)

/-- 'laws.FnExactFreeBlocks': WHATEVER THE INPUT: true; the input reads as it did. -/
def fnExactFreeBlocksSpec : ChangeSpec := { name := "fnExactFreeBlocks", fn := fun _ => fun
  | [d] => { results := [.lit (.bool true)], args := [d] }
  | _ => none }
def fnExactFreeBlocksRow : OpenClaim := { program := "ytijbejiajaiciaa", sum := "ec8963926bbfb607069e09a90de94ed6072cc7066dae075acd395e8c35acec91", func := "loop.example/g00195/laws.FnExactFreeBlocks", spec := "fnExactFreeBlocks", apart := false }
def FnExactFreeBlocksSaid : Prop := fnExactFreeBlocksRow.holds Try.pinned (OpenSpec.ofChange fnExactFreeBlocksSpec)

/-- ITS FALSE NEIGHBOUR: 'it returns false'. Refute it at one input. -/
def fnExactFreeBlocksWrong : ChangeSpec := { name := "fnExactFreeBlocks", fn := fun _ => fun
  | [d] => { results := [.lit (.bool false)], args := [d] }
  | _ => none }
def FnExactFreeBlocksWrongFalsely : Prop := fnExactFreeBlocksRow.holds Try.pinned (OpenSpec.ofChange fnExactFreeBlocksWrong)

/-- 'laws.FnExactDoStep': WHATEVER THE INPUT: true; the input reads as it did. -/
def fnExactDoStepSpec : ChangeSpec := { name := "fnExactDoStep", fn := fun _ => fun
  | [d1, d2] => { results := [.lit (.bool true)], args := [d1, d2] }
  | _ => none }
def fnExactDoStepRow : OpenClaim := { program := "ytijbejiajaiciaa", sum := "ec8963926bbfb607069e09a90de94ed6072cc7066dae075acd395e8c35acec91", func := "loop.example/g00195/laws.FnExactDoStep", spec := "fnExactDoStep", apart := false }
def FnExactDoStepSaid : Prop := fnExactDoStepRow.holds Try.pinned (OpenSpec.ofChange fnExactDoStepSpec)

/-- ITS FALSE NEIGHBOUR: 'it returns false'. Refute it at one input. -/
def fnExactDoStepWrong : ChangeSpec := { name := "fnExactDoStep", fn := fun _ => fun
  | [d1, d2] => { results := [.lit (.bool false)], args := [d1, d2] }
  | _ => none }
def FnExactDoStepWrongFalsely : Prop := fnExactDoStepRow.holds Try.pinned (OpenSpec.ofChange fnExactDoStepWrong)

/-- 'laws.FnExactBaseRecs': WHATEVER THE INPUT: true; the input reads as it did. -/
def fnExactBaseRecsSpec : ChangeSpec := { name := "fnExactBaseRecs", fn := fun _ => fun
  | [d] => { results := [.lit (.bool true)], args := [d] }
  | _ => none }
def fnExactBaseRecsRow : OpenClaim := { program := "ytijbejiajaiciaa", sum := "ec8963926bbfb607069e09a90de94ed6072cc7066dae075acd395e8c35acec91", func := "loop.example/g00195/laws.FnExactBaseRecs", spec := "fnExactBaseRecs", apart := false }
def FnExactBaseRecsSaid : Prop := fnExactBaseRecsRow.holds Try.pinned (OpenSpec.ofChange fnExactBaseRecsSpec)

/-- ITS FALSE NEIGHBOUR: 'it returns false'. Refute it at one input. -/
def fnExactBaseRecsWrong : ChangeSpec := { name := "fnExactBaseRecs", fn := fun _ => fun
  | [d] => { results := [.lit (.bool false)], args := [d] }
  | _ => none }
def FnExactBaseRecsWrongFalsely : Prop := fnExactBaseRecsRow.holds Try.pinned (OpenSpec.ofChange fnExactBaseRecsWrong)

/-- 'laws.FnExactDoSteps': WHATEVER THE INPUT: true; the input reads as it did. -/
def fnExactDoStepsSpec : ChangeSpec := { name := "fnExactDoSteps", fn := fun _ => fun
  | [d1, d2] => { results := [.lit (.bool true)], args := [d1, d2] }
  | _ => none }
def fnExactDoStepsRow : OpenClaim := { program := "ytijbejiajaiciaa", sum := "ec8963926bbfb607069e09a90de94ed6072cc7066dae075acd395e8c35acec91", func := "loop.example/g00195/laws.FnExactDoSteps", spec := "fnExactDoSteps", apart := false }
def FnExactDoStepsSaid : Prop := fnExactDoStepsRow.holds Try.pinned (OpenSpec.ofChange fnExactDoStepsSpec)

/-- ITS FALSE NEIGHBOUR: 'it returns false'. Refute it at one input. -/
def fnExactDoStepsWrong : ChangeSpec := { name := "fnExactDoSteps", fn := fun _ => fun
  | [d1, d2] => { results := [.lit (.bool false)], args := [d1, d2] }
  | _ => none }
def FnExactDoStepsWrongFalsely : Prop := fnExactDoStepsRow.holds Try.pinned (OpenSpec.ofChange fnExactDoStepsWrong)

/- THE SECOND FORM. 'bulk': how many values and letters a reading holds, each counted each time it is reached (what is shared counts as often as it is met; a slice's spare places count too). A statement '..UptoSaid' is the law's where the arguments, and the package variables that the reading takes, are together of bulk at most 1048576: NARROWER than '..Said'. Prove '..Said' where nothing that the law and all that it calls make is longer than what came in: it says more and counts as full. Else prove '..UptoSaid'. A law counts once. -/
mutual
def uptoBulk {H : Type} : DataW H → Nat
  | .lit (.string bytes) => bytes.length + 1
  | .lit _ => 1
  | .nil => 1
  | .ptr d => uptoBulk d + 1
  | .slice elems spare => uptoBulkAll elems + uptoBulkAll spare + 1
  | .agg parts => uptoBulkAll parts + 1
  | .iface _ d => uptoBulk d + 1
  | .map entries => uptoBulkEntries entries + 1
  | .held _ => 1
def uptoBulkAll {H : Type} : List (DataW H) → Nat
  | [] => 0
  | d :: r => uptoBulk d + uptoBulkAll r
def uptoBulkEntries {H : Type} : List (Lit × DataW H) → Nat
  | [] => 0
  | x :: r => uptoBulkEntry x + uptoBulkEntries r
def uptoBulkEntry {H : Type} : Lit × DataW H → Nat
  | (.string bytes, d) => bytes.length + uptoBulk d + 1
  | (_, d) => uptoBulk d + 1
 end
def uptoSmall : (H : Type) → List (DataW H) → Bool := fun _ ds => decide (uptoBulkAll ds ≤ 1048576)
def OpenSpec.upto (s : _root_.Go.ChangeSpec) : _root_.Go.OpenSpec := { _root_.Go.OpenSpec.ofChange s with cond := some uptoSmall }

/-- 'laws.FnExactStoreNew', WHERE WHAT IT READS IS OF BULK AT MOST 1048576: true; the input reads as it did. -/
def fnExactStoreNewUptoRow : OpenClaim := { program := "ytijbejiajaiciaa", sum := "ec8963926bbfb607069e09a90de94ed6072cc7066dae075acd395e8c35acec91", func := "loop.example/g00195/laws.FnExactStoreNew", spec := "fnExactStoreNew", apart := false, narrowed := true }
def FnExactStoreNewUptoSaid : Prop := fnExactStoreNewUptoRow.holds Try.pinned (OpenSpec.upto fnExactStoreNewSpec)

/-- 'laws.FnExactSinceBase', WHERE WHAT IT READS IS OF BULK AT MOST 1048576: true; the input reads as it did. -/
def fnExactSinceBaseUptoRow : OpenClaim := { program := "ytijbejiajaiciaa", sum := "ec8963926bbfb607069e09a90de94ed6072cc7066dae075acd395e8c35acec91", func := "loop.example/g00195/laws.FnExactSinceBase", spec := "fnExactSinceBase", apart := false, narrowed := true }
def FnExactSinceBaseUptoSaid : Prop := fnExactSinceBaseUptoRow.holds Try.pinned (OpenSpec.upto fnExactSinceBaseSpec)

/-- 'laws.FnExactAllAt', WHERE WHAT IT READS IS OF BULK AT MOST 1048576: true; the input reads as it did. -/
def fnExactAllAtUptoRow : OpenClaim := { program := "ytijbejiajaiciaa", sum := "ec8963926bbfb607069e09a90de94ed6072cc7066dae075acd395e8c35acec91", func := "loop.example/g00195/laws.FnExactAllAt", spec := "fnExactAllAt", apart := false, narrowed := true }
def FnExactAllAtUptoSaid : Prop := fnExactAllAtUptoRow.holds Try.pinned (OpenSpec.upto fnExactAllAtSpec)

/-- 'laws.FnExactFreeBlocks', WHERE WHAT IT READS IS OF BULK AT MOST 1048576: true; the input reads as it did. -/
def fnExactFreeBlocksUptoRow : OpenClaim := { program := "ytijbejiajaiciaa", sum := "ec8963926bbfb607069e09a90de94ed6072cc7066dae075acd395e8c35acec91", func := "loop.example/g00195/laws.FnExactFreeBlocks", spec := "fnExactFreeBlocks", apart := false, narrowed := true }
def FnExactFreeBlocksUptoSaid : Prop := fnExactFreeBlocksUptoRow.holds Try.pinned (OpenSpec.upto fnExactFreeBlocksSpec)

/-- 'laws.FnExactDoStep', WHERE WHAT IT READS IS OF BULK AT MOST 1048576: true; the input reads as it did. -/
def fnExactDoStepUptoRow : OpenClaim := { program := "ytijbejiajaiciaa", sum := "ec8963926bbfb607069e09a90de94ed6072cc7066dae075acd395e8c35acec91", func := "loop.example/g00195/laws.FnExactDoStep", spec := "fnExactDoStep", apart := false, narrowed := true }
def FnExactDoStepUptoSaid : Prop := fnExactDoStepUptoRow.holds Try.pinned (OpenSpec.upto fnExactDoStepSpec)

/-- 'laws.FnExactBaseRecs', WHERE WHAT IT READS IS OF BULK AT MOST 1048576: true; the input reads as it did. -/
def fnExactBaseRecsUptoRow : OpenClaim := { program := "ytijbejiajaiciaa", sum := "ec8963926bbfb607069e09a90de94ed6072cc7066dae075acd395e8c35acec91", func := "loop.example/g00195/laws.FnExactBaseRecs", spec := "fnExactBaseRecs", apart := false, narrowed := true }
def FnExactBaseRecsUptoSaid : Prop := fnExactBaseRecsUptoRow.holds Try.pinned (OpenSpec.upto fnExactBaseRecsSpec)

/-- 'laws.FnExactDoSteps', WHERE WHAT IT READS IS OF BULK AT MOST 1048576: true; the input reads as it did. -/
def fnExactDoStepsUptoRow : OpenClaim := { program := "ytijbejiajaiciaa", sum := "ec8963926bbfb607069e09a90de94ed6072cc7066dae075acd395e8c35acec91", func := "loop.example/g00195/laws.FnExactDoSteps", spec := "fnExactDoSteps", apart := false, narrowed := true }
def FnExactDoStepsUptoSaid : Prop := fnExactDoStepsUptoRow.holds Try.pinned (OpenSpec.upto fnExactDoStepsSpec)

end Rows
end Go.Proofs.Ytijbejiajaiciaa
