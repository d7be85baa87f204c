/-
  No cell of these rows narrows 'for every input' (looked for: loops, veiled, ifaces, maps, wideKeys, modest, calm, conditions, laid).
  DERIVED. THE GIVEN ROWS OF THIS SEAT. 12 by the template 'for every input the law returns true; each argument reads behind the call as it read before'; 0 by the template 'total and deterministic' (their statements: YtjlblibfbokjoaaTotals.lean).
  GIVEN WITH THE SEED: the statements are not yours to turn. If you find one false, say at which input.
  Laid BY PROGRAM, IN A SANDBOX (cutbox-rows.mjs): the forced cells as the released guide's own fill.sh prints them over the translation 426e558accd010a9… (all of the seat's roots in one cut). By AI agents, Wed Nov 11 2026. No macro, syntax, notation, axiom, sorry.
-/
import Derived.Test.YtjlblibfbokjoaaChecked
import GoSem.Claim
import GoSem.ClaimJoined
import GoSem.ClaimMapViews
import Derived.JoinedTies
import Derived.KernelRfl
namespace Go.Proofs.Ytjlblibfbokjoaa
/- THE CELL 'sum', in the pinned program and in every row, IS THE sha256 OF THE DUMP (.gsa) THAT YtjlblibfbokjoaaProg.lean LOADS. Nothing in Lean hashes anything: it is a label: what it is worth is what the hold of that sum in a sandbox is worth. -/
noncomputable def Try.pinned : Pinned := { name := "ytjlblibfbokjoaa", sum := "426e558accd010a9461e9592c562e0ddfdc95a05df8684e1c151c44a9e17b7dc", checked := Try.checked }
namespace Rows
def none {H : Type} : Left H := { results := [], args := [] }

/-- 'laws.FnExactAskOk': WHATEVER THE INPUT: true; the input reads as it did. -/
def fnExactAskOkSpec : ChangeSpec := { name := "fnExactAskOk", fn := fun _ => fun
  | [d] => { results := [.lit (.bool true)], args := [d] }
  | _ => none }
def fnExactAskOkRow : OpenClaim := { program := "ytjlblibfbokjoaa", sum := "426e558accd010a9461e9592c562e0ddfdc95a05df8684e1c151c44a9e17b7dc", func := "loop.example/g00195/laws.FnExactAskOk", spec := "fnExactAskOk", apart := false }
def FnExactAskOkSaid : Prop := fnExactAskOkRow.holds Try.pinned (OpenSpec.ofChange fnExactAskOkSpec)

/-- ITS FALSE NEIGHBOUR: 'it returns false'. Refute it at one input. -/
def fnExactAskOkWrong : ChangeSpec := { name := "fnExactAskOk", fn := fun _ => fun
  | [d] => { results := [.lit (.bool false)], args := [d] }
  | _ => none }
def FnExactAskOkWrongFalsely : Prop := fnExactAskOkRow.holds Try.pinned (OpenSpec.ofChange fnExactAskOkWrong)

/-- 'laws.FnExactRecOk': WHATEVER THE INPUT: true; the input reads as it did. -/
def fnExactRecOkSpec : ChangeSpec := { name := "fnExactRecOk", fn := fun _ => fun
  | [d] => { results := [.lit (.bool true)], args := [d] }
  | _ => none }
def fnExactRecOkRow : OpenClaim := { program := "ytjlblibfbokjoaa", sum := "426e558accd010a9461e9592c562e0ddfdc95a05df8684e1c151c44a9e17b7dc", func := "loop.example/g00195/laws.FnExactRecOk", spec := "fnExactRecOk", apart := false }
def FnExactRecOkSaid : Prop := fnExactRecOkRow.holds Try.pinned (OpenSpec.ofChange fnExactRecOkSpec)

/-- ITS FALSE NEIGHBOUR: 'it returns false'. Refute it at one input. -/
def fnExactRecOkWrong : ChangeSpec := { name := "fnExactRecOk", fn := fun _ => fun
  | [d] => { results := [.lit (.bool false)], args := [d] }
  | _ => none }
def FnExactRecOkWrongFalsely : Prop := fnExactRecOkRow.holds Try.pinned (OpenSpec.ofChange fnExactRecOkWrong)

/-- 'laws.FnExactRecText': WHATEVER THE INPUT: true; the input reads as it did. -/
def fnExactRecTextSpec : ChangeSpec := { name := "fnExactRecText", fn := fun _ => fun
  | [d] => { results := [.lit (.bool true)], args := [d] }
  | _ => none }
def fnExactRecTextRow : OpenClaim := { program := "ytjlblibfbokjoaa", sum := "426e558accd010a9461e9592c562e0ddfdc95a05df8684e1c151c44a9e17b7dc", func := "loop.example/g00195/laws.FnExactRecText", spec := "fnExactRecText", apart := false }
def FnExactRecTextSaid : Prop := fnExactRecTextRow.holds Try.pinned (OpenSpec.ofChange fnExactRecTextSpec)

/-- ITS FALSE NEIGHBOUR: 'it returns false'. Refute it at one input. -/
def fnExactRecTextWrong : ChangeSpec := { name := "fnExactRecText", fn := fun _ => fun
  | [d] => { results := [.lit (.bool false)], args := [d] }
  | _ => none }
def FnExactRecTextWrongFalsely : Prop := fnExactRecTextRow.holds Try.pinned (OpenSpec.ofChange fnExactRecTextWrong)

/-- 'laws.FnExactArenaOk': WHATEVER THE INPUT: true; the input reads as it did. -/
def fnExactArenaOkSpec : ChangeSpec := { name := "fnExactArenaOk", fn := fun _ => fun
  | [d] => { results := [.lit (.bool true)], args := [d] }
  | _ => none }
def fnExactArenaOkRow : OpenClaim := { program := "ytjlblibfbokjoaa", sum := "426e558accd010a9461e9592c562e0ddfdc95a05df8684e1c151c44a9e17b7dc", func := "loop.example/g00195/laws.FnExactArenaOk", spec := "fnExactArenaOk", apart := false }
def FnExactArenaOkSaid : Prop := fnExactArenaOkRow.holds Try.pinned (OpenSpec.ofChange fnExactArenaOkSpec)

/-- ITS FALSE NEIGHBOUR: 'it returns false'. Refute it at one input. -/
def fnExactArenaOkWrong : ChangeSpec := { name := "fnExactArenaOk", fn := fun _ => fun
  | [d] => { results := [.lit (.bool false)], args := [d] }
  | _ => none }
def FnExactArenaOkWrongFalsely : Prop := fnExactArenaOkRow.holds Try.pinned (OpenSpec.ofChange fnExactArenaOkWrong)

/-- 'laws.FnExactStoreNew': WHATEVER THE INPUT: true; the input reads as it did. -/
def fnExactStoreNewSpec : ChangeSpec := { name := "fnExactStoreNew", fn := fun _ => fun
  | [] => { results := [.lit (.bool true)], args := [] }
  | _ => none }
def fnExactStoreNewRow : OpenClaim := { program := "ytjlblibfbokjoaa", sum := "426e558accd010a9461e9592c562e0ddfdc95a05df8684e1c151c44a9e17b7dc", func := "loop.example/g00195/laws.FnExactStoreNew", spec := "fnExactStoreNew", apart := false }
def FnExactStoreNewSaid : Prop := fnExactStoreNewRow.holds Try.pinned (OpenSpec.ofChange fnExactStoreNewSpec)

/-- ITS FALSE NEIGHBOUR: 'it returns false'. Refute it at one input. -/
def fnExactStoreNewWrong : ChangeSpec := { name := "fnExactStoreNew", fn := fun _ => fun
  | [] => { results := [.lit (.bool false)], args := [] }
  | _ => none }
def FnExactStoreNewWrongFalsely : Prop := fnExactStoreNewRow.holds Try.pinned (OpenSpec.ofChange fnExactStoreNewWrong)

/-- 'laws.FnExactGetAt': WHATEVER THE INPUT: true; the input reads as it did. -/
def fnExactGetAtSpec : ChangeSpec := { name := "fnExactGetAt", fn := fun _ => fun
  | [d1, d2, d3] => { results := [.lit (.bool true)], args := [d1, d2, d3] }
  | _ => none }
def fnExactGetAtRow : OpenClaim := { program := "ytjlblibfbokjoaa", sum := "426e558accd010a9461e9592c562e0ddfdc95a05df8684e1c151c44a9e17b7dc", func := "loop.example/g00195/laws.FnExactGetAt", spec := "fnExactGetAt", apart := false }
def FnExactGetAtSaid : Prop := fnExactGetAtRow.holds Try.pinned (OpenSpec.ofChange fnExactGetAtSpec)

/-- ITS FALSE NEIGHBOUR: 'it returns false'. Refute it at one input. -/
def fnExactGetAtWrong : ChangeSpec := { name := "fnExactGetAt", fn := fun _ => fun
  | [d1, d2, d3] => { results := [.lit (.bool false)], args := [d1, d2, d3] }
  | _ => none }
def FnExactGetAtWrongFalsely : Prop := fnExactGetAtRow.holds Try.pinned (OpenSpec.ofChange fnExactGetAtWrong)

/-- 'laws.FnTrees': WHATEVER THE INPUT: true; the input reads as it did. -/
def fnTreesSpec : ChangeSpec := { name := "fnTrees", fn := fun _ => fun
  | [d] => { results := [.lit (.bool true)], args := [d] }
  | _ => none }
def fnTreesRow : OpenClaim := { program := "ytjlblibfbokjoaa", sum := "426e558accd010a9461e9592c562e0ddfdc95a05df8684e1c151c44a9e17b7dc", func := "loop.example/g00195/laws.FnTrees", spec := "fnTrees", apart := false }
def FnTreesSaid : Prop := fnTreesRow.holds Try.pinned (OpenSpec.ofChange fnTreesSpec)

/-- ITS FALSE NEIGHBOUR: 'it returns false'. Refute it at one input. -/
def fnTreesWrong : ChangeSpec := { name := "fnTrees", fn := fun _ => fun
  | [d] => { results := [.lit (.bool false)], args := [d] }
  | _ => none }
def FnTreesWrongFalsely : Prop := fnTreesRow.holds Try.pinned (OpenSpec.ofChange fnTreesWrong)

/-- 'laws.FnPutsAgain': WHATEVER THE INPUT: true; the input reads as it did. -/
def fnPutsAgainSpec : ChangeSpec := { name := "fnPutsAgain", fn := fun _ => fun
  | [d] => { results := [.lit (.bool true)], args := [d] }
  | _ => none }
def fnPutsAgainRow : OpenClaim := { program := "ytjlblibfbokjoaa", sum := "426e558accd010a9461e9592c562e0ddfdc95a05df8684e1c151c44a9e17b7dc", func := "loop.example/g00195/laws.FnPutsAgain", spec := "fnPutsAgain", apart := false }
def FnPutsAgainSaid : Prop := fnPutsAgainRow.holds Try.pinned (OpenSpec.ofChange fnPutsAgainSpec)

/-- ITS FALSE NEIGHBOUR: 'it returns false'. Refute it at one input. -/
def fnPutsAgainWrong : ChangeSpec := { name := "fnPutsAgain", fn := fun _ => fun
  | [d] => { results := [.lit (.bool false)], args := [d] }
  | _ => none }
def FnPutsAgainWrongFalsely : Prop := fnPutsAgainRow.holds Try.pinned (OpenSpec.ofChange fnPutsAgainWrong)

/-- 'laws.FnExactReadRecs': WHATEVER THE INPUT: true; the input reads as it did. -/
def fnExactReadRecsSpec : ChangeSpec := { name := "fnExactReadRecs", fn := fun _ => fun
  | [d] => { results := [.lit (.bool true)], args := [d] }
  | _ => none }
def fnExactReadRecsRow : OpenClaim := { program := "ytjlblibfbokjoaa", sum := "426e558accd010a9461e9592c562e0ddfdc95a05df8684e1c151c44a9e17b7dc", func := "loop.example/g00195/laws.FnExactReadRecs", spec := "fnExactReadRecs", apart := false }
def FnExactReadRecsSaid : Prop := fnExactReadRecsRow.holds Try.pinned (OpenSpec.ofChange fnExactReadRecsSpec)

/-- ITS FALSE NEIGHBOUR: 'it returns false'. Refute it at one input. -/
def fnExactReadRecsWrong : ChangeSpec := { name := "fnExactReadRecs", fn := fun _ => fun
  | [d] => { results := [.lit (.bool false)], args := [d] }
  | _ => none }
def FnExactReadRecsWrongFalsely : Prop := fnExactReadRecsRow.holds Try.pinned (OpenSpec.ofChange fnExactReadRecsWrong)

/-- 'laws.FnExactSinceBase': WHATEVER THE INPUT: true; the input reads as it did. -/
def fnExactSinceBaseSpec : ChangeSpec := { name := "fnExactSinceBase", fn := fun _ => fun
  | [d] => { results := [.lit (.bool true)], args := [d] }
  | _ => none }
def fnExactSinceBaseRow : OpenClaim := { program := "ytjlblibfbokjoaa", sum := "426e558accd010a9461e9592c562e0ddfdc95a05df8684e1c151c44a9e17b7dc", func := "loop.example/g00195/laws.FnExactSinceBase", spec := "fnExactSinceBase", apart := false }
def FnExactSinceBaseSaid : Prop := fnExactSinceBaseRow.holds Try.pinned (OpenSpec.ofChange fnExactSinceBaseSpec)

/-- ITS FALSE NEIGHBOUR: 'it returns false'. Refute it at one input. -/
def fnExactSinceBaseWrong : ChangeSpec := { name := "fnExactSinceBase", fn := fun _ => fun
  | [d] => { results := [.lit (.bool false)], args := [d] }
  | _ => none }
def FnExactSinceBaseWrongFalsely : Prop := fnExactSinceBaseRow.holds Try.pinned (OpenSpec.ofChange fnExactSinceBaseWrong)

/-- 'laws.FnExactAllAt': WHATEVER THE INPUT: true; the input reads as it did. -/
def fnExactAllAtSpec : ChangeSpec := { name := "fnExactAllAt", fn := fun _ => fun
  | [d1, d2] => { results := [.lit (.bool true)], args := [d1, d2] }
  | _ => none }
def fnExactAllAtRow : OpenClaim := { program := "ytjlblibfbokjoaa", sum := "426e558accd010a9461e9592c562e0ddfdc95a05df8684e1c151c44a9e17b7dc", func := "loop.example/g00195/laws.FnExactAllAt", spec := "fnExactAllAt", apart := false }
def FnExactAllAtSaid : Prop := fnExactAllAtRow.holds Try.pinned (OpenSpec.ofChange fnExactAllAtSpec)

/-- ITS FALSE NEIGHBOUR: 'it returns false'. Refute it at one input. -/
def fnExactAllAtWrong : ChangeSpec := { name := "fnExactAllAt", fn := fun _ => fun
  | [d1, d2] => { results := [.lit (.bool false)], args := [d1, d2] }
  | _ => none }
def FnExactAllAtWrongFalsely : Prop := fnExactAllAtRow.holds Try.pinned (OpenSpec.ofChange fnExactAllAtWrong)

/-- 'laws.FnExactFreeBlocks': WHATEVER THE INPUT: true; the input reads as it did. -/
def fnExactFreeBlocksSpec : ChangeSpec := { name := "fnExactFreeBlocks", fn := fun _ => fun
  | [d] => { results := [.lit (.bool true)], args := [d] }
  | _ => none }
def fnExactFreeBlocksRow : OpenClaim := { program := "ytjlblibfbokjoaa", sum := "426e558accd010a9461e9592c562e0ddfdc95a05df8684e1c151c44a9e17b7dc", func := "loop.example/g00195/laws.FnExactFreeBlocks", spec := "fnExactFreeBlocks", apart := false }
def FnExactFreeBlocksSaid : Prop := fnExactFreeBlocksRow.holds Try.pinned (OpenSpec.ofChange fnExactFreeBlocksSpec)

/-- ITS FALSE NEIGHBOUR: 'it returns false'. Refute it at one input. -/
def fnExactFreeBlocksWrong : ChangeSpec := { name := "fnExactFreeBlocks", fn := fun _ => fun
  | [d] => { results := [.lit (.bool false)], args := [d] }
  | _ => none }
def FnExactFreeBlocksWrongFalsely : Prop := fnExactFreeBlocksRow.holds Try.pinned (OpenSpec.ofChange fnExactFreeBlocksWrong)

/- THE SECOND FORM. 'bulk': how many values and letters a reading holds, each counted each time it is reached (what is shared counts as often as it is met; a slice's spare places count too). A statement '..UptoSaid' is the law's where the arguments, and the package variables that the reading takes, are together of bulk at most 1048576: NARROWER than '..Said'. Prove '..Said' where nothing that the law and all that it calls make is longer than what came in: it says more and counts as full. Else prove '..UptoSaid'. A law counts once. -/
mutual
def uptoBulk {H : Type} : DataW H → Nat
  | .lit (.string bytes) => bytes.length + 1
  | .lit _ => 1
  | .nil => 1
  | .ptr d => uptoBulk d + 1
  | .slice elems spare => uptoBulkAll elems + uptoBulkAll spare + 1
  | .agg parts => uptoBulkAll parts + 1
  | .iface _ d => uptoBulk d + 1
  | .map entries => uptoBulkEntries entries + 1
  | .held _ => 1
def uptoBulkAll {H : Type} : List (DataW H) → Nat
  | [] => 0
  | d :: r => uptoBulk d + uptoBulkAll r
def uptoBulkEntries {H : Type} : List (Lit × DataW H) → Nat
  | [] => 0
  | x :: r => uptoBulkEntry x + uptoBulkEntries r
def uptoBulkEntry {H : Type} : Lit × DataW H → Nat
  | (.string bytes, d) => bytes.length + uptoBulk d + 1
  | (_, d) => uptoBulk d + 1
 end
def uptoSmall : (H : Type) → List (DataW H) → Bool := fun _ ds => decide (uptoBulkAll ds ≤ 1048576)
def OpenSpec.upto (s : _root_.Go.ChangeSpec) : _root_.Go.OpenSpec := { _root_.Go.OpenSpec.ofChange s with cond := some uptoSmall }

/-- 'laws.FnExactAskOk', WHERE WHAT IT READS IS OF BULK AT MOST 1048576: true; the input reads as it did. -/
def fnExactAskOkUptoRow : OpenClaim := { program := "ytjlblibfbokjoaa", sum := "426e558accd010a9461e9592c562e0ddfdc95a05df8684e1c151c44a9e17b7dc", func := "loop.example/g00195/laws.FnExactAskOk", spec := "fnExactAskOk", apart := false, narrowed := true }
def FnExactAskOkUptoSaid : Prop := fnExactAskOkUptoRow.holds Try.pinned (OpenSpec.upto fnExactAskOkSpec)

/-- 'laws.FnExactRecOk', WHERE WHAT IT READS IS OF BULK AT MOST 1048576: true; the input reads as it did. -/
def fnExactRecOkUptoRow : OpenClaim := { program := "ytjlblibfbokjoaa", sum := "426e558accd010a9461e9592c562e0ddfdc95a05df8684e1c151c44a9e17b7dc", func := "loop.example/g00195/laws.FnExactRecOk", spec := "fnExactRecOk", apart := false, narrowed := true }
def FnExactRecOkUptoSaid : Prop := fnExactRecOkUptoRow.holds Try.pinned (OpenSpec.upto fnExactRecOkSpec)

/-- 'laws.FnExactRecText', WHERE WHAT IT READS IS OF BULK AT MOST 1048576: true; the input reads as it did. -/
def fnExactRecTextUptoRow : OpenClaim := { program := "ytjlblibfbokjoaa", sum := "426e558accd010a9461e9592c562e0ddfdc95a05df8684e1c151c44a9e17b7dc", func := "loop.example/g00195/laws.FnExactRecText", spec := "fnExactRecText", apart := false, narrowed := true }
def FnExactRecTextUptoSaid : Prop := fnExactRecTextUptoRow.holds Try.pinned (OpenSpec.upto fnExactRecTextSpec)

/-- 'laws.FnExactArenaOk', WHERE WHAT IT READS IS OF BULK AT MOST 1048576: true; the input reads as it did. -/
def fnExactArenaOkUptoRow : OpenClaim := { program := "ytjlblibfbokjoaa", sum := "426e558accd010a9461e9592c562e0ddfdc95a05df8684e1c151c44a9e17b7dc", func := "loop.example/g00195/laws.FnExactArenaOk", spec := "fnExactArenaOk", apart := false, narrowed := true }
def FnExactArenaOkUptoSaid : Prop := fnExactArenaOkUptoRow.holds Try.pinned (OpenSpec.upto fnExactArenaOkSpec)

/-- 'laws.FnExactStoreNew', WHERE WHAT IT READS IS OF BULK AT MOST 1048576: true; the input reads as it did. -/
def fnExactStoreNewUptoRow : OpenClaim := { program := "ytjlblibfbokjoaa", sum := "426e558accd010a9461e9592c562e0ddfdc95a05df8684e1c151c44a9e17b7dc", func := "loop.example/g00195/laws.FnExactStoreNew", spec := "fnExactStoreNew", apart := false, narrowed := true }
def FnExactStoreNewUptoSaid : Prop := fnExactStoreNewUptoRow.holds Try.pinned (OpenSpec.upto fnExactStoreNewSpec)

/-- 'laws.FnExactGetAt', WHERE WHAT IT READS IS OF BULK AT MOST 1048576: true; the input reads as it did. -/
def fnExactGetAtUptoRow : OpenClaim := { program := "ytjlblibfbokjoaa", sum := "426e558accd010a9461e9592c562e0ddfdc95a05df8684e1c151c44a9e17b7dc", func := "loop.example/g00195/laws.FnExactGetAt", spec := "fnExactGetAt", apart := false, narrowed := true }
def FnExactGetAtUptoSaid : Prop := fnExactGetAtUptoRow.holds Try.pinned (OpenSpec.upto fnExactGetAtSpec)

/-- 'laws.FnTrees', WHERE WHAT IT READS IS OF BULK AT MOST 1048576: true; the input reads as it did. -/
def fnTreesUptoRow : OpenClaim := { program := "ytjlblibfbokjoaa", sum := "426e558accd010a9461e9592c562e0ddfdc95a05df8684e1c151c44a9e17b7dc", func := "loop.example/g00195/laws.FnTrees", spec := "fnTrees", apart := false, narrowed := true }
def FnTreesUptoSaid : Prop := fnTreesUptoRow.holds Try.pinned (OpenSpec.upto fnTreesSpec)

/-- 'laws.FnPutsAgain', WHERE WHAT IT READS IS OF BULK AT MOST 1048576: true; the input reads as it did. -/
def fnPutsAgainUptoRow : OpenClaim := { program := "ytjlblibfbokjoaa", sum := "426e558accd010a9461e9592c562e0ddfdc95a05df8684e1c151c44a9e17b7dc", func := "loop.example/g00195/laws.FnPutsAgain", spec := "fnPutsAgain", apart := false, narrowed := true }
def FnPutsAgainUptoSaid : Prop := fnPutsAgainUptoRow.holds Try.pinned (OpenSpec.upto fnPutsAgainSpec)

/-- 'laws.FnExactReadRecs', WHERE WHAT IT READS IS OF BULK AT MOST 1048576: true; the input reads as it did. -/
def fnExactReadRecsUptoRow : OpenClaim := { program := "ytjlblibfbokjoaa", sum := "426e558accd010a9461e9592c562e0ddfdc95a05df8684e1c151c44a9e17b7dc", func := "loop.example/g00195/laws.FnExactReadRecs", spec := "fnExactReadRecs", apart := false, narrowed := true }
def FnExactReadRecsUptoSaid : Prop := fnExactReadRecsUptoRow.holds Try.pinned (OpenSpec.upto fnExactReadRecsSpec)

/-- 'laws.FnExactSinceBase', WHERE WHAT IT READS IS OF BULK AT MOST 1048576: true; the input reads as it did. -/
def fnExactSinceBaseUptoRow : OpenClaim := { program := "ytjlblibfbokjoaa", sum := "426e558accd010a9461e9592c562e0ddfdc95a05df8684e1c151c44a9e17b7dc", func := "loop.example/g00195/laws.FnExactSinceBase", spec := "fnExactSinceBase", apart := false, narrowed := true }
def FnExactSinceBaseUptoSaid : Prop := fnExactSinceBaseUptoRow.holds Try.pinned (OpenSpec.upto fnExactSinceBaseSpec)

/-- 'laws.FnExactAllAt', WHERE WHAT IT READS IS OF BULK AT MOST 1048576: true; the input reads as it did. -/
def fnExactAllAtUptoRow : OpenClaim := { program := "ytjlblibfbokjoaa", sum := "426e558accd010a9461e9592c562e0ddfdc95a05df8684e1c151c44a9e17b7dc", func := "loop.example/g00195/laws.FnExactAllAt", spec := "fnExactAllAt", apart := false, narrowed := true }
def FnExactAllAtUptoSaid : Prop := fnExactAllAtUptoRow.holds Try.pinned (OpenSpec.upto fnExactAllAtSpec)

/-- 'laws.FnExactFreeBlocks', WHERE WHAT IT READS IS OF BULK AT MOST 1048576: true; the input reads as it did. -/
def fnExactFreeBlocksUptoRow : OpenClaim := { program := "ytjlblibfbokjoaa", sum := "426e558accd010a9461e9592c562e0ddfdc95a05df8684e1c151c44a9e17b7dc", func := "loop.example/g00195/laws.FnExactFreeBlocks", spec := "fnExactFreeBlocks", apart := false, narrowed := true }
def FnExactFreeBlocksUptoSaid : Prop := fnExactFreeBlocksUptoRow.holds Try.pinned (OpenSpec.upto fnExactFreeBlocksSpec)

end Rows
end Go.Proofs.Ytjlblibfbokjoaa
