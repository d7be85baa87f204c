/-
  No cell of these rows narrows 'for every input' (looked for: loops, veiled, ifaces, maps, wideKeys, modest, calm, conditions, laid).
  DERIVED. THE GIVEN ROWS OF THIS SEAT. 3 by the template 'for every input the law returns true; each argument reads behind the call as it read before'; 0 by the template 'total and deterministic' (their statements: YtbbfkodckpfjcaaTotals.lean).
  GIVEN WITH THE SEED: the statements are not yours to turn. If you find one false, say at which input.
  Laid BY PROGRAM, IN A SANDBOX (cutbox-rows.mjs): the forced cells as the released guide's own fill.sh prints them over the translation a1a23e94c137e926… (all of the seat's roots in one cut). By AI agents, Wed Nov 11 2026. No macro, syntax, notation, axiom, sorry.
-/
import Derived.Test.YtbbfkodckpfjcaaChecked
import GoSem.Claim
import GoSem.ClaimJoined
import GoSem.ClaimMapViews
import Derived.JoinedTies
import Derived.KernelRfl
namespace Go.Proofs.Ytbbfkodckpfjcaa
/- THE CELL 'sum', in the pinned program and in every row, IS THE sha256 OF THE DUMP (.gsa) THAT YtbbfkodckpfjcaaProg.lean LOADS. Nothing in Lean hashes anything: it is a label: what it is worth is what the hold of that sum in a sandbox is worth. -/
noncomputable def Try.pinned : Pinned := { name := "ytbbfkodckpfjcaa", sum := "a1a23e94c137e926c27c88a644e5c25b4afacc6998d143ba6811ee6c7c4c3cf6", checked := Try.checked }
namespace Rows
def none {H : Type} : Left H := { results := [], args := [] }

/-- 'laws.FnExactSpotOf': WHATEVER THE INPUT: true; the input reads as it did. -/
def fnExactSpotOfSpec : ChangeSpec := { name := "fnExactSpotOf", fn := fun _ => fun
  | [d1, d2] => { results := [.lit (.bool true)], args := [d1, d2] }
  | _ => none }
def fnExactSpotOfRow : OpenClaim := { program := "ytbbfkodckpfjcaa", sum := "a1a23e94c137e926c27c88a644e5c25b4afacc6998d143ba6811ee6c7c4c3cf6", func := "loop.example/g00195/laws.FnExactSpotOf", spec := "fnExactSpotOf", inPlace := ["internal/reflectlite.ValueOf", "internal/reflectlite.Swapper", "(internal/reflectlite.Value).Len"], unfollowed := true, recurses := true, apart := false }
def FnExactSpotOfSaid : Prop := fnExactSpotOfRow.holds Try.pinned (OpenSpec.ofChange fnExactSpotOfSpec)

/-- ITS FALSE NEIGHBOUR: 'it returns false'. Refute it at one input. -/
def fnExactSpotOfWrong : ChangeSpec := { name := "fnExactSpotOf", fn := fun _ => fun
  | [d1, d2] => { results := [.lit (.bool false)], args := [d1, d2] }
  | _ => none }
def FnExactSpotOfWrongFalsely : Prop := fnExactSpotOfRow.holds Try.pinned (OpenSpec.ofChange fnExactSpotOfWrong)

/-- 'laws.FnExactChunkText': WHATEVER THE INPUT: true; the input reads as it did. -/
def fnExactChunkTextSpec : ChangeSpec := { name := "fnExactChunkText", fn := fun _ => fun
  | [d1, d2] => { results := [.lit (.bool true)], args := [d1, d2] }
  | _ => none }
def fnExactChunkTextRow : OpenClaim := { program := "ytbbfkodckpfjcaa", sum := "a1a23e94c137e926c27c88a644e5c25b4afacc6998d143ba6811ee6c7c4c3cf6", func := "loop.example/g00195/laws.FnExactChunkText", spec := "fnExactChunkText", inPlace := ["internal/reflectlite.ValueOf", "internal/reflectlite.Swapper", "(internal/reflectlite.Value).Len"], unfollowed := true, recurses := true, apart := false }
def FnExactChunkTextSaid : Prop := fnExactChunkTextRow.holds Try.pinned (OpenSpec.ofChange fnExactChunkTextSpec)

/-- ITS FALSE NEIGHBOUR: 'it returns false'. Refute it at one input. -/
def fnExactChunkTextWrong : ChangeSpec := { name := "fnExactChunkText", fn := fun _ => fun
  | [d1, d2] => { results := [.lit (.bool false)], args := [d1, d2] }
  | _ => none }
def FnExactChunkTextWrongFalsely : Prop := fnExactChunkTextRow.holds Try.pinned (OpenSpec.ofChange fnExactChunkTextWrong)

/-- 'laws.FnExactFindSame': WHATEVER THE INPUT: true; the input reads as it did. -/
def fnExactFindSameSpec : ChangeSpec := { name := "fnExactFindSame", fn := fun _ => fun
  | [d1, d2, d3] => { results := [.lit (.bool true)], args := [d1, d2, d3] }
  | _ => none }
def fnExactFindSameRow : OpenClaim := { program := "ytbbfkodckpfjcaa", sum := "a1a23e94c137e926c27c88a644e5c25b4afacc6998d143ba6811ee6c7c4c3cf6", func := "loop.example/g00195/laws.FnExactFindSame", spec := "fnExactFindSame", inPlace := ["internal/reflectlite.ValueOf", "internal/reflectlite.Swapper", "(internal/reflectlite.Value).Len"], unfollowed := true, recurses := true, apart := false }
def FnExactFindSameSaid : Prop := fnExactFindSameRow.holds Try.pinned (OpenSpec.ofChange fnExactFindSameSpec)

/-- ITS FALSE NEIGHBOUR: 'it returns false'. Refute it at one input. -/
def fnExactFindSameWrong : ChangeSpec := { name := "fnExactFindSame", fn := fun _ => fun
  | [d1, d2, d3] => { results := [.lit (.bool false)], args := [d1, d2, d3] }
  | _ => none }
def FnExactFindSameWrongFalsely : Prop := fnExactFindSameRow.holds Try.pinned (OpenSpec.ofChange fnExactFindSameWrong)

/- THE SECOND FORM. 'bulk': how many values and letters a reading holds, each counted each time it is reached (what is shared counts as often as it is met; a slice's spare places count too). A statement '..UptoSaid' is the law's where the arguments, and the package variables that the reading takes, are together of bulk at most 1048576: NARROWER than '..Said'. Prove '..Said' where nothing that the law and all that it calls make is longer than what came in: it says more and counts as full. Else prove '..UptoSaid'. A law counts once. -/
mutual
def uptoBulk {H : Type} : DataW H → Nat
  | .lit (.string bytes) => bytes.length + 1
  | .lit _ => 1
  | .nil => 1
  | .ptr d => uptoBulk d + 1
  | .slice elems spare => uptoBulkAll elems + uptoBulkAll spare + 1
  | .agg parts => uptoBulkAll parts + 1
  | .iface _ d => uptoBulk d + 1
  | .map entries => uptoBulkEntries entries + 1
  | .held _ => 1
def uptoBulkAll {H : Type} : List (DataW H) → Nat
  | [] => 0
  | d :: r => uptoBulk d + uptoBulkAll r
def uptoBulkEntries {H : Type} : List (Lit × DataW H) → Nat
  | [] => 0
  | x :: r => uptoBulkEntry x + uptoBulkEntries r
def uptoBulkEntry {H : Type} : Lit × DataW H → Nat
  | (.string bytes, d) => bytes.length + uptoBulk d + 1
  | (_, d) => uptoBulk d + 1
 end
def uptoSmall : (H : Type) → List (DataW H) → Bool := fun _ ds => decide (uptoBulkAll ds ≤ 1048576)
def OpenSpec.upto (s : _root_.Go.ChangeSpec) : _root_.Go.OpenSpec := { _root_.Go.OpenSpec.ofChange s with cond := some uptoSmall }

/-- 'laws.FnExactSpotOf', WHERE WHAT IT READS IS OF BULK AT MOST 1048576: true; the input reads as it did. -/
def fnExactSpotOfUptoRow : OpenClaim := { program := "ytbbfkodckpfjcaa", sum := "a1a23e94c137e926c27c88a644e5c25b4afacc6998d143ba6811ee6c7c4c3cf6", func := "loop.example/g00195/laws.FnExactSpotOf", spec := "fnExactSpotOf", inPlace := ["internal/reflectlite.ValueOf", "internal/reflectlite.Swapper", "(internal/reflectlite.Value).Len"], unfollowed := true, recurses := true, apart := false, narrowed := true }
def FnExactSpotOfUptoSaid : Prop := fnExactSpotOfUptoRow.holds Try.pinned (OpenSpec.upto fnExactSpotOfSpec)

/-- 'laws.FnExactChunkText', WHERE WHAT IT READS IS OF BULK AT MOST 1048576: true; the input reads as it did. -/
def fnExactChunkTextUptoRow : OpenClaim := { program := "ytbbfkodckpfjcaa", sum := "a1a23e94c137e926c27c88a644e5c25b4afacc6998d143ba6811ee6c7c4c3cf6", func := "loop.example/g00195/laws.FnExactChunkText", spec := "fnExactChunkText", inPlace := ["internal/reflectlite.ValueOf", "internal/reflectlite.Swapper", "(internal/reflectlite.Value).Len"], unfollowed := true, recurses := true, apart := false, narrowed := true }
def FnExactChunkTextUptoSaid : Prop := fnExactChunkTextUptoRow.holds Try.pinned (OpenSpec.upto fnExactChunkTextSpec)

/-- 'laws.FnExactFindSame', WHERE WHAT IT READS IS OF BULK AT MOST 1048576: true; the input reads as it did. -/
def fnExactFindSameUptoRow : OpenClaim := { program := "ytbbfkodckpfjcaa", sum := "a1a23e94c137e926c27c88a644e5c25b4afacc6998d143ba6811ee6c7c4c3cf6", func := "loop.example/g00195/laws.FnExactFindSame", spec := "fnExactFindSame", inPlace := ["internal/reflectlite.ValueOf", "internal/reflectlite.Swapper", "(internal/reflectlite.Value).Len"], unfollowed := true, recurses := true, apart := false, narrowed := true }
def FnExactFindSameUptoSaid : Prop := fnExactFindSameUptoRow.holds Try.pinned (OpenSpec.upto fnExactFindSameSpec)

end Rows
end Go.Proofs.Ytbbfkodckpfjcaa
