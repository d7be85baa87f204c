/-
  No cell of these rows narrows 'for every input' (looked for: loops, veiled, ifaces, maps, wideKeys, modest, calm, conditions, laid).
  DERIVED. THE GIVEN ROWS OF THIS SEAT. 12 by the template 'for every input the law returns true; each argument reads behind the call as it read before'; 0 by the template 'total and deterministic' (their statements: YtdolplcbokioaaaTotals.lean).
  GIVEN WITH THE SEED: the statements are not yours to turn. If you find one false, say at which input.
  Laid BY PROGRAM, IN A SANDBOX (cutbox-rows.mjs): the forced cells as the released guide's own fill.sh prints them over the translation 6399b6b63a920ae5… (all of the seat's roots in one cut). By AI agents, Wed Nov 11 2026. No macro, syntax, notation, axiom, sorry.
-/
import Derived.Test.YtdolplcbokioaaaChecked
import GoSem.Claim
import GoSem.ClaimJoined
import GoSem.ClaimMapViews
import Derived.JoinedTies
import Derived.KernelRfl
namespace Go.Proofs.Ytdolplcbokioaaa
/- THE CELL 'sum', in the pinned program and in every row, IS THE sha256 OF THE DUMP (.gsa) THAT YtdolplcbokioaaaProg.lean LOADS. Nothing in Lean hashes anything: it is a label: what it is worth is what the hold of that sum in a sandbox is worth. -/
noncomputable def Try.pinned : Pinned := { name := "ytdolplcbokioaaa", sum := "6399b6b63a920ae572e3e18d7ff5061f861c349dda0385376805dc026617e036", checked := Try.checked }
namespace Rows
def none {H : Type} : Left H := { results := [], args := [] }

/-- 'laws.FnTransactions': WHATEVER THE INPUT: true; the input reads as it did. -/
def fnTransactionsSpec : ChangeSpec := { name := "fnTransactions", fn := fun _ => fun
  | [d] => { results := [.lit (.bool true)], args := [d] }
  | _ => none }
def fnTransactionsRow : OpenClaim := { program := "ytdolplcbokioaaa", sum := "6399b6b63a920ae572e3e18d7ff5061f861c349dda0385376805dc026617e036", func := "loop.example/g00195/laws.FnTransactions", spec := "fnTransactions", recurses := true, apart := false }
def FnTransactionsSaid : Prop := fnTransactionsRow.holds Try.pinned (OpenSpec.ofChange fnTransactionsSpec)

/-- ITS FALSE NEIGHBOUR: 'it returns false'. Refute it at one input. -/
def fnTransactionsWrong : ChangeSpec := { name := "fnTransactions", fn := fun _ => fun
  | [d] => { results := [.lit (.bool false)], args := [d] }
  | _ => none }
def FnTransactionsWrongFalsely : Prop := fnTransactionsRow.holds Try.pinned (OpenSpec.ofChange fnTransactionsWrong)

/-- 'laws.FnSweepTrees': WHATEVER THE INPUT: true; the input reads as it did. -/
def fnSweepTreesSpec : ChangeSpec := { name := "fnSweepTrees", fn := fun _ => fun
  | [d] => { results := [.lit (.bool true)], args := [d] }
  | _ => none }
def fnSweepTreesRow : OpenClaim := { program := "ytdolplcbokioaaa", sum := "6399b6b63a920ae572e3e18d7ff5061f861c349dda0385376805dc026617e036", func := "loop.example/g00195/laws.FnSweepTrees", spec := "fnSweepTrees", apart := false }
def FnSweepTreesSaid : Prop := fnSweepTreesRow.holds Try.pinned (OpenSpec.ofChange fnSweepTreesSpec)

/-- ITS FALSE NEIGHBOUR: 'it returns false'. Refute it at one input. -/
def fnSweepTreesWrong : ChangeSpec := { name := "fnSweepTrees", fn := fun _ => fun
  | [d] => { results := [.lit (.bool false)], args := [d] }
  | _ => none }
def FnSweepTreesWrongFalsely : Prop := fnSweepTreesRow.holds Try.pinned (OpenSpec.ofChange fnSweepTreesWrong)

/-- 'laws.FnExactPutAt': WHATEVER THE INPUT: true; the input reads as it did. -/
def fnExactPutAtSpec : ChangeSpec := { name := "fnExactPutAt", fn := fun _ => fun
  | [d1, d2, d3, d4] => { results := [.lit (.bool true)], args := [d1, d2, d3, d4] }
  | _ => none }
def fnExactPutAtRow : OpenClaim := { program := "ytdolplcbokioaaa", sum := "6399b6b63a920ae572e3e18d7ff5061f861c349dda0385376805dc026617e036", func := "loop.example/g00195/laws.FnExactPutAt", spec := "fnExactPutAt", apart := false }
def FnExactPutAtSaid : Prop := fnExactPutAtRow.holds Try.pinned (OpenSpec.ofChange fnExactPutAtSpec)

/-- ITS FALSE NEIGHBOUR: 'it returns false'. Refute it at one input. -/
def fnExactPutAtWrong : ChangeSpec := { name := "fnExactPutAt", fn := fun _ => fun
  | [d1, d2, d3, d4] => { results := [.lit (.bool false)], args := [d1, d2, d3, d4] }
  | _ => none }
def FnExactPutAtWrongFalsely : Prop := fnExactPutAtRow.holds Try.pinned (OpenSpec.ofChange fnExactPutAtWrong)

/-- 'laws.FnPlacesOf': WHATEVER THE INPUT: true; the input reads as it did. -/
def fnPlacesOfSpec : ChangeSpec := { name := "fnPlacesOf", fn := fun _ => fun
  | [d] => { results := [.lit (.bool true)], args := [d] }
  | _ => none }
def fnPlacesOfRow : OpenClaim := { program := "ytdolplcbokioaaa", sum := "6399b6b63a920ae572e3e18d7ff5061f861c349dda0385376805dc026617e036", func := "loop.example/g00195/laws.FnPlacesOf", spec := "fnPlacesOf", apart := false }
def FnPlacesOfSaid : Prop := fnPlacesOfRow.holds Try.pinned (OpenSpec.ofChange fnPlacesOfSpec)

/-- ITS FALSE NEIGHBOUR: 'it returns false'. Refute it at one input. -/
def fnPlacesOfWrong : ChangeSpec := { name := "fnPlacesOf", fn := fun _ => fun
  | [d] => { results := [.lit (.bool false)], args := [d] }
  | _ => none }
def FnPlacesOfWrongFalsely : Prop := fnPlacesOfRow.holds Try.pinned (OpenSpec.ofChange fnPlacesOfWrong)

/-- 'laws.FnExactChunkOf': WHATEVER THE INPUT: true; the input reads as it did. -/
def fnExactChunkOfSpec : ChangeSpec := { name := "fnExactChunkOf", fn := fun _ => fun
  | [d1, d2, d3] => { results := [.lit (.bool true)], args := [d1, d2, d3] }
  | _ => none }
def fnExactChunkOfRow : OpenClaim := { program := "ytdolplcbokioaaa", sum := "6399b6b63a920ae572e3e18d7ff5061f861c349dda0385376805dc026617e036", func := "loop.example/g00195/laws.FnExactChunkOf", spec := "fnExactChunkOf", apart := false }
def FnExactChunkOfSaid : Prop := fnExactChunkOfRow.holds Try.pinned (OpenSpec.ofChange fnExactChunkOfSpec)

/-- ITS FALSE NEIGHBOUR: 'it returns false'. Refute it at one input. -/
def fnExactChunkOfWrong : ChangeSpec := { name := "fnExactChunkOf", fn := fun _ => fun
  | [d1, d2, d3] => { results := [.lit (.bool false)], args := [d1, d2, d3] }
  | _ => none }
def FnExactChunkOfWrongFalsely : Prop := fnExactChunkOfRow.holds Try.pinned (OpenSpec.ofChange fnExactChunkOfWrong)

/-- 'laws.FnRecords': WHATEVER THE INPUT: true; the input reads as it did. -/
def fnRecordsSpec : ChangeSpec := { name := "fnRecords", fn := fun _ => fun
  | [d] => { results := [.lit (.bool true)], args := [d] }
  | _ => none }
def fnRecordsRow : OpenClaim := { program := "ytdolplcbokioaaa", sum := "6399b6b63a920ae572e3e18d7ff5061f861c349dda0385376805dc026617e036", func := "loop.example/g00195/laws.FnRecords", spec := "fnRecords", apart := false }
def FnRecordsSaid : Prop := fnRecordsRow.holds Try.pinned (OpenSpec.ofChange fnRecordsSpec)

/-- ITS FALSE NEIGHBOUR: 'it returns false'. Refute it at one input. -/
def fnRecordsWrong : ChangeSpec := { name := "fnRecords", fn := fun _ => fun
  | [d] => { results := [.lit (.bool false)], args := [d] }
  | _ => none }
def FnRecordsWrongFalsely : Prop := fnRecordsRow.holds Try.pinned (OpenSpec.ofChange fnRecordsWrong)

/-- 'laws.FnExactTxPages': WHATEVER THE INPUT: true; the input reads as it did. -/
def fnExactTxPagesSpec : ChangeSpec := { name := "fnExactTxPages", fn := fun _ => fun
  | [d1, d2, d3] => { results := [.lit (.bool true)], args := [d1, d2, d3] }
  | _ => none }
def fnExactTxPagesRow : OpenClaim := { program := "ytdolplcbokioaaa", sum := "6399b6b63a920ae572e3e18d7ff5061f861c349dda0385376805dc026617e036", func := "loop.example/g00195/laws.FnExactTxPages", spec := "fnExactTxPages", apart := false }
def FnExactTxPagesSaid : Prop := fnExactTxPagesRow.holds Try.pinned (OpenSpec.ofChange fnExactTxPagesSpec)

/-- ITS FALSE NEIGHBOUR: 'it returns false'. Refute it at one input. -/
def fnExactTxPagesWrong : ChangeSpec := { name := "fnExactTxPages", fn := fun _ => fun
  | [d1, d2, d3] => { results := [.lit (.bool false)], args := [d1, d2, d3] }
  | _ => none }
def FnExactTxPagesWrongFalsely : Prop := fnExactTxPagesRow.holds Try.pinned (OpenSpec.ofChange fnExactTxPagesWrong)

/-- 'laws.FnExactRefsOf': WHATEVER THE INPUT: true; the input reads as it did. -/
def fnExactRefsOfSpec : ChangeSpec := { name := "fnExactRefsOf", fn := fun _ => fun
  | [d1, d2] => { results := [.lit (.bool true)], args := [d1, d2] }
  | _ => none }
def fnExactRefsOfRow : OpenClaim := { program := "ytdolplcbokioaaa", sum := "6399b6b63a920ae572e3e18d7ff5061f861c349dda0385376805dc026617e036", func := "loop.example/g00195/laws.FnExactRefsOf", spec := "fnExactRefsOf", apart := false }
def FnExactRefsOfSaid : Prop := fnExactRefsOfRow.holds Try.pinned (OpenSpec.ofChange fnExactRefsOfSpec)

/-- ITS FALSE NEIGHBOUR: 'it returns false'. Refute it at one input. -/
def fnExactRefsOfWrong : ChangeSpec := { name := "fnExactRefsOf", fn := fun _ => fun
  | [d1, d2] => { results := [.lit (.bool false)], args := [d1, d2] }
  | _ => none }
def FnExactRefsOfWrongFalsely : Prop := fnExactRefsOfRow.holds Try.pinned (OpenSpec.ofChange fnExactRefsOfWrong)

/-- 'laws.FnExactSameStore': WHATEVER THE INPUT: true; the input reads as it did. -/
def fnExactSameStoreSpec : ChangeSpec := { name := "fnExactSameStore", fn := fun _ => fun
  | [d1, d2] => { results := [.lit (.bool true)], args := [d1, d2] }
  | _ => none }
def fnExactSameStoreRow : OpenClaim := { program := "ytdolplcbokioaaa", sum := "6399b6b63a920ae572e3e18d7ff5061f861c349dda0385376805dc026617e036", func := "loop.example/g00195/laws.FnExactSameStore", spec := "fnExactSameStore", apart := false }
def FnExactSameStoreSaid : Prop := fnExactSameStoreRow.holds Try.pinned (OpenSpec.ofChange fnExactSameStoreSpec)

/-- ITS FALSE NEIGHBOUR: 'it returns false'. Refute it at one input. -/
def fnExactSameStoreWrong : ChangeSpec := { name := "fnExactSameStore", fn := fun _ => fun
  | [d1, d2] => { results := [.lit (.bool false)], args := [d1, d2] }
  | _ => none }
def FnExactSameStoreWrongFalsely : Prop := fnExactSameStoreRow.holds Try.pinned (OpenSpec.ofChange fnExactSameStoreWrong)

/-- 'laws.FnExactPlaceOf': WHATEVER THE INPUT: true; the input reads as it did. -/
def fnExactPlaceOfSpec : ChangeSpec := { name := "fnExactPlaceOf", fn := fun _ => fun
  | [d] => { results := [.lit (.bool true)], args := [d] }
  | _ => none }
def fnExactPlaceOfRow : OpenClaim := { program := "ytdolplcbokioaaa", sum := "6399b6b63a920ae572e3e18d7ff5061f861c349dda0385376805dc026617e036", func := "loop.example/g00195/laws.FnExactPlaceOf", spec := "fnExactPlaceOf", apart := false }
def FnExactPlaceOfSaid : Prop := fnExactPlaceOfRow.holds Try.pinned (OpenSpec.ofChange fnExactPlaceOfSpec)

/-- ITS FALSE NEIGHBOUR: 'it returns false'. Refute it at one input. -/
def fnExactPlaceOfWrong : ChangeSpec := { name := "fnExactPlaceOf", fn := fun _ => fun
  | [d] => { results := [.lit (.bool false)], args := [d] }
  | _ => none }
def FnExactPlaceOfWrongFalsely : Prop := fnExactPlaceOfRow.holds Try.pinned (OpenSpec.ofChange fnExactPlaceOfWrong)

/-- 'laws.FnExactSweepArena': WHATEVER THE INPUT: true; the input reads as it did. -/
def fnExactSweepArenaSpec : ChangeSpec := { name := "fnExactSweepArena", fn := fun _ => fun
  | [d1, d2] => { results := [.lit (.bool true)], args := [d1, d2] }
  | _ => none }
def fnExactSweepArenaRow : OpenClaim := { program := "ytdolplcbokioaaa", sum := "6399b6b63a920ae572e3e18d7ff5061f861c349dda0385376805dc026617e036", func := "loop.example/g00195/laws.FnExactSweepArena", spec := "fnExactSweepArena", apart := false }
def FnExactSweepArenaSaid : Prop := fnExactSweepArenaRow.holds Try.pinned (OpenSpec.ofChange fnExactSweepArenaSpec)

/-- ITS FALSE NEIGHBOUR: 'it returns false'. Refute it at one input. -/
def fnExactSweepArenaWrong : ChangeSpec := { name := "fnExactSweepArena", fn := fun _ => fun
  | [d1, d2] => { results := [.lit (.bool false)], args := [d1, d2] }
  | _ => none }
def FnExactSweepArenaWrongFalsely : Prop := fnExactSweepArenaRow.holds Try.pinned (OpenSpec.ofChange fnExactSweepArenaWrong)

/-- 'laws.FnExactStoreOk': WHATEVER THE INPUT: true; the input reads as it did. -/
def fnExactStoreOkSpec : ChangeSpec := { name := "fnExactStoreOk", fn := fun _ => fun
  | [d] => { results := [.lit (.bool true)], args := [d] }
  | _ => none }
def fnExactStoreOkRow : OpenClaim := { program := "ytdolplcbokioaaa", sum := "6399b6b63a920ae572e3e18d7ff5061f861c349dda0385376805dc026617e036", func := "loop.example/g00195/laws.FnExactStoreOk", spec := "fnExactStoreOk", apart := false }
def FnExactStoreOkSaid : Prop := fnExactStoreOkRow.holds Try.pinned (OpenSpec.ofChange fnExactStoreOkSpec)

/-- ITS FALSE NEIGHBOUR: 'it returns false'. Refute it at one input. -/
def fnExactStoreOkWrong : ChangeSpec := { name := "fnExactStoreOk", fn := fun _ => fun
  | [d] => { results := [.lit (.bool false)], args := [d] }
  | _ => none }
def FnExactStoreOkWrongFalsely : Prop := fnExactStoreOkRow.holds Try.pinned (OpenSpec.ofChange fnExactStoreOkWrong)

/- THE SECOND FORM. 'bulk': how many values and letters a reading holds, each counted each time it is reached (what is shared counts as often as it is met; a slice's spare places count too). A statement '..UptoSaid' is the law's where the arguments, and the package variables that the reading takes, are together of bulk at most 1048576: NARROWER than '..Said'. Prove '..Said' where nothing that the law and all that it calls make is longer than what came in: it says more and counts as full. Else prove '..UptoSaid'. A law counts once. -/
mutual
def uptoBulk {H : Type} : DataW H → Nat
  | .lit (.string bytes) => bytes.length + 1
  | .lit _ => 1
  | .nil => 1
  | .ptr d => uptoBulk d + 1
  | .slice elems spare => uptoBulkAll elems + uptoBulkAll spare + 1
  | .agg parts => uptoBulkAll parts + 1
  | .iface _ d => uptoBulk d + 1
  | .map entries => uptoBulkEntries entries + 1
  | .held _ => 1
def uptoBulkAll {H : Type} : List (DataW H) → Nat
  | [] => 0
  | d :: r => uptoBulk d + uptoBulkAll r
def uptoBulkEntries {H : Type} : List (Lit × DataW H) → Nat
  | [] => 0
  | x :: r => uptoBulkEntry x + uptoBulkEntries r
def uptoBulkEntry {H : Type} : Lit × DataW H → Nat
  | (.string bytes, d) => bytes.length + uptoBulk d + 1
  | (_, d) => uptoBulk d + 1
 end
def uptoSmall : (H : Type) → List (DataW H) → Bool := fun _ ds => decide (uptoBulkAll ds ≤ 1048576)
def OpenSpec.upto (s : _root_.Go.ChangeSpec) : _root_.Go.OpenSpec := { _root_.Go.OpenSpec.ofChange s with cond := some uptoSmall }

/-- 'laws.FnTransactions', WHERE WHAT IT READS IS OF BULK AT MOST 1048576: true; the input reads as it did. -/
def fnTransactionsUptoRow : OpenClaim := { program := "ytdolplcbokioaaa", sum := "6399b6b63a920ae572e3e18d7ff5061f861c349dda0385376805dc026617e036", func := "loop.example/g00195/laws.FnTransactions", spec := "fnTransactions", recurses := true, apart := false, narrowed := true }
def FnTransactionsUptoSaid : Prop := fnTransactionsUptoRow.holds Try.pinned (OpenSpec.upto fnTransactionsSpec)

/-- 'laws.FnSweepTrees', WHERE WHAT IT READS IS OF BULK AT MOST 1048576: true; the input reads as it did. -/
def fnSweepTreesUptoRow : OpenClaim := { program := "ytdolplcbokioaaa", sum := "6399b6b63a920ae572e3e18d7ff5061f861c349dda0385376805dc026617e036", func := "loop.example/g00195/laws.FnSweepTrees", spec := "fnSweepTrees", apart := false, narrowed := true }
def FnSweepTreesUptoSaid : Prop := fnSweepTreesUptoRow.holds Try.pinned (OpenSpec.upto fnSweepTreesSpec)

/-- 'laws.FnExactPutAt', WHERE WHAT IT READS IS OF BULK AT MOST 1048576: true; the input reads as it did. -/
def fnExactPutAtUptoRow : OpenClaim := { program := "ytdolplcbokioaaa", sum := "6399b6b63a920ae572e3e18d7ff5061f861c349dda0385376805dc026617e036", func := "loop.example/g00195/laws.FnExactPutAt", spec := "fnExactPutAt", apart := false, narrowed := true }
def FnExactPutAtUptoSaid : Prop := fnExactPutAtUptoRow.holds Try.pinned (OpenSpec.upto fnExactPutAtSpec)

/-- 'laws.FnPlacesOf', WHERE WHAT IT READS IS OF BULK AT MOST 1048576: true; the input reads as it did. -/
def fnPlacesOfUptoRow : OpenClaim := { program := "ytdolplcbokioaaa", sum := "6399b6b63a920ae572e3e18d7ff5061f861c349dda0385376805dc026617e036", func := "loop.example/g00195/laws.FnPlacesOf", spec := "fnPlacesOf", apart := false, narrowed := true }
def FnPlacesOfUptoSaid : Prop := fnPlacesOfUptoRow.holds Try.pinned (OpenSpec.upto fnPlacesOfSpec)

/-- 'laws.FnExactChunkOf', WHERE WHAT IT READS IS OF BULK AT MOST 1048576: true; the input reads as it did. -/
def fnExactChunkOfUptoRow : OpenClaim := { program := "ytdolplcbokioaaa", sum := "6399b6b63a920ae572e3e18d7ff5061f861c349dda0385376805dc026617e036", func := "loop.example/g00195/laws.FnExactChunkOf", spec := "fnExactChunkOf", apart := false, narrowed := true }
def FnExactChunkOfUptoSaid : Prop := fnExactChunkOfUptoRow.holds Try.pinned (OpenSpec.upto fnExactChunkOfSpec)

/-- 'laws.FnRecords', WHERE WHAT IT READS IS OF BULK AT MOST 1048576: true; the input reads as it did. -/
def fnRecordsUptoRow : OpenClaim := { program := "ytdolplcbokioaaa", sum := "6399b6b63a920ae572e3e18d7ff5061f861c349dda0385376805dc026617e036", func := "loop.example/g00195/laws.FnRecords", spec := "fnRecords", apart := false, narrowed := true }
def FnRecordsUptoSaid : Prop := fnRecordsUptoRow.holds Try.pinned (OpenSpec.upto fnRecordsSpec)

/-- 'laws.FnExactTxPages', WHERE WHAT IT READS IS OF BULK AT MOST 1048576: true; the input reads as it did. -/
def fnExactTxPagesUptoRow : OpenClaim := { program := "ytdolplcbokioaaa", sum := "6399b6b63a920ae572e3e18d7ff5061f861c349dda0385376805dc026617e036", func := "loop.example/g00195/laws.FnExactTxPages", spec := "fnExactTxPages", apart := false, narrowed := true }
def FnExactTxPagesUptoSaid : Prop := fnExactTxPagesUptoRow.holds Try.pinned (OpenSpec.upto fnExactTxPagesSpec)

/-- 'laws.FnExactRefsOf', WHERE WHAT IT READS IS OF BULK AT MOST 1048576: true; the input reads as it did. -/
def fnExactRefsOfUptoRow : OpenClaim := { program := "ytdolplcbokioaaa", sum := "6399b6b63a920ae572e3e18d7ff5061f861c349dda0385376805dc026617e036", func := "loop.example/g00195/laws.FnExactRefsOf", spec := "fnExactRefsOf", apart := false, narrowed := true }
def FnExactRefsOfUptoSaid : Prop := fnExactRefsOfUptoRow.holds Try.pinned (OpenSpec.upto fnExactRefsOfSpec)

/-- 'laws.FnExactSameStore', WHERE WHAT IT READS IS OF BULK AT MOST 1048576: true; the input reads as it did. -/
def fnExactSameStoreUptoRow : OpenClaim := { program := "ytdolplcbokioaaa", sum := "6399b6b63a920ae572e3e18d7ff5061f861c349dda0385376805dc026617e036", func := "loop.example/g00195/laws.FnExactSameStore", spec := "fnExactSameStore", apart := false, narrowed := true }
def FnExactSameStoreUptoSaid : Prop := fnExactSameStoreUptoRow.holds Try.pinned (OpenSpec.upto fnExactSameStoreSpec)

/-- 'laws.FnExactPlaceOf', WHERE WHAT IT READS IS OF BULK AT MOST 1048576: true; the input reads as it did. -/
def fnExactPlaceOfUptoRow : OpenClaim := { program := "ytdolplcbokioaaa", sum := "6399b6b63a920ae572e3e18d7ff5061f861c349dda0385376805dc026617e036", func := "loop.example/g00195/laws.FnExactPlaceOf", spec := "fnExactPlaceOf", apart := false, narrowed := true }
def FnExactPlaceOfUptoSaid : Prop := fnExactPlaceOfUptoRow.holds Try.pinned (OpenSpec.upto fnExactPlaceOfSpec)

/-- 'laws.FnExactSweepArena', WHERE WHAT IT READS IS OF BULK AT MOST 1048576: true; the input reads as it did. -/
def fnExactSweepArenaUptoRow : OpenClaim := { program := "ytdolplcbokioaaa", sum := "6399b6b63a920ae572e3e18d7ff5061f861c349dda0385376805dc026617e036", func := "loop.example/g00195/laws.FnExactSweepArena", spec := "fnExactSweepArena", apart := false, narrowed := true }
def FnExactSweepArenaUptoSaid : Prop := fnExactSweepArenaUptoRow.holds Try.pinned (OpenSpec.upto fnExactSweepArenaSpec)

/-- 'laws.FnExactStoreOk', WHERE WHAT IT READS IS OF BULK AT MOST 1048576: true; the input reads as it did. -/
def fnExactStoreOkUptoRow : OpenClaim := { program := "ytdolplcbokioaaa", sum := "6399b6b63a920ae572e3e18d7ff5061f861c349dda0385376805dc026617e036", func := "loop.example/g00195/laws.FnExactStoreOk", spec := "fnExactStoreOk", apart := false, narrowed := true }
def FnExactStoreOkUptoSaid : Prop := fnExactStoreOkUptoRow.holds Try.pinned (OpenSpec.upto fnExactStoreOkSpec)

end Rows
end Go.Proofs.Ytdolplcbokioaaa
