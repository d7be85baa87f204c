/-
  No cell of these rows narrows 'for every input' (looked for: loops, veiled, ifaces, maps, wideKeys, modest, calm, conditions, laid).
  DERIVED. THE GIVEN ROWS OF THIS SEAT. 6 by the template 'for every input the law returns true; each argument reads behind the call as it read before'; 0 by the template 'total and deterministic' (their statements: YteideicglgpfiaaTotals.lean).
  GIVEN WITH THE SEED: the statements are not yours to turn. If you find one false, say at which input.
  Laid BY PROGRAM, IN A SANDBOX (cutbox-rows.mjs): the forced cells as the released guide's own fill.sh prints them over the translation c627bbc8962c62cc… (all of the seat's roots in one cut). By AI agents, Wed Nov 11 2026. No macro, syntax, notation, axiom, sorry.
-/
import Derived.Test.YteideicglgpfiaaChecked
import GoSem.Claim
import GoSem.ClaimJoined
import GoSem.ClaimMapViews
import Derived.JoinedTies
import Derived.KernelRfl
namespace Go.Proofs.Yteideicglgpfiaa
/- THE CELL 'sum', in the pinned program and in every row, IS THE sha256 OF THE DUMP (.gsa) THAT YteideicglgpfiaaProg.lean LOADS. Nothing in Lean hashes anything: it is a label: what it is worth is what the hold of that sum in a sandbox is worth. -/
noncomputable def Try.pinned : Pinned := { name := "yteideicglgpfiaa", sum := "c627bbc8962c62cce8796e0a0c263dc8b85a6fc1f3327f54de844472f9ec653f", checked := Try.checked }
namespace Rows
def none {H : Type} : Left H := { results := [], args := [] }

/-- 'laws.FnExactEnter': WHATEVER THE INPUT: true; the input reads as it did. -/
def fnExactEnterSpec : ChangeSpec := { name := "fnExactEnter", fn := fun _ => fun
  | [d1, d2] => { results := [.lit (.bool true)], args := [d1, d2] }
  | _ => none }
def fnExactEnterRow : OpenClaim := { program := "yteideicglgpfiaa", sum := "c627bbc8962c62cce8796e0a0c263dc8b85a6fc1f3327f54de844472f9ec653f", func := "loop.example/g00195/laws.FnExactEnter", spec := "fnExactEnter", inPlace := ["internal/reflectlite.ValueOf", "internal/reflectlite.Swapper", "(internal/reflectlite.Value).Len"], unfollowed := true, recurses := true, apart := false }
def FnExactEnterSaid : Prop := fnExactEnterRow.holds Try.pinned (OpenSpec.ofChange fnExactEnterSpec)

/-- ITS FALSE NEIGHBOUR: 'it returns false'. Refute it at one input. -/
def fnExactEnterWrong : ChangeSpec := { name := "fnExactEnter", fn := fun _ => fun
  | [d1, d2] => { results := [.lit (.bool false)], args := [d1, d2] }
  | _ => none }
def FnExactEnterWrongFalsely : Prop := fnExactEnterRow.holds Try.pinned (OpenSpec.ofChange fnExactEnterWrong)

/-- 'laws.FnRefs': WHATEVER THE INPUT: true; the input reads as it did. -/
def fnRefsSpec : ChangeSpec := { name := "fnRefs", fn := fun _ => fun
  | [d] => { results := [.lit (.bool true)], args := [d] }
  | _ => none }
def fnRefsRow : OpenClaim := { program := "yteideicglgpfiaa", sum := "c627bbc8962c62cce8796e0a0c263dc8b85a6fc1f3327f54de844472f9ec653f", func := "loop.example/g00195/laws.FnRefs", spec := "fnRefs", recurses := true, apart := false }
def FnRefsSaid : Prop := fnRefsRow.holds Try.pinned (OpenSpec.ofChange fnRefsSpec)

/-- ITS FALSE NEIGHBOUR: 'it returns false'. Refute it at one input. -/
def fnRefsWrong : ChangeSpec := { name := "fnRefs", fn := fun _ => fun
  | [d] => { results := [.lit (.bool false)], args := [d] }
  | _ => none }
def FnRefsWrongFalsely : Prop := fnRefsRow.holds Try.pinned (OpenSpec.ofChange fnRefsWrong)

/-- 'laws.FnStores': WHATEVER THE INPUT: true; the input reads as it did. -/
def fnStoresSpec : ChangeSpec := { name := "fnStores", fn := fun _ => fun
  | [d] => { results := [.lit (.bool true)], args := [d] }
  | _ => none }
def fnStoresRow : OpenClaim := { program := "yteideicglgpfiaa", sum := "c627bbc8962c62cce8796e0a0c263dc8b85a6fc1f3327f54de844472f9ec653f", func := "loop.example/g00195/laws.FnStores", spec := "fnStores", inPlace := ["internal/reflectlite.ValueOf", "internal/reflectlite.Swapper", "(internal/reflectlite.Value).Len"], unfollowed := true, recurses := true, apart := false }
def FnStoresSaid : Prop := fnStoresRow.holds Try.pinned (OpenSpec.ofChange fnStoresSpec)

/-- ITS FALSE NEIGHBOUR: 'it returns false'. Refute it at one input. -/
def fnStoresWrong : ChangeSpec := { name := "fnStores", fn := fun _ => fun
  | [d] => { results := [.lit (.bool false)], args := [d] }
  | _ => none }
def FnStoresWrongFalsely : Prop := fnStoresRow.holds Try.pinned (OpenSpec.ofChange fnStoresWrong)

/-- 'laws.FnEnterWhole': WHATEVER THE INPUT: true; the input reads as it did. -/
def fnEnterWholeSpec : ChangeSpec := { name := "fnEnterWhole", fn := fun _ => fun
  | [d] => { results := [.lit (.bool true)], args := [d] }
  | _ => none }
def fnEnterWholeRow : OpenClaim := { program := "yteideicglgpfiaa", sum := "c627bbc8962c62cce8796e0a0c263dc8b85a6fc1f3327f54de844472f9ec653f", func := "loop.example/g00195/laws.FnEnterWhole", spec := "fnEnterWhole", inPlace := ["internal/reflectlite.ValueOf", "internal/reflectlite.Swapper", "(internal/reflectlite.Value).Len"], unfollowed := true, recurses := true, apart := false }
def FnEnterWholeSaid : Prop := fnEnterWholeRow.holds Try.pinned (OpenSpec.ofChange fnEnterWholeSpec)

/-- ITS FALSE NEIGHBOUR: 'it returns false'. Refute it at one input. -/
def fnEnterWholeWrong : ChangeSpec := { name := "fnEnterWhole", fn := fun _ => fun
  | [d] => { results := [.lit (.bool false)], args := [d] }
  | _ => none }
def FnEnterWholeWrongFalsely : Prop := fnEnterWholeRow.holds Try.pinned (OpenSpec.ofChange fnEnterWholeWrong)

/-- 'laws.FnClones': WHATEVER THE INPUT: true; the input reads as it did. -/
def fnClonesSpec : ChangeSpec := { name := "fnClones", fn := fun _ => fun
  | [d] => { results := [.lit (.bool true)], args := [d] }
  | _ => none }
def fnClonesRow : OpenClaim := { program := "yteideicglgpfiaa", sum := "c627bbc8962c62cce8796e0a0c263dc8b85a6fc1f3327f54de844472f9ec653f", func := "loop.example/g00195/laws.FnClones", spec := "fnClones", inPlace := ["internal/reflectlite.ValueOf", "internal/reflectlite.Swapper", "(internal/reflectlite.Value).Len"], unfollowed := true, recurses := true, apart := false }
def FnClonesSaid : Prop := fnClonesRow.holds Try.pinned (OpenSpec.ofChange fnClonesSpec)

/-- ITS FALSE NEIGHBOUR: 'it returns false'. Refute it at one input. -/
def fnClonesWrong : ChangeSpec := { name := "fnClones", fn := fun _ => fun
  | [d] => { results := [.lit (.bool false)], args := [d] }
  | _ => none }
def FnClonesWrongFalsely : Prop := fnClonesRow.holds Try.pinned (OpenSpec.ofChange fnClonesWrong)

/-- 'laws.FnBases': WHATEVER THE INPUT: true; the input reads as it did. -/
def fnBasesSpec : ChangeSpec := { name := "fnBases", fn := fun _ => fun
  | [d] => { results := [.lit (.bool true)], args := [d] }
  | _ => none }
def fnBasesRow : OpenClaim := { program := "yteideicglgpfiaa", sum := "c627bbc8962c62cce8796e0a0c263dc8b85a6fc1f3327f54de844472f9ec653f", func := "loop.example/g00195/laws.FnBases", spec := "fnBases", inPlace := ["internal/reflectlite.ValueOf", "internal/reflectlite.Swapper", "(internal/reflectlite.Value).Len"], unfollowed := true, recurses := true, apart := false }
def FnBasesSaid : Prop := fnBasesRow.holds Try.pinned (OpenSpec.ofChange fnBasesSpec)

/-- ITS FALSE NEIGHBOUR: 'it returns false'. Refute it at one input. -/
def fnBasesWrong : ChangeSpec := { name := "fnBases", fn := fun _ => fun
  | [d] => { results := [.lit (.bool false)], args := [d] }
  | _ => none }
def FnBasesWrongFalsely : Prop := fnBasesRow.holds Try.pinned (OpenSpec.ofChange fnBasesWrong)

/- THE SECOND FORM. 'bulk': how many values and letters a reading holds, each counted each time it is reached (what is shared counts as often as it is met; a slice's spare places count too). A statement '..UptoSaid' is the law's where the arguments, and the package variables that the reading takes, are together of bulk at most 1048576: NARROWER than '..Said'. Prove '..Said' where nothing that the law and all that it calls make is longer than what came in: it says more and counts as full. Else prove '..UptoSaid'. A law counts once. -/
mutual
def uptoBulk {H : Type} : DataW H → Nat
  | .lit (.string bytes) => bytes.length + 1
  | .lit _ => 1
  | .nil => 1
  | .ptr d => uptoBulk d + 1
  | .slice elems spare => uptoBulkAll elems + uptoBulkAll spare + 1
  | .agg parts => uptoBulkAll parts + 1
  | .iface _ d => uptoBulk d + 1
  | .map entries => uptoBulkEntries entries + 1
  | .held _ => 1
def uptoBulkAll {H : Type} : List (DataW H) → Nat
  | [] => 0
  | d :: r => uptoBulk d + uptoBulkAll r
def uptoBulkEntries {H : Type} : List (Lit × DataW H) → Nat
  | [] => 0
  | x :: r => uptoBulkEntry x + uptoBulkEntries r
def uptoBulkEntry {H : Type} : Lit × DataW H → Nat
  | (.string bytes, d) => bytes.length + uptoBulk d + 1
  | (_, d) => uptoBulk d + 1
 end
def uptoSmall : (H : Type) → List (DataW H) → Bool := fun _ ds => decide (uptoBulkAll ds ≤ 1048576)
def OpenSpec.upto (s : _root_.Go.ChangeSpec) : _root_.Go.OpenSpec := { _root_.Go.OpenSpec.ofChange s with cond := some uptoSmall }

/-- 'laws.FnExactEnter', WHERE WHAT IT READS IS OF BULK AT MOST 1048576: true; the input reads as it did. -/
def fnExactEnterUptoRow : OpenClaim := { program := "yteideicglgpfiaa", sum := "c627bbc8962c62cce8796e0a0c263dc8b85a6fc1f3327f54de844472f9ec653f", func := "loop.example/g00195/laws.FnExactEnter", spec := "fnExactEnter", inPlace := ["internal/reflectlite.ValueOf", "internal/reflectlite.Swapper", "(internal/reflectlite.Value).Len"], unfollowed := true, recurses := true, apart := false, narrowed := true }
def FnExactEnterUptoSaid : Prop := fnExactEnterUptoRow.holds Try.pinned (OpenSpec.upto fnExactEnterSpec)

/-- 'laws.FnRefs', WHERE WHAT IT READS IS OF BULK AT MOST 1048576: true; the input reads as it did. -/
def fnRefsUptoRow : OpenClaim := { program := "yteideicglgpfiaa", sum := "c627bbc8962c62cce8796e0a0c263dc8b85a6fc1f3327f54de844472f9ec653f", func := "loop.example/g00195/laws.FnRefs", spec := "fnRefs", recurses := true, apart := false, narrowed := true }
def FnRefsUptoSaid : Prop := fnRefsUptoRow.holds Try.pinned (OpenSpec.upto fnRefsSpec)

/-- 'laws.FnStores', WHERE WHAT IT READS IS OF BULK AT MOST 1048576: true; the input reads as it did. -/
def fnStoresUptoRow : OpenClaim := { program := "yteideicglgpfiaa", sum := "c627bbc8962c62cce8796e0a0c263dc8b85a6fc1f3327f54de844472f9ec653f", func := "loop.example/g00195/laws.FnStores", spec := "fnStores", inPlace := ["internal/reflectlite.ValueOf", "internal/reflectlite.Swapper", "(internal/reflectlite.Value).Len"], unfollowed := true, recurses := true, apart := false, narrowed := true }
def FnStoresUptoSaid : Prop := fnStoresUptoRow.holds Try.pinned (OpenSpec.upto fnStoresSpec)

/-- 'laws.FnEnterWhole', WHERE WHAT IT READS IS OF BULK AT MOST 1048576: true; the input reads as it did. -/
def fnEnterWholeUptoRow : OpenClaim := { program := "yteideicglgpfiaa", sum := "c627bbc8962c62cce8796e0a0c263dc8b85a6fc1f3327f54de844472f9ec653f", func := "loop.example/g00195/laws.FnEnterWhole", spec := "fnEnterWhole", inPlace := ["internal/reflectlite.ValueOf", "internal/reflectlite.Swapper", "(internal/reflectlite.Value).Len"], unfollowed := true, recurses := true, apart := false, narrowed := true }
def FnEnterWholeUptoSaid : Prop := fnEnterWholeUptoRow.holds Try.pinned (OpenSpec.upto fnEnterWholeSpec)

/-- 'laws.FnClones', WHERE WHAT IT READS IS OF BULK AT MOST 1048576: true; the input reads as it did. -/
def fnClonesUptoRow : OpenClaim := { program := "yteideicglgpfiaa", sum := "c627bbc8962c62cce8796e0a0c263dc8b85a6fc1f3327f54de844472f9ec653f", func := "loop.example/g00195/laws.FnClones", spec := "fnClones", inPlace := ["internal/reflectlite.ValueOf", "internal/reflectlite.Swapper", "(internal/reflectlite.Value).Len"], unfollowed := true, recurses := true, apart := false, narrowed := true }
def FnClonesUptoSaid : Prop := fnClonesUptoRow.holds Try.pinned (OpenSpec.upto fnClonesSpec)

/-- 'laws.FnBases', WHERE WHAT IT READS IS OF BULK AT MOST 1048576: true; the input reads as it did. -/
def fnBasesUptoRow : OpenClaim := { program := "yteideicglgpfiaa", sum := "c627bbc8962c62cce8796e0a0c263dc8b85a6fc1f3327f54de844472f9ec653f", func := "loop.example/g00195/laws.FnBases", spec := "fnBases", inPlace := ["internal/reflectlite.ValueOf", "internal/reflectlite.Swapper", "(internal/reflectlite.Value).Len"], unfollowed := true, recurses := true, apart := false, narrowed := true }
def FnBasesUptoSaid : Prop := fnBasesUptoRow.holds Try.pinned (OpenSpec.upto fnBasesSpec)

end Rows
end Go.Proofs.Yteideicglgpfiaa
