/- FnExactPlaceOf: functions of the translation as Lean functions with what their calls come to, plain lemmas on them, and, at the end, the row. Parts of one proof, merged by a program of this session; each part's own sentence stands at its head. -/
import Derived.Test.YtdolplcbokioaaaProg
import Derived.Below
import Derived.Deep.Draws
import Derived.Deep.AppendLies
import Derived.Maps.AppendAt
import Derived.OwnWalk
import Derived.Laws.BytesArg
import Derived.Laws.MakeOwn
import Derived.Laws.OwnMore
import Derived.Deep.OwnRows
import Derived.Tactics
import Derived.Lib.ConvBytes
import Derived.Laws.Slices
import Derived.WalkKit
import Derived.KernelRfl
import Derived.RowKit3
import Derived.Deep.LoopGhost
import Derived.Deep.QuietTactic
import Derived.BigQuiet
import Derived.WideLaws
import Derived.Deep.DeepCutAuto
import Derived.Deep.CutBlock
import Derived.Deep.RegionHeld3
import Derived.Laws.Rows
import Derived.Lib.AppendStr
import Derived.ArgAppend
import Derived.Laws.IdiomCopy
import Derived.OrdersHeld
import Derived.Laws.BitsLemmas
import Derived.RowKit
import Derived.Test.YtdolplcbokioaaaWWords
import Derived.Test.YtdolplcbokioaaaWLast
import Derived.Test.YtdolplcbokioaaaWTab
import Derived.Test.YtdolplcbokioaaaWFour
import Derived.Test.YtdolplcbokioaaaWQPut
import Derived.Test.YtdolplcbokioaaaWApart
import Derived.Test.YtdolplcbokioaaaWArr
import Derived.Test.YtdolplcbokioaaaWZeros
import Derived.Test.YtdolplcbokioaaaWFoot
import Derived.Test.YtdolplcbokioaaaWKept
import Derived.Test.YtdolplcbokioaaaWShare
import Derived.Test.YtdolplcbokioaaaWN
import Derived.Test.YtdolplcbokioaaaWFootNe
import Derived.Test.YtdolplcbokioaaaWAt
import Derived.Test.YtdolplcbokioaaaWEqStruct
import Derived.Test.YtdolplcbokioaaaWRepsOne
import Derived.Test.YtdolplcbokioaaaWInv
import Derived.Test.YtdolplcbokioaaaWInvWords
import Derived.Test.YtdolplcbokioaaaWGuard
import Derived.Test.YtdolplcbokioaaaWNEv
import Derived.Test.YtdolplcbokioaaaWMore
/- Functions of the translation as plain Lean functions, and for each that its call comes to just what its Lean function answers; its conditions stand in each theorem. Written by a program of this session. -/
namespace Go.Proofs.Ytdolplcbokioaaa.PB
open Go.RowKit Go.Proofs.YtdolplcbokioaaaW.PrintWords Go.Proofs.YtdolplcbokioaaaW.PrintLast Go.Proofs.YtdolplcbokioaaaW.PrintMore
attribute [local go_sem] max2_int min2_int max_two min_two max_three min_three max_four min_four   -- for this text's walks alone
set_option linter.unusedVariables false
set_option linter.unusedSimpArgs false



def errW : Option Int → Value
  | none => .nilIface
  | some c => .iface 0 (.int .i64 c)
theorem errW_none : errW none = .nilIface := rfl
theorem errW_some (c : Int) : errW (some c) = .iface 0 (.int .i64 c) := rfl

theorem info3 : (Try.prog.info? 3).map (fun i => (i.zero, i.size, i.bytes)) = some (some (.int .i64 0), 1, 8) := by kernel_rfl
theorem info4 : (Try.prog.info? 4).map (fun i => (i.zero, i.size, i.bytes)) = some (some (.bool false), 1, 1) := by kernel_rfl
theorem info5 : (Try.prog.info? 5).map (fun i => (i.zero, i.size, i.bytes)) = some (some (.int .u8 0), 1, 1) := by kernel_rfl
theorem info9 : (Try.prog.info? 9).map (fun i => (i.zero, i.size, i.bytes)) = some (some (.string ⟨#[]⟩), 1, 16) := by kernel_rfl
theorem info33 : (Try.prog.info? 33).map (fun i => (i.zero, i.size, i.bytes)) = some (some (.agg #[(.int .i64 0), (.int .i64 0), (.int .i64 0), (.int .i64 0), (.int .i64 0), (.string ⟨#[]⟩)]), 6, 56) := by kernel_rfl
theorem info71 : (Try.prog.info? 71).map (fun i => (i.zero, i.size, i.bytes)) = some (some (.agg #[(.bool false), (.int .i64 0), (.slice none 0 0)]), 3, 40) := by kernel_rfl
theorem info90 : (Try.prog.info? 90).map (fun i => (i.zero, i.size, i.bytes)) = some (some (.agg #[(.int .i64 0), (.int .i64 0), (.int .i64 0), (.int .i64 0)]), 4, 32) := by kernel_rfl
theorem info133 : (Try.prog.info? 133).map (fun i => (i.zero, i.size, i.bytes)) = some (some (.agg #[(.bool false), (.slice none 0 0)]), 2, 32) := by kernel_rfl
theorem info142 : (Try.prog.info? 142).map (fun i => (i.zero, i.size, i.bytes)) = some (some (.agg #[(.int .i64 0), (.string ⟨#[]⟩)]), 2, 24) := by kernel_rfl
theorem info147 : (Try.prog.info? 147).map (fun i => (i.zero, i.size, i.bytes)) = some (some (.agg #[(.int .i64 0), (.int .i64 0)]), 2, 16) := by kernel_rfl
-- the values' own types
/-! #### struct type 90 -/
structure S90 where
  f0 : Int
  f1 : Int
  f2 : Int
  f3 : Int
def z90 : S90 := ⟨(0 : Int), (0 : Int), (0 : Int), (0 : Int)⟩
def k90 : Kd S90 := Kd.iso (Kd.pair (Kd.int .i64) (Kd.pair (Kd.int .i64) (Kd.pair (Kd.int .i64) (Kd.int .i64)))) (fun x : S90 => (x.f0, x.f1, x.f2, x.f3))
theorem k90_open {w : World} {x : S90} {cs : List Value} (h : k90.K w x cs) : cs = [.int .i64 x.f0, .int .i64 x.f1, .int .i64 x.f2, .int .i64 x.f3] := by
  obtain ⟨_, _, rfl, rfl, ⟨_, _, rfl, rfl, ⟨_, _, rfl, rfl, rfl⟩⟩⟩ := h
  exact rfl
theorem k90_openM {w : World} {base : Nat} {ok : Nat → Prop} {x : S90} {cs : List Value} (h : k90.M w base ok x cs) : cs = [.int .i64 x.f0, .int .i64 x.f1, .int .i64 x.f2, .int .i64 x.f3] := by
  obtain ⟨_, _, rfl, rfl, ⟨_, _, rfl, rfl, ⟨_, _, rfl, rfl, rfl⟩⟩⟩ := h
  exact rfl
theorem k90_mk (w : World) (x : S90)  : k90.K w x [.int .i64 x.f0, .int .i64 x.f1, .int .i64 x.f2, .int .i64 x.f3] := ⟨[.int .i64 x.f0], [.int .i64 x.f1, .int .i64 x.f2, .int .i64 x.f3], rfl, rfl, ⟨[.int .i64 x.f1], [.int .i64 x.f2, .int .i64 x.f3], rfl, rfl, ⟨[.int .i64 x.f2], [.int .i64 x.f3], rfl, rfl, rfl⟩⟩⟩
theorem k90_mkM (w : World) (base : Nat) (ok : Nat → Prop) (x : S90)  : k90.M w base ok x [.int .i64 x.f0, .int .i64 x.f1, .int .i64 x.f2, .int .i64 x.f3] := ⟨[.int .i64 x.f0], [.int .i64 x.f1, .int .i64 x.f2, .int .i64 x.f3], rfl, rfl, ⟨[.int .i64 x.f1], [.int .i64 x.f2, .int .i64 x.f3], rfl, rfl, ⟨[.int .i64 x.f2], [.int .i64 x.f3], rfl, rfl, rfl⟩⟩⟩
theorem k90_mkF (W : World) (ok : Nat → Prop) (x : S90) : Kd.FK k90 W ok x [.int .i64 x.f0, .int .i64 x.f1, .int .i64 x.f2, .int .i64 x.f3] := fun W2 _ => k90_mk W2 x
def rd_T90 (xs : List S90) (i : Int) : S90 := xs.getD i.toNat z90
theorem at_T90 {w : World} {A : Option Addr} {n : Nat} {xs : List S90} (h : Kd.C k90 w A n xs) (i : Int) (h0 : 0 ≤ i) (h1 : i < n) : ∃ ad , A = some ad ∧ w.cell? (ad.add (i.toNat * 4)) = some (.int .i64 (rd_T90 xs i).f0) ∧ w.cell? ⟨(ad.add (i.toNat * 4)).block, (ad.add (i.toNat * 4)).off + 1, none⟩ = some (.int .i64 (rd_T90 xs i).f1) ∧ w.cell? ⟨(ad.add (i.toNat * 4)).block, (ad.add (i.toNat * 4)).off + 2, none⟩ = some (.int .i64 (rd_T90 xs i).f2) ∧ w.cell? ⟨(ad.add (i.toNat * 4)).block, (ad.add (i.toNat * 4)).off + 3, none⟩ = some (.int .i64 (rd_T90 xs i).f3) := by
  obtain ⟨ad, c, e, _, hK, hc0⟩ := Kd.C_get h z90 i h0 h1
  have hc : ∀ j u, c[j]? = some u → w.cell? (ad.add (i.toNat * 4 + j)) = some u := hc0
  obtain rfl := k90_open hK
  exact ⟨ad, e, hc 0 _ rfl, by rw [← add_field _ _ 1 (by omega)]; exact hc 1 _ rfl, by rw [← add_field _ _ 2 (by omega)]; exact hc 2 _ rfl, by rw [← add_field _ _ 3 (by omega)]; exact hc 3 _ rfl⟩

/-! #### struct type 33 -/
structure S33 where
  f0 : Int
  f1 : Int
  f2 : Int
  f3 : Int
  f4 : Int
  f5 : ByteArray
def z33 : S33 := ⟨(0 : Int), (0 : Int), (0 : Int), (0 : Int), (0 : Int), (⟨#[]⟩ : ByteArray)⟩
def k33 : Kd S33 := Kd.iso (Kd.pair (Kd.int .i64) (Kd.pair (Kd.int .i64) (Kd.pair (Kd.int .i64) (Kd.pair (Kd.int .i64) (Kd.pair (Kd.int .i64) Kd.string))))) (fun x : S33 => (x.f0, x.f1, x.f2, x.f3, x.f4, x.f5))
theorem k33_open {w : World} {x : S33} {cs : List Value} (h : k33.K w x cs) : cs = [.int .i64 x.f0, .int .i64 x.f1, .int .i64 x.f2, .int .i64 x.f3, .int .i64 x.f4, .string x.f5] := by
  obtain ⟨_, _, rfl, rfl, ⟨_, _, rfl, rfl, ⟨_, _, rfl, rfl, ⟨_, _, rfl, rfl, ⟨_, _, rfl, rfl, rfl⟩⟩⟩⟩⟩ := h
  exact rfl
theorem k33_openM {w : World} {base : Nat} {ok : Nat → Prop} {x : S33} {cs : List Value} (h : k33.M w base ok x cs) : cs = [.int .i64 x.f0, .int .i64 x.f1, .int .i64 x.f2, .int .i64 x.f3, .int .i64 x.f4, .string x.f5] := by
  obtain ⟨_, _, rfl, rfl, ⟨_, _, rfl, rfl, ⟨_, _, rfl, rfl, ⟨_, _, rfl, rfl, ⟨_, _, rfl, rfl, rfl⟩⟩⟩⟩⟩ := h
  exact rfl
theorem k33_mk (w : World) (x : S33)  : k33.K w x [.int .i64 x.f0, .int .i64 x.f1, .int .i64 x.f2, .int .i64 x.f3, .int .i64 x.f4, .string x.f5] := ⟨[.int .i64 x.f0], [.int .i64 x.f1, .int .i64 x.f2, .int .i64 x.f3, .int .i64 x.f4, .string x.f5], rfl, rfl, ⟨[.int .i64 x.f1], [.int .i64 x.f2, .int .i64 x.f3, .int .i64 x.f4, .string x.f5], rfl, rfl, ⟨[.int .i64 x.f2], [.int .i64 x.f3, .int .i64 x.f4, .string x.f5], rfl, rfl, ⟨[.int .i64 x.f3], [.int .i64 x.f4, .string x.f5], rfl, rfl, ⟨[.int .i64 x.f4], [.string x.f5], rfl, rfl, rfl⟩⟩⟩⟩⟩
theorem k33_mkM (w : World) (base : Nat) (ok : Nat → Prop) (x : S33)  : k33.M w base ok x [.int .i64 x.f0, .int .i64 x.f1, .int .i64 x.f2, .int .i64 x.f3, .int .i64 x.f4, .string x.f5] := ⟨[.int .i64 x.f0], [.int .i64 x.f1, .int .i64 x.f2, .int .i64 x.f3, .int .i64 x.f4, .string x.f5], rfl, rfl, ⟨[.int .i64 x.f1], [.int .i64 x.f2, .int .i64 x.f3, .int .i64 x.f4, .string x.f5], rfl, rfl, ⟨[.int .i64 x.f2], [.int .i64 x.f3, .int .i64 x.f4, .string x.f5], rfl, rfl, ⟨[.int .i64 x.f3], [.int .i64 x.f4, .string x.f5], rfl, rfl, ⟨[.int .i64 x.f4], [.string x.f5], rfl, rfl, rfl⟩⟩⟩⟩⟩
theorem k33_mkF (W : World) (ok : Nat → Prop) (x : S33) : Kd.FK k33 W ok x [.int .i64 x.f0, .int .i64 x.f1, .int .i64 x.f2, .int .i64 x.f3, .int .i64 x.f4, .string x.f5] := fun W2 _ => k33_mk W2 x
def rd_T33 (xs : List S33) (i : Int) : S33 := xs.getD i.toNat z33
theorem at_T33 {w : World} {A : Option Addr} {n : Nat} {xs : List S33} (h : Kd.C k33 w A n xs) (i : Int) (h0 : 0 ≤ i) (h1 : i < n) : ∃ ad , A = some ad ∧ w.cell? (ad.add (i.toNat * 6)) = some (.int .i64 (rd_T33 xs i).f0) ∧ w.cell? ⟨(ad.add (i.toNat * 6)).block, (ad.add (i.toNat * 6)).off + 1, none⟩ = some (.int .i64 (rd_T33 xs i).f1) ∧ w.cell? ⟨(ad.add (i.toNat * 6)).block, (ad.add (i.toNat * 6)).off + 2, none⟩ = some (.int .i64 (rd_T33 xs i).f2) ∧ w.cell? ⟨(ad.add (i.toNat * 6)).block, (ad.add (i.toNat * 6)).off + 3, none⟩ = some (.int .i64 (rd_T33 xs i).f3) ∧ w.cell? ⟨(ad.add (i.toNat * 6)).block, (ad.add (i.toNat * 6)).off + 4, none⟩ = some (.int .i64 (rd_T33 xs i).f4) ∧ w.cell? ⟨(ad.add (i.toNat * 6)).block, (ad.add (i.toNat * 6)).off + 5, none⟩ = some (.string (rd_T33 xs i).f5) := by
  obtain ⟨ad, c, e, _, hK, hc0⟩ := Kd.C_get h z33 i h0 h1
  have hc : ∀ j u, c[j]? = some u → w.cell? (ad.add (i.toNat * 6 + j)) = some u := hc0
  obtain rfl := k33_open hK
  exact ⟨ad, e, hc 0 _ rfl, by rw [← add_field _ _ 1 (by omega)]; exact hc 1 _ rfl, by rw [← add_field _ _ 2 (by omega)]; exact hc 2 _ rfl, by rw [← add_field _ _ 3 (by omega)]; exact hc 3 _ rfl, by rw [← add_field _ _ 4 (by omega)]; exact hc 4 _ rfl, by rw [← add_field _ _ 5 (by omega)]; exact hc 5 _ rfl⟩

/-! #### struct type 36 -/
structure S36 where
  f0 : Int
  f1 : Int
  f2 : S33
def z36 : S36 := ⟨(0 : Int), (0 : Int), z33⟩
def k36 : Kd S36 := Kd.iso (Kd.pair (Kd.int .i64) (Kd.pair (Kd.int .i64) k33)) (fun x : S36 => (x.f0, x.f1, x.f2))
theorem k36_open {w : World} {x : S36} {cs : List Value} (h : k36.K w x cs) : cs = [.int .i64 x.f0, .int .i64 x.f1, .int .i64 x.f2.f0, .int .i64 x.f2.f1, .int .i64 x.f2.f2, .int .i64 x.f2.f3, .int .i64 x.f2.f4, .string x.f2.f5] := by
  obtain ⟨_, _, rfl, rfl, ⟨_, _, rfl, rfl, s2⟩⟩ := h
  obtain rfl := k33_open s2
  exact rfl
theorem k36_openM {w : World} {base : Nat} {ok : Nat → Prop} {x : S36} {cs : List Value} (h : k36.M w base ok x cs) : cs = [.int .i64 x.f0, .int .i64 x.f1, .int .i64 x.f2.f0, .int .i64 x.f2.f1, .int .i64 x.f2.f2, .int .i64 x.f2.f3, .int .i64 x.f2.f4, .string x.f2.f5] := by
  obtain ⟨_, _, rfl, rfl, ⟨_, _, rfl, rfl, s2⟩⟩ := h
  obtain rfl := k33_openM s2
  exact rfl
theorem k36_mk (w : World) (x : S36)  : k36.K w x [.int .i64 x.f0, .int .i64 x.f1, .int .i64 x.f2.f0, .int .i64 x.f2.f1, .int .i64 x.f2.f2, .int .i64 x.f2.f3, .int .i64 x.f2.f4, .string x.f2.f5] := ⟨[.int .i64 x.f0], [.int .i64 x.f1, .int .i64 x.f2.f0, .int .i64 x.f2.f1, .int .i64 x.f2.f2, .int .i64 x.f2.f3, .int .i64 x.f2.f4, .string x.f2.f5], rfl, rfl, ⟨[.int .i64 x.f1], [.int .i64 x.f2.f0, .int .i64 x.f2.f1, .int .i64 x.f2.f2, .int .i64 x.f2.f3, .int .i64 x.f2.f4, .string x.f2.f5], rfl, rfl, (k33_mk w x.f2 )⟩⟩
theorem k36_mkM (w : World) (base : Nat) (ok : Nat → Prop) (x : S36)  : k36.M w base ok x [.int .i64 x.f0, .int .i64 x.f1, .int .i64 x.f2.f0, .int .i64 x.f2.f1, .int .i64 x.f2.f2, .int .i64 x.f2.f3, .int .i64 x.f2.f4, .string x.f2.f5] := ⟨[.int .i64 x.f0], [.int .i64 x.f1, .int .i64 x.f2.f0, .int .i64 x.f2.f1, .int .i64 x.f2.f2, .int .i64 x.f2.f3, .int .i64 x.f2.f4, .string x.f2.f5], rfl, rfl, ⟨[.int .i64 x.f1], [.int .i64 x.f2.f0, .int .i64 x.f2.f1, .int .i64 x.f2.f2, .int .i64 x.f2.f3, .int .i64 x.f2.f4, .string x.f2.f5], rfl, rfl, (k33_mkM w base ok x.f2 )⟩⟩
theorem k36_mkF (W : World) (ok : Nat → Prop) (x : S36) : Kd.FK k36 W ok x [.int .i64 x.f0, .int .i64 x.f1, .int .i64 x.f2.f0, .int .i64 x.f2.f1, .int .i64 x.f2.f2, .int .i64 x.f2.f3, .int .i64 x.f2.f4, .string x.f2.f5] := fun W2 _ => k36_mk W2 x
def rd_T36 (xs : List S36) (i : Int) : S36 := xs.getD i.toNat z36
theorem at_T36 {w : World} {A : Option Addr} {n : Nat} {xs : List S36} (h : Kd.C k36 w A n xs) (i : Int) (h0 : 0 ≤ i) (h1 : i < n) : ∃ ad , A = some ad ∧ w.cell? (ad.add (i.toNat * 8)) = some (.int .i64 (rd_T36 xs i).f0) ∧ w.cell? ⟨(ad.add (i.toNat * 8)).block, (ad.add (i.toNat * 8)).off + 1, none⟩ = some (.int .i64 (rd_T36 xs i).f1) ∧ w.cell? ⟨(ad.add (i.toNat * 8)).block, (ad.add (i.toNat * 8)).off + 2, none⟩ = some (.int .i64 (rd_T36 xs i).f2.f0) ∧ w.cell? ⟨(ad.add (i.toNat * 8)).block, (ad.add (i.toNat * 8)).off + 3, none⟩ = some (.int .i64 (rd_T36 xs i).f2.f1) ∧ w.cell? ⟨(ad.add (i.toNat * 8)).block, (ad.add (i.toNat * 8)).off + 4, none⟩ = some (.int .i64 (rd_T36 xs i).f2.f2) ∧ w.cell? ⟨(ad.add (i.toNat * 8)).block, (ad.add (i.toNat * 8)).off + 5, none⟩ = some (.int .i64 (rd_T36 xs i).f2.f3) ∧ w.cell? ⟨(ad.add (i.toNat * 8)).block, (ad.add (i.toNat * 8)).off + 6, none⟩ = some (.int .i64 (rd_T36 xs i).f2.f4) ∧ w.cell? ⟨(ad.add (i.toNat * 8)).block, (ad.add (i.toNat * 8)).off + 7, none⟩ = some (.string (rd_T36 xs i).f2.f5) := by
  obtain ⟨ad, c, e, _, hK, hc0⟩ := Kd.C_get h z36 i h0 h1
  have hc : ∀ j u, c[j]? = some u → w.cell? (ad.add (i.toNat * 8 + j)) = some u := hc0
  obtain rfl := k36_open hK
  exact ⟨ad, e, hc 0 _ rfl, by rw [← add_field _ _ 1 (by omega)]; exact hc 1 _ rfl, by rw [← add_field _ _ 2 (by omega)]; exact hc 2 _ rfl, by rw [← add_field _ _ 3 (by omega)]; exact hc 3 _ rfl, by rw [← add_field _ _ 4 (by omega)]; exact hc 4 _ rfl, by rw [← add_field _ _ 5 (by omega)]; exact hc 5 _ rfl, by rw [← add_field _ _ 6 (by omega)]; exact hc 6 _ rfl, by rw [← add_field _ _ 7 (by omega)]; exact hc 7 _ rfl⟩

def rd_L7 (xs : List (List Int)) (i : Int) : (List Int) := xs.getD i.toNat ([] : List Int)
theorem at_L7 {w : World} {A : Option Addr} {n : Nat} {xs : List (List Int)} (h : Kd.C (Kd.slice 3 (Kd.int .i64)) w A n xs) (i : Int) (h0 : 0 ≤ i) (h1 : i < n) : ∃ ad A0 c0, A = some ad ∧ w.cell? (ad.add i.toNat) = some (.slice A0 (rd_L7 xs i).length c0) ∧ (rd_L7 xs i).length ≤ c0 ∧ (Kd.int .i64).C w A0 (rd_L7 xs i).length (rd_L7 xs i) := by
  obtain ⟨ad, c, e, _, hK, hc0⟩ := Kd.C_get h ([] : List Int) i h0 h1
  have hc : ∀ j u, c[j]? = some u → w.cell? (ad.add (i.toNat * 1 + j)) = some u := hc0
  obtain ⟨A0, c0, rfl, l0, g0⟩ := hK
  exact ⟨ad, A0, c0, e, by have hq := hc 0 _ rfl; rwa [Nat.mul_one, Nat.add_zero] at hq, l0, g0⟩

/-! #### struct type 133 -/
structure S133 where
  f0 : Bool
  f1 : (List Int)
def z133 : S133 := ⟨false, ([] : List Int)⟩
def k133 : Kd S133 := Kd.iso (Kd.pair Kd.bool (Kd.slice 3 (Kd.int .i64))) (fun x : S133 => (x.f0, x.f1))
theorem k133_open {w : World} {x : S133} {cs : List Value} (h : k133.K w x cs) : ∃ A1 c1, cs = [.bool x.f0, .slice A1 x.f1.length c1] ∧ x.f1.length ≤ c1 ∧ (Kd.int .i64).C w A1 x.f1.length x.f1 := by
  obtain ⟨_, _, rfl, rfl, ⟨A1, c1, rfl, l1, g1⟩⟩ := h
  exact ⟨A1, c1, rfl, l1, g1⟩
theorem k133_openM {w : World} {base : Nat} {ok : Nat → Prop} {x : S133} {cs : List Value} (h : k133.M w base ok x cs) : ∃ v1, cs = [.bool x.f0, v1] ∧ (Kd.int .i64).R 3 w base ok v1 x.f1 := by
  obtain ⟨_, _, rfl, rfl, ⟨v1, rfl, g1⟩⟩ := h
  exact ⟨v1, rfl, g1⟩
theorem k133_mk (w : World) (x : S133) {A1 : Option Addr} {c1 : Nat} (l1 : x.f1.length ≤ c1) (g1 : (Kd.int .i64).C w A1 x.f1.length x.f1) : k133.K w x [.bool x.f0, .slice A1 x.f1.length c1] := ⟨[.bool x.f0], [.slice A1 x.f1.length c1], rfl, rfl, ⟨A1, c1, rfl, l1, g1⟩⟩
theorem k133_mkM (w : World) (base : Nat) (ok : Nat → Prop) (x : S133) {v1 : Value} (g1 : (Kd.int .i64).R 3 w base ok v1 x.f1) : k133.M w base ok x [.bool x.f0, v1] := ⟨[.bool x.f0], [v1], rfl, rfl, ⟨v1, rfl, g1⟩⟩
theorem k133_openF {W : World} {ok : Nat → Prop} {x : S133} {cs : List Value} (h : Kd.FK k133 W ok x cs) : ∃ A1 c1, cs = [.bool x.f0, .slice A1 x.f1.length c1] ∧ x.f1.length ≤ c1 ∧ Kd.F (Kd.int .i64) W ok A1 x.f1.length x.f1 := by
  obtain ⟨A1, c1, rfl, l1, _⟩ := k133_open (Kd.FK_now h)
  exact ⟨A1, c1, rfl, l1, (fun W' hW => by obtain ⟨A1_, c1_, he, l1_, g1_⟩ := k133_open (h W' hW); injection (Option.some.inj (show some (Value.slice A1 x.f1.length c1) = some (Value.slice A1_ x.f1.length c1_) from congrArg (fun l => l[1]?) he)) with ha_ _ _; rw [ha_]; exact g1_)⟩
theorem k133_mkF (W : World) (ok : Nat → Prop) (x : S133) {A1 : Option Addr} {c1 : Nat} (l1 : x.f1.length ≤ c1) (g1 : Kd.F (Kd.int .i64) W ok A1 x.f1.length x.f1) : Kd.FK k133 W ok x [.bool x.f0, .slice A1 x.f1.length c1] := fun W2 hW => k133_mk W2 x l1 (g1 W2 hW)
def rd_T133 (xs : List S133) (i : Int) : S133 := xs.getD i.toNat z133
theorem at_T133 {w : World} {A : Option Addr} {n : Nat} {xs : List S133} (h : Kd.C k133 w A n xs) (i : Int) (h0 : 0 ≤ i) (h1 : i < n) : ∃ ad A1 c1, A = some ad ∧ w.cell? (ad.add (i.toNat * 2)) = some (.bool (rd_T133 xs i).f0) ∧ w.cell? ⟨(ad.add (i.toNat * 2)).block, (ad.add (i.toNat * 2)).off + 1, none⟩ = some (.slice A1 (rd_T133 xs i).f1.length c1) ∧ (rd_T133 xs i).f1.length ≤ c1 ∧ (Kd.int .i64).C w A1 (rd_T133 xs i).f1.length (rd_T133 xs i).f1 := by
  obtain ⟨ad, c, e, _, hK, hc0⟩ := Kd.C_get h z133 i h0 h1
  have hc : ∀ j u, c[j]? = some u → w.cell? (ad.add (i.toNat * 2 + j)) = some u := hc0
  obtain ⟨A1, c1, rfl, l1, g1⟩ := k133_open hK
  exact ⟨ad, A1, c1, e, hc 0 _ rfl, by rw [← add_field _ _ 1 (by omega)]; exact hc 1 _ rfl, l1, g1⟩

/-! #### struct type 175 -/
structure S175 where
  f0 : Bool
  f1 : (List Int)
def z175 : S175 := ⟨false, ([] : List Int)⟩
def k175 : Kd S175 := Kd.iso (Kd.pair Kd.bool (Kd.slice 3 (Kd.int .i64))) (fun x : S175 => (x.f0, x.f1))
theorem k175_open {w : World} {x : S175} {cs : List Value} (h : k175.K w x cs) : ∃ A1 c1, cs = [.bool x.f0, .slice A1 x.f1.length c1] ∧ x.f1.length ≤ c1 ∧ (Kd.int .i64).C w A1 x.f1.length x.f1 := by
  obtain ⟨_, _, rfl, rfl, ⟨A1, c1, rfl, l1, g1⟩⟩ := h
  exact ⟨A1, c1, rfl, l1, g1⟩
theorem k175_openM {w : World} {base : Nat} {ok : Nat → Prop} {x : S175} {cs : List Value} (h : k175.M w base ok x cs) : ∃ v1, cs = [.bool x.f0, v1] ∧ (Kd.int .i64).R 3 w base ok v1 x.f1 := by
  obtain ⟨_, _, rfl, rfl, ⟨v1, rfl, g1⟩⟩ := h
  exact ⟨v1, rfl, g1⟩
theorem k175_mk (w : World) (x : S175) {A1 : Option Addr} {c1 : Nat} (l1 : x.f1.length ≤ c1) (g1 : (Kd.int .i64).C w A1 x.f1.length x.f1) : k175.K w x [.bool x.f0, .slice A1 x.f1.length c1] := ⟨[.bool x.f0], [.slice A1 x.f1.length c1], rfl, rfl, ⟨A1, c1, rfl, l1, g1⟩⟩
theorem k175_mkM (w : World) (base : Nat) (ok : Nat → Prop) (x : S175) {v1 : Value} (g1 : (Kd.int .i64).R 3 w base ok v1 x.f1) : k175.M w base ok x [.bool x.f0, v1] := ⟨[.bool x.f0], [v1], rfl, rfl, ⟨v1, rfl, g1⟩⟩
theorem k175_openF {W : World} {ok : Nat → Prop} {x : S175} {cs : List Value} (h : Kd.FK k175 W ok x cs) : ∃ A1 c1, cs = [.bool x.f0, .slice A1 x.f1.length c1] ∧ x.f1.length ≤ c1 ∧ Kd.F (Kd.int .i64) W ok A1 x.f1.length x.f1 := by
  obtain ⟨A1, c1, rfl, l1, _⟩ := k175_open (Kd.FK_now h)
  exact ⟨A1, c1, rfl, l1, (fun W' hW => by obtain ⟨A1_, c1_, he, l1_, g1_⟩ := k175_open (h W' hW); injection (Option.some.inj (show some (Value.slice A1 x.f1.length c1) = some (Value.slice A1_ x.f1.length c1_) from congrArg (fun l => l[1]?) he)) with ha_ _ _; rw [ha_]; exact g1_)⟩
theorem k175_mkF (W : World) (ok : Nat → Prop) (x : S175) {A1 : Option Addr} {c1 : Nat} (l1 : x.f1.length ≤ c1) (g1 : Kd.F (Kd.int .i64) W ok A1 x.f1.length x.f1) : Kd.FK k175 W ok x [.bool x.f0, .slice A1 x.f1.length c1] := fun W2 hW => k175_mk W2 x l1 (g1 W2 hW)
def rd_T175 (xs : List S175) (i : Int) : S175 := xs.getD i.toNat z175
theorem at_T175 {w : World} {A : Option Addr} {n : Nat} {xs : List S175} (h : Kd.C k175 w A n xs) (i : Int) (h0 : 0 ≤ i) (h1 : i < n) : ∃ ad A1 c1, A = some ad ∧ w.cell? (ad.add (i.toNat * 2)) = some (.bool (rd_T175 xs i).f0) ∧ w.cell? ⟨(ad.add (i.toNat * 2)).block, (ad.add (i.toNat * 2)).off + 1, none⟩ = some (.slice A1 (rd_T175 xs i).f1.length c1) ∧ (rd_T175 xs i).f1.length ≤ c1 ∧ (Kd.int .i64).C w A1 (rd_T175 xs i).f1.length (rd_T175 xs i).f1 := by
  obtain ⟨ad, c, e, _, hK, hc0⟩ := Kd.C_get h z175 i h0 h1
  have hc : ∀ j u, c[j]? = some u → w.cell? (ad.add (i.toNat * 2 + j)) = some u := hc0
  obtain ⟨A1, c1, rfl, l1, g1⟩ := k175_open hK
  exact ⟨ad, A1, c1, e, hc 0 _ rfl, by rw [← add_field _ _ 1 (by omega)]; exact hc 1 _ rfl, l1, g1⟩

/-! #### struct type 142 -/
structure S142 where
  f0 : Int
  f1 : ByteArray
def z142 : S142 := ⟨(0 : Int), (⟨#[]⟩ : ByteArray)⟩
def k142 : Kd S142 := Kd.iso (Kd.pair (Kd.int .i64) Kd.string) (fun x : S142 => (x.f0, x.f1))
theorem k142_open {w : World} {x : S142} {cs : List Value} (h : k142.K w x cs) : cs = [.int .i64 x.f0, .string x.f1] := by
  obtain ⟨_, _, rfl, rfl, rfl⟩ := h
  exact rfl
theorem k142_openM {w : World} {base : Nat} {ok : Nat → Prop} {x : S142} {cs : List Value} (h : k142.M w base ok x cs) : cs = [.int .i64 x.f0, .string x.f1] := by
  obtain ⟨_, _, rfl, rfl, rfl⟩ := h
  exact rfl
theorem k142_mk (w : World) (x : S142)  : k142.K w x [.int .i64 x.f0, .string x.f1] := ⟨[.int .i64 x.f0], [.string x.f1], rfl, rfl, rfl⟩
theorem k142_mkM (w : World) (base : Nat) (ok : Nat → Prop) (x : S142)  : k142.M w base ok x [.int .i64 x.f0, .string x.f1] := ⟨[.int .i64 x.f0], [.string x.f1], rfl, rfl, rfl⟩
theorem k142_mkF (W : World) (ok : Nat → Prop) (x : S142) : Kd.FK k142 W ok x [.int .i64 x.f0, .string x.f1] := fun W2 _ => k142_mk W2 x
def rd_T142 (xs : List S142) (i : Int) : S142 := xs.getD i.toNat z142
theorem at_T142 {w : World} {A : Option Addr} {n : Nat} {xs : List S142} (h : Kd.C k142 w A n xs) (i : Int) (h0 : 0 ≤ i) (h1 : i < n) : ∃ ad , A = some ad ∧ w.cell? (ad.add (i.toNat * 2)) = some (.int .i64 (rd_T142 xs i).f0) ∧ w.cell? ⟨(ad.add (i.toNat * 2)).block, (ad.add (i.toNat * 2)).off + 1, none⟩ = some (.string (rd_T142 xs i).f1) := by
  obtain ⟨ad, c, e, _, hK, hc0⟩ := Kd.C_get h z142 i h0 h1
  have hc : ∀ j u, c[j]? = some u → w.cell? (ad.add (i.toNat * 2 + j)) = some u := hc0
  obtain rfl := k142_open hK
  exact ⟨ad, e, hc 0 _ rfl, by rw [← add_field _ _ 1 (by omega)]; exact hc 1 _ rfl⟩

def rd_L11 (xs : List (List S142)) (i : Int) : (List S142) := xs.getD i.toNat ([] : List S142)
theorem at_L11 {w : World} {A : Option Addr} {n : Nat} {xs : List (List S142)} (h : Kd.C (Kd.slice 142 k142) w A n xs) (i : Int) (h0 : 0 ≤ i) (h1 : i < n) : ∃ ad A0 c0, A = some ad ∧ w.cell? (ad.add i.toNat) = some (.slice A0 (rd_L11 xs i).length c0) ∧ (rd_L11 xs i).length ≤ c0 ∧ k142.C w A0 (rd_L11 xs i).length (rd_L11 xs i) := by
  obtain ⟨ad, c, e, _, hK, hc0⟩ := Kd.C_get h ([] : List S142) i h0 h1
  have hc : ∀ j u, c[j]? = some u → w.cell? (ad.add (i.toNat * 1 + j)) = some u := hc0
  obtain ⟨A0, c0, rfl, l0, g0⟩ := hK
  exact ⟨ad, A0, c0, e, by have hq := hc 0 _ rfl; rwa [Nat.mul_one, Nat.add_zero] at hq, l0, g0⟩

/-! #### struct type 71 -/
structure S71 where
  f0 : Bool
  f1 : Int
  f2 : (List S142)
def z71 : S71 := ⟨false, (0 : Int), ([] : List S142)⟩
def k71 : Kd S71 := Kd.iso (Kd.pair Kd.bool (Kd.pair (Kd.int .i64) (Kd.slice 142 k142))) (fun x : S71 => (x.f0, x.f1, x.f2))
theorem k71_open {w : World} {x : S71} {cs : List Value} (h : k71.K w x cs) : ∃ A2 c2, cs = [.bool x.f0, .int .i64 x.f1, .slice A2 x.f2.length c2] ∧ x.f2.length ≤ c2 ∧ k142.C w A2 x.f2.length x.f2 := by
  obtain ⟨_, _, rfl, rfl, ⟨_, _, rfl, rfl, ⟨A2, c2, rfl, l2, g2⟩⟩⟩ := h
  exact ⟨A2, c2, rfl, l2, g2⟩
theorem k71_openM {w : World} {base : Nat} {ok : Nat → Prop} {x : S71} {cs : List Value} (h : k71.M w base ok x cs) : ∃ v2, cs = [.bool x.f0, .int .i64 x.f1, v2] ∧ k142.R 142 w base ok v2 x.f2 := by
  obtain ⟨_, _, rfl, rfl, ⟨_, _, rfl, rfl, ⟨v2, rfl, g2⟩⟩⟩ := h
  exact ⟨v2, rfl, g2⟩
theorem k71_mk (w : World) (x : S71) {A2 : Option Addr} {c2 : Nat} (l2 : x.f2.length ≤ c2) (g2 : k142.C w A2 x.f2.length x.f2) : k71.K w x [.bool x.f0, .int .i64 x.f1, .slice A2 x.f2.length c2] := ⟨[.bool x.f0], [.int .i64 x.f1, .slice A2 x.f2.length c2], rfl, rfl, ⟨[.int .i64 x.f1], [.slice A2 x.f2.length c2], rfl, rfl, ⟨A2, c2, rfl, l2, g2⟩⟩⟩
theorem k71_mkM (w : World) (base : Nat) (ok : Nat → Prop) (x : S71) {v2 : Value} (g2 : k142.R 142 w base ok v2 x.f2) : k71.M w base ok x [.bool x.f0, .int .i64 x.f1, v2] := ⟨[.bool x.f0], [.int .i64 x.f1, v2], rfl, rfl, ⟨[.int .i64 x.f1], [v2], rfl, rfl, ⟨v2, rfl, g2⟩⟩⟩
theorem k71_openF {W : World} {ok : Nat → Prop} {x : S71} {cs : List Value} (h : Kd.FK k71 W ok x cs) : ∃ A2 c2, cs = [.bool x.f0, .int .i64 x.f1, .slice A2 x.f2.length c2] ∧ x.f2.length ≤ c2 ∧ Kd.F k142 W ok A2 x.f2.length x.f2 := by
  obtain ⟨A2, c2, rfl, l2, _⟩ := k71_open (Kd.FK_now h)
  exact ⟨A2, c2, rfl, l2, (fun W' hW => by obtain ⟨A2_, c2_, he, l2_, g2_⟩ := k71_open (h W' hW); injection (Option.some.inj (show some (Value.slice A2 x.f2.length c2) = some (Value.slice A2_ x.f2.length c2_) from congrArg (fun l => l[2]?) he)) with ha_ _ _; rw [ha_]; exact g2_)⟩
theorem k71_mkF (W : World) (ok : Nat → Prop) (x : S71) {A2 : Option Addr} {c2 : Nat} (l2 : x.f2.length ≤ c2) (g2 : Kd.F k142 W ok A2 x.f2.length x.f2) : Kd.FK k71 W ok x [.bool x.f0, .int .i64 x.f1, .slice A2 x.f2.length c2] := fun W2 hW => k71_mk W2 x l2 (g2 W2 hW)
def rd_T71 (xs : List S71) (i : Int) : S71 := xs.getD i.toNat z71
theorem at_T71 {w : World} {A : Option Addr} {n : Nat} {xs : List S71} (h : Kd.C k71 w A n xs) (i : Int) (h0 : 0 ≤ i) (h1 : i < n) : ∃ ad A2 c2, A = some ad ∧ w.cell? (ad.add (i.toNat * 3)) = some (.bool (rd_T71 xs i).f0) ∧ w.cell? ⟨(ad.add (i.toNat * 3)).block, (ad.add (i.toNat * 3)).off + 1, none⟩ = some (.int .i64 (rd_T71 xs i).f1) ∧ w.cell? ⟨(ad.add (i.toNat * 3)).block, (ad.add (i.toNat * 3)).off + 2, none⟩ = some (.slice A2 (rd_T71 xs i).f2.length c2) ∧ (rd_T71 xs i).f2.length ≤ c2 ∧ k142.C w A2 (rd_T71 xs i).f2.length (rd_T71 xs i).f2 := by
  obtain ⟨ad, c, e, _, hK, hc0⟩ := Kd.C_get h z71 i h0 h1
  have hc : ∀ j u, c[j]? = some u → w.cell? (ad.add (i.toNat * 3 + j)) = some u := hc0
  obtain ⟨A2, c2, rfl, l2, g2⟩ := k71_open hK
  exact ⟨ad, A2, c2, e, hc 0 _ rfl, by rw [← add_field _ _ 1 (by omega)]; exact hc 1 _ rfl, by rw [← add_field _ _ 2 (by omega)]; exact hc 2 _ rfl, l2, g2⟩

/-! #### struct type 184 -/
structure S184 where
  f0 : Int
  f1 : Int
def z184 : S184 := ⟨(0 : Int), (0 : Int)⟩
def k184 : Kd S184 := Kd.iso (Kd.pair (Kd.int .i64) (Kd.int .i64)) (fun x : S184 => (x.f0, x.f1))
theorem k184_open {w : World} {x : S184} {cs : List Value} (h : k184.K w x cs) : cs = [.int .i64 x.f0, .int .i64 x.f1] := by
  obtain ⟨_, _, rfl, rfl, rfl⟩ := h
  exact rfl
theorem k184_openM {w : World} {base : Nat} {ok : Nat → Prop} {x : S184} {cs : List Value} (h : k184.M w base ok x cs) : cs = [.int .i64 x.f0, .int .i64 x.f1] := by
  obtain ⟨_, _, rfl, rfl, rfl⟩ := h
  exact rfl
theorem k184_mk (w : World) (x : S184)  : k184.K w x [.int .i64 x.f0, .int .i64 x.f1] := ⟨[.int .i64 x.f0], [.int .i64 x.f1], rfl, rfl, rfl⟩
theorem k184_mkM (w : World) (base : Nat) (ok : Nat → Prop) (x : S184)  : k184.M w base ok x [.int .i64 x.f0, .int .i64 x.f1] := ⟨[.int .i64 x.f0], [.int .i64 x.f1], rfl, rfl, rfl⟩
theorem k184_mkF (W : World) (ok : Nat → Prop) (x : S184) : Kd.FK k184 W ok x [.int .i64 x.f0, .int .i64 x.f1] := fun W2 _ => k184_mk W2 x
def rd_T184 (xs : List S184) (i : Int) : S184 := xs.getD i.toNat z184
theorem at_T184 {w : World} {A : Option Addr} {n : Nat} {xs : List S184} (h : Kd.C k184 w A n xs) (i : Int) (h0 : 0 ≤ i) (h1 : i < n) : ∃ ad , A = some ad ∧ w.cell? (ad.add (i.toNat * 2)) = some (.int .i64 (rd_T184 xs i).f0) ∧ w.cell? ⟨(ad.add (i.toNat * 2)).block, (ad.add (i.toNat * 2)).off + 1, none⟩ = some (.int .i64 (rd_T184 xs i).f1) := by
  obtain ⟨ad, c, e, _, hK, hc0⟩ := Kd.C_get h z184 i h0 h1
  have hc : ∀ j u, c[j]? = some u → w.cell? (ad.add (i.toNat * 2 + j)) = some u := hc0
  obtain rfl := k184_open hK
  exact ⟨ad, e, hc 0 _ rfl, by rw [← add_field _ _ 1 (by omega)]; exact hc 1 _ rfl⟩

/-! #### struct type 147 -/
structure S147 where
  f0 : Int
  f1 : Int
def z147 : S147 := ⟨(0 : Int), (0 : Int)⟩
def k147 : Kd S147 := Kd.iso (Kd.pair (Kd.int .i64) (Kd.int .i64)) (fun x : S147 => (x.f0, x.f1))
theorem k147_open {w : World} {x : S147} {cs : List Value} (h : k147.K w x cs) : cs = [.int .i64 x.f0, .int .i64 x.f1] := by
  obtain ⟨_, _, rfl, rfl, rfl⟩ := h
  exact rfl
theorem k147_openM {w : World} {base : Nat} {ok : Nat → Prop} {x : S147} {cs : List Value} (h : k147.M w base ok x cs) : cs = [.int .i64 x.f0, .int .i64 x.f1] := by
  obtain ⟨_, _, rfl, rfl, rfl⟩ := h
  exact rfl
theorem k147_mk (w : World) (x : S147)  : k147.K w x [.int .i64 x.f0, .int .i64 x.f1] := ⟨[.int .i64 x.f0], [.int .i64 x.f1], rfl, rfl, rfl⟩
theorem k147_mkM (w : World) (base : Nat) (ok : Nat → Prop) (x : S147)  : k147.M w base ok x [.int .i64 x.f0, .int .i64 x.f1] := ⟨[.int .i64 x.f0], [.int .i64 x.f1], rfl, rfl, rfl⟩
theorem k147_mkF (W : World) (ok : Nat → Prop) (x : S147) : Kd.FK k147 W ok x [.int .i64 x.f0, .int .i64 x.f1] := fun W2 _ => k147_mk W2 x
def rd_T147 (xs : List S147) (i : Int) : S147 := xs.getD i.toNat z147
theorem at_T147 {w : World} {A : Option Addr} {n : Nat} {xs : List S147} (h : Kd.C k147 w A n xs) (i : Int) (h0 : 0 ≤ i) (h1 : i < n) : ∃ ad , A = some ad ∧ w.cell? (ad.add (i.toNat * 2)) = some (.int .i64 (rd_T147 xs i).f0) ∧ w.cell? ⟨(ad.add (i.toNat * 2)).block, (ad.add (i.toNat * 2)).off + 1, none⟩ = some (.int .i64 (rd_T147 xs i).f1) := by
  obtain ⟨ad, c, e, _, hK, hc0⟩ := Kd.C_get h z147 i h0 h1
  have hc : ∀ j u, c[j]? = some u → w.cell? (ad.add (i.toNat * 2 + j)) = some u := hc0
  obtain rfl := k147_open hK
  exact ⟨ad, e, hc 0 _ rfl, by rw [← add_field _ _ 1 (by omega)]; exact hc 1 _ rfl⟩

/-! #### struct type 160 -/
structure S160 where
  f0 : Int
  f1 : Int
  f2 : Int
  f3 : Int
def z160 : S160 := ⟨(0 : Int), (0 : Int), (0 : Int), (0 : Int)⟩
def k160 : Kd S160 := Kd.iso (Kd.pair (Kd.int .i64) (Kd.pair (Kd.int .i64) (Kd.pair (Kd.int .i64) (Kd.int .i64)))) (fun x : S160 => (x.f0, x.f1, x.f2, x.f3))
theorem k160_open {w : World} {x : S160} {cs : List Value} (h : k160.K w x cs) : cs = [.int .i64 x.f0, .int .i64 x.f1, .int .i64 x.f2, .int .i64 x.f3] := by
  obtain ⟨_, _, rfl, rfl, ⟨_, _, rfl, rfl, ⟨_, _, rfl, rfl, rfl⟩⟩⟩ := h
  exact rfl
theorem k160_openM {w : World} {base : Nat} {ok : Nat → Prop} {x : S160} {cs : List Value} (h : k160.M w base ok x cs) : cs = [.int .i64 x.f0, .int .i64 x.f1, .int .i64 x.f2, .int .i64 x.f3] := by
  obtain ⟨_, _, rfl, rfl, ⟨_, _, rfl, rfl, ⟨_, _, rfl, rfl, rfl⟩⟩⟩ := h
  exact rfl
theorem k160_mk (w : World) (x : S160)  : k160.K w x [.int .i64 x.f0, .int .i64 x.f1, .int .i64 x.f2, .int .i64 x.f3] := ⟨[.int .i64 x.f0], [.int .i64 x.f1, .int .i64 x.f2, .int .i64 x.f3], rfl, rfl, ⟨[.int .i64 x.f1], [.int .i64 x.f2, .int .i64 x.f3], rfl, rfl, ⟨[.int .i64 x.f2], [.int .i64 x.f3], rfl, rfl, rfl⟩⟩⟩
theorem k160_mkM (w : World) (base : Nat) (ok : Nat → Prop) (x : S160)  : k160.M w base ok x [.int .i64 x.f0, .int .i64 x.f1, .int .i64 x.f2, .int .i64 x.f3] := ⟨[.int .i64 x.f0], [.int .i64 x.f1, .int .i64 x.f2, .int .i64 x.f3], rfl, rfl, ⟨[.int .i64 x.f1], [.int .i64 x.f2, .int .i64 x.f3], rfl, rfl, ⟨[.int .i64 x.f2], [.int .i64 x.f3], rfl, rfl, rfl⟩⟩⟩
theorem k160_mkF (W : World) (ok : Nat → Prop) (x : S160) : Kd.FK k160 W ok x [.int .i64 x.f0, .int .i64 x.f1, .int .i64 x.f2, .int .i64 x.f3] := fun W2 _ => k160_mk W2 x
def rd_T160 (xs : List S160) (i : Int) : S160 := xs.getD i.toNat z160
theorem at_T160 {w : World} {A : Option Addr} {n : Nat} {xs : List S160} (h : Kd.C k160 w A n xs) (i : Int) (h0 : 0 ≤ i) (h1 : i < n) : ∃ ad , A = some ad ∧ w.cell? (ad.add (i.toNat * 4)) = some (.int .i64 (rd_T160 xs i).f0) ∧ w.cell? ⟨(ad.add (i.toNat * 4)).block, (ad.add (i.toNat * 4)).off + 1, none⟩ = some (.int .i64 (rd_T160 xs i).f1) ∧ w.cell? ⟨(ad.add (i.toNat * 4)).block, (ad.add (i.toNat * 4)).off + 2, none⟩ = some (.int .i64 (rd_T160 xs i).f2) ∧ w.cell? ⟨(ad.add (i.toNat * 4)).block, (ad.add (i.toNat * 4)).off + 3, none⟩ = some (.int .i64 (rd_T160 xs i).f3) := by
  obtain ⟨ad, c, e, _, hK, hc0⟩ := Kd.C_get h z160 i h0 h1
  have hc : ∀ j u, c[j]? = some u → w.cell? (ad.add (i.toNat * 4 + j)) = some u := hc0
  obtain rfl := k160_open hK
  exact ⟨ad, e, hc 0 _ rfl, by rw [← add_field _ _ 1 (by omega)]; exact hc 1 _ rfl, by rw [← add_field _ _ 2 (by omega)]; exact hc 2 _ rfl, by rw [← add_field _ _ 3 (by omega)]; exact hc 3 _ rfl⟩

/-! #### struct type 213 -/
structure S213 where
  f0 : Int
  f1 : ByteArray
def z213 : S213 := ⟨(0 : Int), (⟨#[]⟩ : ByteArray)⟩
def k213 : Kd S213 := Kd.iso (Kd.pair (Kd.int .i64) Kd.string) (fun x : S213 => (x.f0, x.f1))
theorem k213_open {w : World} {x : S213} {cs : List Value} (h : k213.K w x cs) : cs = [.int .i64 x.f0, .string x.f1] := by
  obtain ⟨_, _, rfl, rfl, rfl⟩ := h
  exact rfl
theorem k213_openM {w : World} {base : Nat} {ok : Nat → Prop} {x : S213} {cs : List Value} (h : k213.M w base ok x cs) : cs = [.int .i64 x.f0, .string x.f1] := by
  obtain ⟨_, _, rfl, rfl, rfl⟩ := h
  exact rfl
theorem k213_mk (w : World) (x : S213)  : k213.K w x [.int .i64 x.f0, .string x.f1] := ⟨[.int .i64 x.f0], [.string x.f1], rfl, rfl, rfl⟩
theorem k213_mkM (w : World) (base : Nat) (ok : Nat → Prop) (x : S213)  : k213.M w base ok x [.int .i64 x.f0, .string x.f1] := ⟨[.int .i64 x.f0], [.string x.f1], rfl, rfl, rfl⟩
theorem k213_mkF (W : World) (ok : Nat → Prop) (x : S213) : Kd.FK k213 W ok x [.int .i64 x.f0, .string x.f1] := fun W2 _ => k213_mk W2 x
def rd_T213 (xs : List S213) (i : Int) : S213 := xs.getD i.toNat z213
theorem at_T213 {w : World} {A : Option Addr} {n : Nat} {xs : List S213} (h : Kd.C k213 w A n xs) (i : Int) (h0 : 0 ≤ i) (h1 : i < n) : ∃ ad , A = some ad ∧ w.cell? (ad.add (i.toNat * 2)) = some (.int .i64 (rd_T213 xs i).f0) ∧ w.cell? ⟨(ad.add (i.toNat * 2)).block, (ad.add (i.toNat * 2)).off + 1, none⟩ = some (.string (rd_T213 xs i).f1) := by
  obtain ⟨ad, c, e, _, hK, hc0⟩ := Kd.C_get h z213 i h0 h1
  have hc : ∀ j u, c[j]? = some u → w.cell? (ad.add (i.toNat * 2 + j)) = some u := hc0
  obtain rfl := k213_open hK
  exact ⟨ad, e, hc 0 _ rfl, by rw [← add_field _ _ 1 (by omega)]; exact hc 1 _ rfl⟩

def rd_L17 (xs : List (List S213)) (i : Int) : (List S213) := xs.getD i.toNat ([] : List S213)
theorem at_L17 {w : World} {A : Option Addr} {n : Nat} {xs : List (List S213)} (h : Kd.C (Kd.slice 213 k213) w A n xs) (i : Int) (h0 : 0 ≤ i) (h1 : i < n) : ∃ ad A0 c0, A = some ad ∧ w.cell? (ad.add i.toNat) = some (.slice A0 (rd_L17 xs i).length c0) ∧ (rd_L17 xs i).length ≤ c0 ∧ k213.C w A0 (rd_L17 xs i).length (rd_L17 xs i) := by
  obtain ⟨ad, c, e, _, hK, hc0⟩ := Kd.C_get h ([] : List S213) i h0 h1
  have hc : ∀ j u, c[j]? = some u → w.cell? (ad.add (i.toNat * 1 + j)) = some u := hc0
  obtain ⟨A0, c0, rfl, l0, g0⟩ := hK
  exact ⟨ad, A0, c0, e, by have hq := hc 0 _ rfl; rwa [Nat.mul_one, Nat.add_zero] at hq, l0, g0⟩

/-! #### struct type 191 -/
structure S191 where
  f0 : Bool
  f1 : Int
  f2 : (List S213)
def z191 : S191 := ⟨false, (0 : Int), ([] : List S213)⟩
def k191 : Kd S191 := Kd.iso (Kd.pair Kd.bool (Kd.pair (Kd.int .i64) (Kd.slice 213 k213))) (fun x : S191 => (x.f0, x.f1, x.f2))
theorem k191_open {w : World} {x : S191} {cs : List Value} (h : k191.K w x cs) : ∃ A2 c2, cs = [.bool x.f0, .int .i64 x.f1, .slice A2 x.f2.length c2] ∧ x.f2.length ≤ c2 ∧ k213.C w A2 x.f2.length x.f2 := by
  obtain ⟨_, _, rfl, rfl, ⟨_, _, rfl, rfl, ⟨A2, c2, rfl, l2, g2⟩⟩⟩ := h
  exact ⟨A2, c2, rfl, l2, g2⟩
theorem k191_openM {w : World} {base : Nat} {ok : Nat → Prop} {x : S191} {cs : List Value} (h : k191.M w base ok x cs) : ∃ v2, cs = [.bool x.f0, .int .i64 x.f1, v2] ∧ k213.R 213 w base ok v2 x.f2 := by
  obtain ⟨_, _, rfl, rfl, ⟨_, _, rfl, rfl, ⟨v2, rfl, g2⟩⟩⟩ := h
  exact ⟨v2, rfl, g2⟩
theorem k191_mk (w : World) (x : S191) {A2 : Option Addr} {c2 : Nat} (l2 : x.f2.length ≤ c2) (g2 : k213.C w A2 x.f2.length x.f2) : k191.K w x [.bool x.f0, .int .i64 x.f1, .slice A2 x.f2.length c2] := ⟨[.bool x.f0], [.int .i64 x.f1, .slice A2 x.f2.length c2], rfl, rfl, ⟨[.int .i64 x.f1], [.slice A2 x.f2.length c2], rfl, rfl, ⟨A2, c2, rfl, l2, g2⟩⟩⟩
theorem k191_mkM (w : World) (base : Nat) (ok : Nat → Prop) (x : S191) {v2 : Value} (g2 : k213.R 213 w base ok v2 x.f2) : k191.M w base ok x [.bool x.f0, .int .i64 x.f1, v2] := ⟨[.bool x.f0], [.int .i64 x.f1, v2], rfl, rfl, ⟨[.int .i64 x.f1], [v2], rfl, rfl, ⟨v2, rfl, g2⟩⟩⟩
theorem k191_openF {W : World} {ok : Nat → Prop} {x : S191} {cs : List Value} (h : Kd.FK k191 W ok x cs) : ∃ A2 c2, cs = [.bool x.f0, .int .i64 x.f1, .slice A2 x.f2.length c2] ∧ x.f2.length ≤ c2 ∧ Kd.F k213 W ok A2 x.f2.length x.f2 := by
  obtain ⟨A2, c2, rfl, l2, _⟩ := k191_open (Kd.FK_now h)
  exact ⟨A2, c2, rfl, l2, (fun W' hW => by obtain ⟨A2_, c2_, he, l2_, g2_⟩ := k191_open (h W' hW); injection (Option.some.inj (show some (Value.slice A2 x.f2.length c2) = some (Value.slice A2_ x.f2.length c2_) from congrArg (fun l => l[2]?) he)) with ha_ _ _; rw [ha_]; exact g2_)⟩
theorem k191_mkF (W : World) (ok : Nat → Prop) (x : S191) {A2 : Option Addr} {c2 : Nat} (l2 : x.f2.length ≤ c2) (g2 : Kd.F k213 W ok A2 x.f2.length x.f2) : Kd.FK k191 W ok x [.bool x.f0, .int .i64 x.f1, .slice A2 x.f2.length c2] := fun W2 hW => k191_mk W2 x l2 (g2 W2 hW)
def rd_T191 (xs : List S191) (i : Int) : S191 := xs.getD i.toNat z191
theorem at_T191 {w : World} {A : Option Addr} {n : Nat} {xs : List S191} (h : Kd.C k191 w A n xs) (i : Int) (h0 : 0 ≤ i) (h1 : i < n) : ∃ ad A2 c2, A = some ad ∧ w.cell? (ad.add (i.toNat * 3)) = some (.bool (rd_T191 xs i).f0) ∧ w.cell? ⟨(ad.add (i.toNat * 3)).block, (ad.add (i.toNat * 3)).off + 1, none⟩ = some (.int .i64 (rd_T191 xs i).f1) ∧ w.cell? ⟨(ad.add (i.toNat * 3)).block, (ad.add (i.toNat * 3)).off + 2, none⟩ = some (.slice A2 (rd_T191 xs i).f2.length c2) ∧ (rd_T191 xs i).f2.length ≤ c2 ∧ k213.C w A2 (rd_T191 xs i).f2.length (rd_T191 xs i).f2 := by
  obtain ⟨ad, c, e, _, hK, hc0⟩ := Kd.C_get h z191 i h0 h1
  have hc : ∀ j u, c[j]? = some u → w.cell? (ad.add (i.toNat * 3 + j)) = some u := hc0
  obtain ⟨A2, c2, rfl, l2, g2⟩ := k191_open hK
  exact ⟨ad, A2, c2, e, hc 0 _ rfl, by rw [← add_field _ _ 1 (by omega)]; exact hc 1 _ rfl, by rw [← add_field _ _ 2 (by omega)]; exact hc 2 _ rfl, l2, g2⟩

end Go.Proofs.Ytdolplcbokioaaa.PB

/- Functions of the translation as plain Lean functions, and for each that its call comes to just what its Lean function answers; its conditions stand in each theorem. Written by a program of this session. -/
namespace Go.Proofs.Ytdolplcbokioaaa.PB
open Go.RowKit Go.Proofs.YtdolplcbokioaaaW.PrintWords Go.Proofs.YtdolplcbokioaaaW.PrintLast Go.Proofs.YtdolplcbokioaaaW.PrintMore
attribute [local go_sem] max2_int min2_int max_two min_two max_three min_three max_four min_four   -- for this text's walks alone
set_option linter.unusedVariables false
set_option linter.unusedSimpArgs false

/-! ### impl_blanks: function 108 -/
def impl_blanks.l0 : Nat → Int → List (S142) → Int → Int → Option (Int)
  | 0, _, _, _, _ => none
  | k + 1, x3, x7, x8, x9 => if x9 < x8 then (if 0 ≤ x9 then (if x9 < (x7.length : Int) then (if ((rd_T142 x7 x9).f0) = 0 then (impl_blanks.l0 k (wrap64 (x3 + 1)) x7 x8 (wrap64 (x9 + 1))) else (impl_blanks.l0 k x3 x7 x8 (wrap64 (x9 + 1)))) else (none)) else (none)) else (some x3)
def impl_blanks.f (k : Nat) (a0_0 : Bool) (a0_1 : Int) (l0_2 : List (S142)) : Option (Int) := impl_blanks.l0 k 0 l0_2 (l0_2.length : Int) 0
theorem impl_blanks.mono_l : ∀ k, (∀ y0 y1 y2 y3, LeO (impl_blanks.l0 k y0 y1 y2 y3) (impl_blanks.l0 (k + 1) y0 y1 y2 y3))
  | 0 => fun _ _ _ _ r h => by simp [impl_blanks.l0] at h
  | k + 1 => by
    have ih0 := impl_blanks.mono_l k
    · intro y0 y1 y2 y3
      unfold impl_blanks.l0
      repeat' first
      | (with_reducible exact ih0 _ _ _ _)
      | (with_reducible exact LeO.refl _)
      | (with_reducible exact LeO.none _)
      | (with_reducible refine LeO.ite ?_ ?_)
      | (with_reducible refine LeO.bind ?_ (fun _ => ?_))
      | exact ih0 _ _ _ _
      | exact LeO.none _
      | refine LeO.ite ?_ ?_
      | refine LeO.bind ?_ (fun _ => ?_)
theorem impl_blanks.mono : ∀ a0 a1 a2 k, LeO (impl_blanks.f k a0 a1 a2) (impl_blanks.f (k + 1) a0 a1 a2) := by
  intro a0 a1 a2 k
  have ih0 := impl_blanks.mono_l k
  unfold impl_blanks.f
  repeat' first
      | (with_reducible exact ih0 _ _ _ _)
      | (with_reducible exact LeO.refl _)
      | (with_reducible exact LeO.none _)
      | (with_reducible refine LeO.ite ?_ ?_)
      | (with_reducible refine LeO.bind ?_ (fun _ => ?_))
      | exact ih0 _ _ _ _
      | exact LeO.none _
      | refine LeO.ite ?_ ?_
      | refine LeO.bind ?_ (fun _ => ?_)
set_option maxHeartbeats 8000000 in
set_option maxRecDepth 100000 in
theorem impl_blanks.calls (k : Nat) (a0_0 : Bool) (a0_1 : Int) (A0_2 : Option Addr) (c0_2 : Nat) (l0_2 : List (S142)) (r : Int) (w : World) (hr0_2 : Kd.C k142 w A0_2 l0_2.length l0_2) (hc0_2 : l0_2.length ≤ c0_2) (h : impl_blanks.f k a0_0 a0_1 l0_2 = some r) :
    Calls Try.prog 108 #[.agg #[.bool a0_0, .int .i64 a0_1, .slice A0_2 l0_2.length c0_2]] w fun e w' => e = .returned (.int .i64 r) ∧ Below w.heap.size w w' := by
  have hu71 := Try.underlying71
  have hu142 := Try.underlying142
  have HR0_2 := Aside0.mk hr0_2
  have HC0_2 := Aside0.mk hc0_2
  clear hr0_2 hc0_2
  have HB := Aside0.mk (Below.refl w.heap.size w)
  have H : (impl_blanks.l0 k 0 l0_2 (l0_2.length : Int) 0) = some r := h
  clear h
  have H' := Aside0.mk H
  clear H
  go_enter Try.func108, Try.ntmps108
  go_wp2_with (first | ((with_reducible refine gate_dst (N := 1) rfl ?_); refine box_event ?hg (N := 1) ?hd (cs := #[.bool a0_0, .int .i64 a0_1, .slice A0_2 l0_2.length c0_2]) (t := 71) ?hr ?_; (case hd => rfl); (case hg => rfl); (case hr => first | (go_simp; done) | (go_simp; rfl)); intro gb1022 hg w2 hbox hb; have n0_ := Aside0.mk (below_step (by repeat (first | (with_reducible first | exact HB.out | apply below_alloc | apply pw_below_drewN | apply below_drew1) | exact HB.out)) hb); have n1_ := Aside0.mk (hbox); have n2_ := Aside0.mk ((by rw [hg]; exact (below_size (by repeat (first | (with_reducible first | exact HB.out | apply below_alloc | apply pw_below_drewN | apply below_drew1) | exact HB.out))) : w.heap.size ≤ gb1022)); have n3_ := Aside0.mk ((by rw [hg]; exact (below_size (by repeat (first | (with_reducible first | exact HB.out | apply below_alloc | apply pw_below_drewN | apply below_drew1) | exact HB.out))) : w.heap.size ≤ gb1022)); clear HB; have HB := n0_; have BK1022 := n1_; have GW1022 := n2_; have GE1022 := n3_; clear n0_ n1_ n2_ n3_; clear hb hbox hg; have hcz3_0 : w2.cell? ⟨gb1022, 0, none⟩ = some (.bool a0_0) := (blk_cell BK1022.out 0).trans rfl; have hcz3_1 : w2.cell? ⟨gb1022, 1, none⟩ = some (.int .i64 a0_1) := (blk_cell BK1022.out 1).trans rfl; have hcz3_2 : w2.cell? ⟨gb1022, 2, none⟩ = some (.slice A0_2 l0_2.length c0_2) := (blk_cell BK1022.out 2).trans rfl; have hfz3_0 := blk_frozen BK1022.out 0; have hfz3_1 := blk_frozen BK1022.out 1; have hfz3_2 := blk_frozen BK1022.out 2))
  go_loopg [3, 9] k (fun kq v3 v9 w' => ∃ (x3_1 : Int) (x9_1 : Int), v3 = .int .i64 x3_1 ∧ v9 = .int .i64 x9_1 ∧ Aside0 (impl_blanks.l0 kq x3_1 l0_2 (l0_2.length : Int) x9_1 = some r) ∧ Aside0 (kq ≤ k) ∧ Aside0 (w'.heap[gb1022]? = some (.cells #[.bool a0_0, .int .i64 a0_1, (.slice A0_2 l0_2.length c0_2)] 71 (0, 0))) ∧ Aside0 (Below w.heap.size w w'))
  case atStart => exact ⟨(0), (0), (by first | rfl | (simp; done) | (simp [*]; done)), (by first | rfl | (simp; done) | (simp [*]; done)), H', ⟨Nat.le_refl _⟩, ⟨by (with_reducible repeat (first | refine blk_drewN ?_ _ | refine blk_drew ?_ | refine blk_alloc ?_ _)); exact BK1022.out⟩, ⟨by repeat (first | (with_reducible first | exact HB.out | apply below_alloc | apply pw_below_drewN | apply below_drew1 | refine below_set ?_ GE1022.out) | exact HB.out)⟩⟩
  case round =>
    clear H'
    try clear c1
    try clear p2
    try clear hcz3_0
    try clear hcz3_1
    try clear hcz3_2
    try clear hfz3_0
    try clear hfz3_1
    try clear hfz3_2
    obtain ⟨x3_1, x9_1, rfl, rfl, HA, HK1, BK1022, HB⟩ := hrel
    cases gk with
    | zero => exact absurd HA.out (by simp [impl_blanks.l0])
    | succ k1 =>
      have H := HA.out
      clear HA
      simp only [impl_blanks.l0] at H
      by_cases c4 : x9_1 < (l0_2.length : Int)
      · rw [if_pos c4] at H
        have c4b0 : decide (x9_1 < (l0_2.length : Int)) = true := decide_eq_true c4
        clear c4
        by_cases c5 : 0 ≤ x9_1
        · rw [if_pos c5] at H
          have c5b0 : decide (0 ≤ x9_1) = true := decide_eq_true c5
          clear c5
          by_cases c6 : x9_1 < (l0_2.length : Int)
          · rw [if_pos c6] at H
            have c6b0 : decide (x9_1 < (l0_2.length : Int)) = true := decide_eq_true c6
            clear c6
            by_cases c7 : ((rd_T142 l0_2 x9_1).f0) = 0
            · rw [if_pos c7] at H
              have c7b0 : (((rd_T142 l0_2 x9_1).f0) == 0) = true := beq_iff_eq.mpr c7
              have c7b1 : (((rd_T142 l0_2 x9_1).f0) != 0) = false := bne_eq_false_iff_eq.mpr c7
              clear c7
              have H' := Aside0.mk H
              clear H
              have p1023 : 0 ≤ (x9_1 : Int) := of_decide_eq_true (by first | (with_reducible assumption) | assumption)
              have q1023 : x9_1 < (l0_2.length : Int) := of_decide_eq_true (by first | (with_reducible assumption) | assumption)
              obtain ⟨ad1023, e1023, hx1023_0, hx1023_1⟩ := at_T142 HR0_2.out x9_1 p1023 q1023
              cases e1023
              replace hx1023_0 := (HB.out.cell (World.block_lt_of_cell? w _ hx1023_0)).trans hx1023_0
              replace hx1023_1 := (HB.out.cell (World.block_lt_of_cell? w _ hx1023_1)).trans hx1023_1
              replace p1023 := eq_true p1023
              replace q1023 := eq_true q1023
              go_wp2_with (first | ((with_reducible refine gate_dst (N := 5) rfl ?_); refine box_event ?hg (N := 5) ?hd (cs := #[.int .i64 0, .string (⟨#[]⟩ : ByteArray)]) (t := 142) ?hr ?_; (case hd => rfl); (case hg => rfl); (case hr => first | (go_simp; done) | (go_simp; rfl)); intro gb1024 hg w8 hbox hb; have n0_ := Aside0.mk (blk_below (g := gb1022) (o := .cells #[.bool a0_0, .int .i64 a0_1, .slice (some ad1023) l0_2.length c0_2] 71 (0, 0)) (by (with_reducible repeat (first | refine blk_drewN ?_ _ | refine blk_drew ?_ | refine blk_alloc ?_ _)); exact BK1022.out) hb); have n1_ := Aside0.mk (below_step (by repeat (first | (with_reducible first | exact HB.out | apply below_alloc | apply pw_below_drewN | apply below_drew1 | refine below_set ?_ GE1022.out) | exact HB.out)) hb); have n2_ := Aside0.mk (hbox); have n3_ := Aside0.mk ((by rw [hg]; exact (below_size (by repeat (first | (with_reducible first | exact HB.out | apply below_alloc | apply pw_below_drewN | apply below_drew1 | refine below_set ?_ GE1022.out) | exact HB.out))) : w.heap.size ≤ gb1024)); have n4_ := Aside0.mk ((by rw [hg]; exact (below_size (by repeat (first | (with_reducible first | exact HB.out | apply below_alloc | apply pw_below_drewN | apply below_drew1 | refine below_set ?_ GE1022.out) | exact HB.out))) : w.heap.size ≤ gb1024)); have n5_ := Aside0.mk ((by rw [hg]; exact Nat.ne_of_lt (blk_lt (g := gb1022) (o := .cells #[.bool a0_0, .int .i64 a0_1, .slice (some ad1023) l0_2.length c0_2] 71 (0, 0)) (by (with_reducible repeat (first | refine blk_drewN ?_ _ | refine blk_drew ?_ | refine blk_alloc ?_ _)); exact BK1022.out)) : gb1022 ≠ gb1024)); have n6_ := Aside0.mk ((by rw [hg]; exact Nat.ne_of_gt (blk_lt (g := gb1022) (o := .cells #[.bool a0_0, .int .i64 a0_1, .slice (some ad1023) l0_2.length c0_2] 71 (0, 0)) (by (with_reducible repeat (first | refine blk_drewN ?_ _ | refine blk_drew ?_ | refine blk_alloc ?_ _)); exact BK1022.out)) : gb1024 ≠ gb1022)); clear BK1022; clear HB; have BK1022 := n0_; have HB := n1_; have BK1024 := n2_; have GW1024 := n3_; have GE1024 := n4_; have NB1022_1024 := n5_; have NB1024_1022 := n6_; clear n0_ n1_ n2_ n3_ n4_ n5_ n6_; clear hb hbox hg; have hnb9 := NB1024_1022.out; have hnc9 := NB1022_1024.out; have hcz10_0 : w8.cell? ⟨gb1024, 0, none⟩ = some (.int .i64 0) := (blk_cell BK1024.out 0).trans rfl; have hcz10_1 : w8.cell? ⟨gb1024, 1, none⟩ = some (.string (⟨#[]⟩ : ByteArray)) := (blk_cell BK1024.out 1).trans rfl; have hfz10_0 := blk_frozen BK1024.out 0; have hfz10_1 := blk_frozen BK1024.out 1))
              go_roundg k1
              case measure => have := HK1.out; omega
              case rel => exact ⟨(wrap64 (x3_1 + 1)), (wrap64 (x9_1 + 1)), (by first | rfl | (simp; done) | (simp [*]; done)), (by first | rfl | (simp; done) | (simp [*]; done)), H', ⟨by have := HK1.out; omega⟩, ⟨by (with_reducible repeat (first | refine blk_drewN ?_ _ | refine blk_drew ?_ | refine blk_alloc ?_ _)); refine blk_far ?_ NB1022_1024.out _; (with_reducible repeat (first | refine blk_drewN ?_ _ | refine blk_drew ?_ | refine blk_alloc ?_ _)); refine blk_far ?_ NB1022_1024.out _; (with_reducible repeat (first | refine blk_drewN ?_ _ | refine blk_drew ?_ | refine blk_alloc ?_ _)); exact BK1022.out⟩, ⟨by repeat (first | (with_reducible first | exact HB.out | apply below_alloc | apply pw_below_drewN | apply below_drew1 | refine below_set ?_ GE1022.out | refine below_set ?_ GE1024.out) | exact HB.out)⟩⟩
            · rw [if_neg c7] at H
              have c7b0 : (((rd_T142 l0_2 x9_1).f0) == 0) = false := beq_eq_false_iff_ne.mpr c7
              have c7b1 : (((rd_T142 l0_2 x9_1).f0) != 0) = true := bne_iff_ne.mpr c7
              have H' := Aside0.mk H
              clear H
              have p1023 : 0 ≤ (x9_1 : Int) := of_decide_eq_true (by first | (with_reducible assumption) | assumption)
              have q1023 : x9_1 < (l0_2.length : Int) := of_decide_eq_true (by first | (with_reducible assumption) | assumption)
              obtain ⟨ad1023, e1023, hx1023_0, hx1023_1⟩ := at_T142 HR0_2.out x9_1 p1023 q1023
              cases e1023
              replace hx1023_0 := (HB.out.cell (World.block_lt_of_cell? w _ hx1023_0)).trans hx1023_0
              replace hx1023_1 := (HB.out.cell (World.block_lt_of_cell? w _ hx1023_1)).trans hx1023_1
              replace p1023 := eq_true p1023
              replace q1023 := eq_true q1023
              go_wp2_with (first | ((with_reducible refine gate_dst (N := 5) rfl ?_); refine box_event ?hg (N := 5) ?hd (cs := #[.int .i64 0, .string (⟨#[]⟩ : ByteArray)]) (t := 142) ?hr ?_; (case hd => rfl); (case hg => rfl); (case hr => first | (go_simp; done) | (go_simp; rfl)); intro gb1024 hg w11 hbox hb; have n0_ := Aside0.mk (blk_below (g := gb1022) (o := .cells #[.bool a0_0, .int .i64 a0_1, .slice (some ad1023) l0_2.length c0_2] 71 (0, 0)) (by (with_reducible repeat (first | refine blk_drewN ?_ _ | refine blk_drew ?_ | refine blk_alloc ?_ _)); exact BK1022.out) hb); have n1_ := Aside0.mk (below_step (by repeat (first | (with_reducible first | exact HB.out | apply below_alloc | apply pw_below_drewN | apply below_drew1 | refine below_set ?_ GE1022.out) | exact HB.out)) hb); have n2_ := Aside0.mk (hbox); have n3_ := Aside0.mk ((by rw [hg]; exact (below_size (by repeat (first | (with_reducible first | exact HB.out | apply below_alloc | apply pw_below_drewN | apply below_drew1 | refine below_set ?_ GE1022.out) | exact HB.out))) : w.heap.size ≤ gb1024)); have n4_ := Aside0.mk ((by rw [hg]; exact (below_size (by repeat (first | (with_reducible first | exact HB.out | apply below_alloc | apply pw_below_drewN | apply below_drew1 | refine below_set ?_ GE1022.out) | exact HB.out))) : w.heap.size ≤ gb1024)); have n5_ := Aside0.mk ((by rw [hg]; exact Nat.ne_of_lt (blk_lt (g := gb1022) (o := .cells #[.bool a0_0, .int .i64 a0_1, .slice (some ad1023) l0_2.length c0_2] 71 (0, 0)) (by (with_reducible repeat (first | refine blk_drewN ?_ _ | refine blk_drew ?_ | refine blk_alloc ?_ _)); exact BK1022.out)) : gb1022 ≠ gb1024)); have n6_ := Aside0.mk ((by rw [hg]; exact Nat.ne_of_gt (blk_lt (g := gb1022) (o := .cells #[.bool a0_0, .int .i64 a0_1, .slice (some ad1023) l0_2.length c0_2] 71 (0, 0)) (by (with_reducible repeat (first | refine blk_drewN ?_ _ | refine blk_drew ?_ | refine blk_alloc ?_ _)); exact BK1022.out)) : gb1024 ≠ gb1022)); clear BK1022; clear HB; have BK1022 := n0_; have HB := n1_; have BK1024 := n2_; have GW1024 := n3_; have GE1024 := n4_; have NB1022_1024 := n5_; have NB1024_1022 := n6_; clear n0_ n1_ n2_ n3_ n4_ n5_ n6_; clear hb hbox hg; have hnb12 := NB1024_1022.out; have hnc12 := NB1022_1024.out; have hcz13_0 : w11.cell? ⟨gb1024, 0, none⟩ = some (.int .i64 0) := (blk_cell BK1024.out 0).trans rfl; have hcz13_1 : w11.cell? ⟨gb1024, 1, none⟩ = some (.string (⟨#[]⟩ : ByteArray)) := (blk_cell BK1024.out 1).trans rfl; have hfz13_0 := blk_frozen BK1024.out 0; have hfz13_1 := blk_frozen BK1024.out 1))
              go_roundg k1
              case measure => have := HK1.out; omega
              case rel => exact ⟨(x3_1), (wrap64 (x9_1 + 1)), (by first | rfl | (simp; done) | (simp [*]; done)), (by first | rfl | (simp; done) | (simp [*]; done)), H', ⟨by have := HK1.out; omega⟩, ⟨by (with_reducible repeat (first | refine blk_drewN ?_ _ | refine blk_drew ?_ | refine blk_alloc ?_ _)); refine blk_far ?_ NB1022_1024.out _; (with_reducible repeat (first | refine blk_drewN ?_ _ | refine blk_drew ?_ | refine blk_alloc ?_ _)); refine blk_far ?_ NB1022_1024.out _; (with_reducible repeat (first | refine blk_drewN ?_ _ | refine blk_drew ?_ | refine blk_alloc ?_ _)); exact BK1022.out⟩, ⟨by repeat (first | (with_reducible first | exact HB.out | apply below_alloc | apply pw_below_drewN | apply below_drew1 | refine below_set ?_ GE1022.out | refine below_set ?_ GE1024.out) | exact HB.out)⟩⟩
          · rw [if_neg c6] at H
            exact absurd H (by simp)
        · rw [if_neg c5] at H
          exact absurd H (by simp)
      · rw [if_neg c4] at H
        have c4b0 : decide (x9_1 < (l0_2.length : Int)) = false := decide_eq_false c4
        clear c4
        obtain rfl := Option.some.inj H
        go_wp2
        go_ret
        exact ⟨by first | rfl | (simp [errW_none, errW_some] <;> rfl) | (simp [*, errW_none, errW_some] <;> rfl), by repeat (first | (with_reducible first | exact HB.out | apply below_alloc | apply pw_below_drewN | apply below_drew1 | refine below_set ?_ GE1022.out) | exact HB.out)⟩

end Go.Proofs.Ytdolplcbokioaaa.PB

/- Functions of the translation as plain Lean functions, and for each that its call comes to just what its Lean function answers; its conditions stand in each theorem. Written by a program of this session. -/
namespace Go.Proofs.Ytdolplcbokioaaa.PB
open Go.RowKit Go.Proofs.YtdolplcbokioaaaW.PrintWords Go.Proofs.YtdolplcbokioaaaW.PrintLast Go.Proofs.YtdolplcbokioaaaW.PrintMore
attribute [local go_sem] max2_int min2_int max_two min_two max_three min_three max_four min_four   -- for this text's walks alone
set_option linter.unusedVariables false
set_option linter.unusedSimpArgs false

/-! ### impl_FreeBlocks: function 39 -/
def impl_FreeBlocks.l0 : Nat → List Int → List (S71) → Int → Int → Option (List Int)
  | 0, _, _, _, _ => none
  | k + 1, x3, x7, x8, x9 => if x9 < x8 then (if 0 ≤ x9 then (if x9 < (x7.length : Int) then (if ((rd_T71 x7 x9).f0 = true) then (impl_FreeBlocks.l0 k x3 x7 x8 (wrap64 (x9 + 1))) else ((impl_blanks.f k ((rd_T71 x7 x9).f0) ((rd_T71 x7 x9).f1) ((rd_T71 x7 x9).f2)).bind fun t1028 => (if t1028 = (((rd_T71 x7 x9).f2).length : Int) then (if x3.length < 17592186044416 then (impl_FreeBlocks.l0 k (x3 ++ [x9]) x7 x8 (wrap64 (x9 + 1))) else (none)) else (impl_FreeBlocks.l0 k x3 x7 x8 (wrap64 (x9 + 1)))))) else (none)) else (none)) else (some x3)
def impl_FreeBlocks.f (k : Nat) (l0_0 : List (S71)) : Option (List Int) := impl_FreeBlocks.l0 k ([] : List Int) l0_0 (l0_0.length : Int) 0
theorem impl_FreeBlocks.mono_l : ∀ k, (∀ y0 y1 y2 y3, LeO (impl_FreeBlocks.l0 k y0 y1 y2 y3) (impl_FreeBlocks.l0 (k + 1) y0 y1 y2 y3))
  | 0 => fun _ _ _ _ r h => by simp [impl_FreeBlocks.l0] at h
  | k + 1 => by
    have ih0 := impl_FreeBlocks.mono_l k
    · intro y0 y1 y2 y3
      unfold impl_FreeBlocks.l0
      repeat' first
      | (with_reducible exact ih0 _ _ _ _)
      | (with_reducible exact impl_blanks.mono _ _ _ _)
      | (with_reducible exact LeO.refl _)
      | (with_reducible exact LeO.none _)
      | (with_reducible refine LeO.ite ?_ ?_)
      | (with_reducible refine LeO.bind ?_ (fun _ => ?_))
      | exact ih0 _ _ _ _
      | exact impl_blanks.mono _ _ _ _
      | exact LeO.none _
      | refine LeO.ite ?_ ?_
      | refine LeO.bind ?_ (fun _ => ?_)
theorem impl_FreeBlocks.mono : ∀ a0 k, LeO (impl_FreeBlocks.f k a0) (impl_FreeBlocks.f (k + 1) a0) := by
  intro a0 k
  have ih0 := impl_FreeBlocks.mono_l k
  unfold impl_FreeBlocks.f
  repeat' first
      | (with_reducible exact ih0 _ _ _ _)
      | (with_reducible exact impl_blanks.mono _ _ _ _)
      | (with_reducible exact LeO.refl _)
      | (with_reducible exact LeO.none _)
      | (with_reducible refine LeO.ite ?_ ?_)
      | (with_reducible refine LeO.bind ?_ (fun _ => ?_))
      | exact ih0 _ _ _ _
      | exact impl_blanks.mono _ _ _ _
      | exact LeO.none _
      | refine LeO.ite ?_ ?_
      | refine LeO.bind ?_ (fun _ => ?_)
def impl_FreeBlocks.T5 : Bool × List (List Nat × List Nat) := (true, [([], []), ([0], [0]), ([1], [1]), ([2], [2]), ([3], [3]), ([4, 3, 3], [3, 4]), ([3], [3]), ([6, 3], [3, 6]), ([7, 3], [3, 7]), ([5, 8, 3], [3, 5, 8]), ([3, 9], [3, 9])])
def impl_FreeBlocks.B5 : List Nat := [0, 1, 3, 7, 15, 31, 15, 79, 207, 511, 1023]
theorem impl_FreeBlocks.tab5 : rtab .any (opsOf Try.f39 5) = impl_FreeBlocks.T5 := by kernel_rfl
theorem impl_FreeBlocks.bits5 : waitsOk impl_FreeBlocks.T5.2 impl_FreeBlocks.B5 = true := by kernel_rfl
set_option maxHeartbeats 8000000 in
set_option maxRecDepth 100000 in
theorem impl_FreeBlocks.calls (k : Nat) (A0_0 : Option Addr) (c0_0 : Nat) (l0_0 : List (S71)) (r : List Int) (w : World) (hr0_0 : Kd.C k71 w A0_0 l0_0.length l0_0) (hc0_0 : l0_0.length ≤ c0_0) (h : impl_FreeBlocks.f k l0_0 = some r) :
    Calls Try.prog 39 #[.agg #[.slice A0_0 l0_0.length c0_0]] w fun e w' => ∃ v0_ : Value, e = .returned (v0_) ∧ Kd.R (Kd.int .i64) 3 w' w.heap.size (fun _ => True) v0_ r ∧ Below w.heap.size w w' := by
  have hu63 := Try.underlying63
  have hu71 := Try.underlying71
  have HR0_0 := Aside0.mk hr0_0
  have HC0_0 := Aside0.mk hc0_0
  clear hr0_0 hc0_0
  have HB := Aside0.mk (Below.refl w.heap.size w)
  have H : (impl_FreeBlocks.l0 k ([] : List Int) l0_0 (l0_0.length : Int) 0) = some r := h
  clear h
  have H' := Aside0.mk H
  clear H
  go_enter Try.func39, Try.ntmps39
  go_wp2_with (first | ((with_reducible refine gate_dst (N := 1) rfl ?_); (try (refine gate_guard (by rfl) ?_; dsimp only)); refine box_event ?hg (N := 1) ?hd (cs := #[.slice A0_0 l0_0.length c0_0]) (t := 63) ?hr ?_; (case hd => rfl); (case hg => rfl); (case hr => first | (go_simp; done) | (go_simp; rfl)); intro gb1025 hg w2 hbox hb; have n0_ := Aside0.mk (below_step (by repeat (first | (with_reducible first | exact HB.out | apply below_alloc | apply pw_below_drewN | apply below_drew1) | exact HB.out)) hb); have n1_ := Aside0.mk (hbox); have n2_ := Aside0.mk ((by rw [hg]; exact (below_size (by repeat (first | (with_reducible first | exact HB.out | apply below_alloc | apply pw_below_drewN | apply below_drew1) | exact HB.out))) : w.heap.size ≤ gb1025)); have n3_ := Aside0.mk ((by rw [hg]; exact (below_size (by repeat (first | (with_reducible first | exact HB.out | apply below_alloc | apply pw_below_drewN | apply below_drew1) | exact HB.out))) : w.heap.size ≤ gb1025)); clear HB; have HB := n0_; have BK1025 := n1_; have GW1025 := n2_; have GE1025 := n3_; clear n0_ n1_ n2_ n3_; clear hb hbox hg; have hcz3_0 : w2.cell? ⟨gb1025, 0, none⟩ = some (.slice A0_0 l0_0.length c0_0) := (blk_cell BK1025.out 0).trans rfl; have hfz3_0 := blk_frozen BK1025.out 0))
  go_loopg [3, 9] k (fun kq v3 v9 w' => ∃ (x3_1 : List Int) (x9_1 : Int), v9 = .int .i64 x9_1 ∧ Aside0 (impl_FreeBlocks.l0 kq x3_1 l0_0 (l0_0.length : Int) x9_1 = some r) ∧ Aside0 (kq ≤ k) ∧ Aside0 (Kd.R (Kd.int .i64) 3 w' w.heap.size (fun _ => True) v3 x3_1) ∧ Aside0 (w'.heap[gb1025]? = some (.cells #[(.slice A0_0 l0_0.length c0_0)] 63 (0, 0))) ∧ Aside0 (Below w.heap.size w w'))
  case atStart => exact ⟨(([] : List Int)), (0), (by first | rfl | (simp; done) | (simp [*]; done)), H', ⟨Nat.le_refl _⟩, ⟨by first | exact Kd.R_nil _ _ _ _ _ | exact Kd.N_nil _ _ _ _ _ | exact Kd.V_nil _ _ _ _ _ | exact Kd.Q_nil _ _ _ _ _ | exact Kd.S_nil _ _ _ _ _⟩, ⟨by (with_reducible repeat (first | refine blk_drewN ?_ _ | refine blk_drew ?_ | refine blk_alloc ?_ _)); exact BK1025.out⟩, ⟨by repeat (first | (with_reducible first | exact HB.out | apply below_alloc | apply pw_below_drewN | apply below_drew1 | refine below_set ?_ GE1025.out) | exact HB.out)⟩⟩
  case round =>
    clear H'
    try clear p2
    try clear c3
    try clear hcz3_0
    try clear hfz3_0
    obtain ⟨x3_1, x9_1, rfl, HA, HK1, HO_3, BK1025, HB⟩ := hrel
    cases gk with
    | zero => exact absurd HA.out (by simp [impl_FreeBlocks.l0])
    | succ k1 =>
      have H := HA.out
      clear HA
      simp only [impl_FreeBlocks.l0] at H
      by_cases c4 : x9_1 < (l0_0.length : Int)
      · rw [if_pos c4] at H
        have c4b0 : decide (x9_1 < (l0_0.length : Int)) = true := decide_eq_true c4
        clear c4
        by_cases c5 : 0 ≤ x9_1
        · rw [if_pos c5] at H
          have c5b0 : decide (0 ≤ x9_1) = true := decide_eq_true c5
          clear c5
          by_cases c6 : x9_1 < (l0_0.length : Int)
          · rw [if_pos c6] at H
            have c6b0 : decide (x9_1 < (l0_0.length : Int)) = true := decide_eq_true c6
            clear c6
            obtain ⟨bq7, hbq7⟩ : ∃ b_ : Bool, b_ = ((rd_T71 l0_0 x9_1).f0) := ⟨_, rfl⟩
            replace H : (if (bq7 = true) then (impl_FreeBlocks.l0 k1 x3_1 l0_0 (l0_0.length : Int) (wrap64 (x9_1 + 1))) else ((impl_blanks.f k1 (bq7) ((rd_T71 l0_0 x9_1).f1) ((rd_T71 l0_0 x9_1).f2)).bind fun t1028 => (if t1028 = (((rd_T71 l0_0 x9_1).f2).length : Int) then (if x3_1.length < 17592186044416 then (impl_FreeBlocks.l0 k1 (x3_1 ++ [x9_1]) l0_0 (l0_0.length : Int) (wrap64 (x9_1 + 1))) else (none)) else (impl_FreeBlocks.l0 k1 x3_1 l0_0 (l0_0.length : Int) (wrap64 (x9_1 + 1)))))) = some r := by rw [← hbq7] at H; exact H
            have Nbq7 := Aside0.mk hbq7
            clear hbq7
            by_cases c8 : (bq7 = true)
            · subst c8
              have H1 : (impl_FreeBlocks.l0 k1 x3_1 l0_0 (l0_0.length : Int) (wrap64 (x9_1 + 1))) = some r := by rw [if_pos rfl] at H; exact H
              clear H
              have H := H1
              clear H1
              have H' := Aside0.mk H
              clear H
              have p1026 : 0 ≤ (x9_1 : Int) := of_decide_eq_true (by first | (with_reducible assumption) | assumption)
              have q1026 : x9_1 < (l0_0.length : Int) := of_decide_eq_true (by first | (with_reducible assumption) | assumption)
              obtain ⟨ad1026, A1026_2, c1026_2, e1026, hx1026_0, hx1026_1, hx1026_2, hl1026_2, hi1026_2⟩ := at_T71 HR0_0.out x9_1 p1026 q1026
              (try rw [← Nbq7.out] at hx1026_0)
              cases e1026
              replace hx1026_0 := (HB.out.cell (World.block_lt_of_cell? w _ hx1026_0)).trans hx1026_0
              replace hx1026_1 := (HB.out.cell (World.block_lt_of_cell? w _ hx1026_1)).trans hx1026_1
              replace hx1026_2 := (HB.out.cell (World.block_lt_of_cell? w _ hx1026_2)).trans hx1026_2
              have HR1026_2 := Aside0.mk hi1026_2
              have HC1026_2 := Aside0.mk hl1026_2
              clear hi1026_2 hl1026_2
              replace p1026 := eq_true p1026
              replace q1026 := eq_true q1026
              try go_wp2_with (first | ((with_reducible refine gate_dst (N := 5) rfl ?_); (try (refine gate_guard (by rfl) ?_; dsimp only)); refine box_event ?hg (N := 5) ?hd (cs := #[.bool false, .int .i64 0, .slice none 0 0]) (t := 71) ?hr ?_; (case hd => rfl); (case hg => rfl); (case hr => first | (go_simp; done) | (go_simp; rfl)); intro gb1027 hg w9 hbox hb; have n0_ := Aside0.mk (Kd.R_below (by (with_reducible repeat (first | apply Kd.R_alloc | apply Kd.R_drewN | apply Kd.R_drew)); exact HO_3.out) hb); have n1_ := Aside0.mk (blk_below (g := gb1025) (o := .cells #[.slice (some ad1026) l0_0.length c0_0] 63 (0, 0)) (by (with_reducible repeat (first | refine blk_drewN ?_ _ | refine blk_drew ?_ | refine blk_alloc ?_ _)); exact BK1025.out) hb); have n2_ := Aside0.mk (below_step (by repeat (first | (with_reducible first | exact HB.out | apply below_alloc | apply pw_below_drewN | apply below_drew1 | refine below_set ?_ GE1025.out) | exact HB.out)) hb); have n3_ := Aside0.mk (hbox); have n4_ := Aside0.mk ((by rw [hg]; exact (below_size (by repeat (first | (with_reducible first | exact HB.out | apply below_alloc | apply pw_below_drewN | apply below_drew1 | refine below_set ?_ GE1025.out) | exact HB.out))) : w.heap.size ≤ gb1027)); have n5_ := Aside0.mk ((by rw [hg]; exact (below_size (by repeat (first | (with_reducible first | exact HB.out | apply below_alloc | apply pw_below_drewN | apply below_drew1 | refine below_set ?_ GE1025.out) | exact HB.out))) : w.heap.size ≤ gb1027)); have n6_ := Aside0.mk ((by rw [hg]; exact Nat.ne_of_lt (blk_lt (g := gb1025) (o := .cells #[.slice (some ad1026) l0_0.length c0_0] 63 (0, 0)) (by (with_reducible repeat (first | refine blk_drewN ?_ _ | refine blk_drew ?_ | refine blk_alloc ?_ _)); exact BK1025.out)) : gb1025 ≠ gb1027)); have n7_ := Aside0.mk ((by rw [hg]; exact Nat.ne_of_gt (blk_lt (g := gb1025) (o := .cells #[.slice (some ad1026) l0_0.length c0_0] 63 (0, 0)) (by (with_reducible repeat (first | refine blk_drewN ?_ _ | refine blk_drew ?_ | refine blk_alloc ?_ _)); exact BK1025.out)) : gb1027 ≠ gb1025)); clear HO_3; clear BK1025; clear HB; have HO_3 := n0_; have BK1025 := n1_; have HB := n2_; have BK1027 := n3_; have GW1027 := n4_; have GE1027 := n5_; have NB1025_1027 := n6_; have NB1027_1025 := n7_; clear n0_ n1_ n2_ n3_ n4_ n5_ n6_ n7_; clear hb hbox hg; have hnb10 := NB1027_1025.out; have hnc10 := NB1025_1027.out; have hcz11_0 : w9.cell? ⟨gb1027, 0, none⟩ = some (.bool false) := (blk_cell BK1027.out 0).trans rfl; have hcz11_1 : w9.cell? ⟨gb1027, 1, none⟩ = some (.int .i64 0) := (blk_cell BK1027.out 1).trans rfl; have hcz11_2 : w9.cell? ⟨gb1027, 2, none⟩ = some (.slice none 0 0) := (blk_cell BK1027.out 2).trans rfl; have hfz11_0 := blk_frozen BK1027.out 0; have hfz11_1 := blk_frozen BK1027.out 1; have hfz11_2 := blk_frozen BK1027.out 2))
              have n0_ : Aside0 (Kd.R (Kd.int .i64) 3 (((w9.setCell ⟨gb1027, 0, none⟩ (.bool true)).setCell ⟨gb1027, 1, none⟩ (.int .i64 ((rd_T71 l0_0 x9_1).f1))).setCell ⟨gb1027, 2, none⟩ (.slice A1026_2 ((rd_T71 l0_0 x9_1).f2).length c1026_2)) w.heap.size (fun _ => True) u3 x3_1) := ⟨by (with_reducible repeat (first | apply Kd.R_alloc | apply Kd.R_drewN | apply Kd.R_drew)); exact Kd.R_mono (Kd.R_far (p := ⟨gb1027, 2, none⟩) (Kd.R_far (p := ⟨gb1027, 1, none⟩) (Kd.R_far (p := ⟨gb1027, 0, none⟩) (Kd.R_types HO_3.out BK1027.out (by decide)) (fun _ hk => hk.2) (.bool true)) (fun _ hk => hk.2) (.int .i64 ((rd_T71 l0_0 x9_1).f1))) (fun _ hk => hk.2) (.slice A1026_2 ((rd_T71 l0_0 x9_1).f2).length c1026_2)) (fun _ hk => trivial)⟩
              have n1_ : Aside0 ((((w9.setCell ⟨gb1027, 0, none⟩ (.bool true)).setCell ⟨gb1027, 1, none⟩ (.int .i64 ((rd_T71 l0_0 x9_1).f1))).setCell ⟨gb1027, 2, none⟩ (.slice A1026_2 ((rd_T71 l0_0 x9_1).f2).length c1026_2)).heap[gb1025]? = some (.cells #[.slice (some ad1026) l0_0.length c0_0] 63 (0, 0))) := ⟨by (with_reducible repeat (first | refine blk_drewN ?_ _ | refine blk_drew ?_ | refine blk_alloc ?_ _)); refine blk_far ?_ NB1025_1027.out _; (with_reducible repeat (first | refine blk_drewN ?_ _ | refine blk_drew ?_ | refine blk_alloc ?_ _)); refine blk_far ?_ NB1025_1027.out _; (with_reducible repeat (first | refine blk_drewN ?_ _ | refine blk_drew ?_ | refine blk_alloc ?_ _)); refine blk_far ?_ NB1025_1027.out _; (with_reducible repeat (first | refine blk_drewN ?_ _ | refine blk_drew ?_ | refine blk_alloc ?_ _)); exact BK1025.out⟩
              have n2_ : Aside0 ((((w9.setCell ⟨gb1027, 0, none⟩ (.bool true)).setCell ⟨gb1027, 1, none⟩ (.int .i64 ((rd_T71 l0_0 x9_1).f1))).setCell ⟨gb1027, 2, none⟩ (.slice A1026_2 ((rd_T71 l0_0 x9_1).f2).length c1026_2)).heap[gb1027]? = some (.cells #[.bool true, .int .i64 ((rd_T71 l0_0 x9_1).f1), .slice A1026_2 ((rd_T71 l0_0 x9_1).f2).length c1026_2] 71 (0, 0))) := ⟨by (with_reducible repeat (first | refine blk_drewN ?_ _ | refine blk_drew ?_ | refine blk_alloc ?_ _)); refine blk_put (cs := #[.bool true, .int .i64 ((rd_T71 l0_0 x9_1).f1), .slice none 0 0]) ?_ 2 _ rfl; (with_reducible repeat (first | refine blk_drewN ?_ _ | refine blk_drew ?_ | refine blk_alloc ?_ _)); refine blk_put (cs := #[.bool true, .int .i64 0, .slice none 0 0]) ?_ 1 _ rfl; (with_reducible repeat (first | refine blk_drewN ?_ _ | refine blk_drew ?_ | refine blk_alloc ?_ _)); refine blk_put (cs := #[.bool false, .int .i64 0, .slice none 0 0]) ?_ 0 _ rfl; (with_reducible repeat (first | refine blk_drewN ?_ _ | refine blk_drew ?_ | refine blk_alloc ?_ _)); exact BK1027.out⟩
              have n3_ : Aside0 (Below w.heap.size w (((w9.setCell ⟨gb1027, 0, none⟩ (.bool true)).setCell ⟨gb1027, 1, none⟩ (.int .i64 ((rd_T71 l0_0 x9_1).f1))).setCell ⟨gb1027, 2, none⟩ (.slice A1026_2 ((rd_T71 l0_0 x9_1).f2).length c1026_2))) := ⟨by repeat (first | (with_reducible first | exact HB.out | apply below_alloc | apply pw_below_drewN | apply below_drew1 | refine below_set ?_ GE1025.out | refine below_set ?_ GE1027.out) | exact HB.out)⟩
              (try clear HO_3)
              (try clear BK1025)
              (try clear BK1027)
              (try clear HB)
              generalize (((w9.setCell ⟨gb1027, 0, none⟩ (.bool true)).setCell ⟨gb1027, 1, none⟩ (.int .i64 ((rd_T71 l0_0 x9_1).f1))).setCell ⟨gb1027, 2, none⟩ (.slice A1026_2 ((rd_T71 l0_0 x9_1).f2).length c1026_2)) = w12 at n0_ n1_ n2_ n3_ ⊢
              have HO_3 := n0_
              have BK1025 := n1_
              have BK1027 := n2_
              have HB := n3_
              clear n0_ n1_ n2_ n3_
              have n0_ := Aside0.mk (Kd.R_drew HO_3.out)
              have n1_ := Aside0.mk (blk_drew BK1025.out)
              have n2_ := Aside0.mk (blk_drew BK1027.out)
              have n3_ := Aside0.mk (below_drew1 HB.out)
              clear HO_3
              clear BK1025
              clear BK1027
              clear HB
              have HO_3 := n0_
              have BK1025 := n1_
              have BK1027 := n2_
              have HB := n3_
              clear n0_ n1_ n2_ n3_
              refine start_ (n := 11) (S := fun w' => w'.cell? ⟨gb1027, 0, none⟩ = some (.bool true) ∧ w'.cell? ⟨gb1027, 1, none⟩ = some (.int .i64 ((rd_T71 l0_0 x9_1).f1)) ∧ w'.cell? ⟨gb1027, 2, none⟩ = some (.slice A1026_2 ((rd_T71 l0_0 x9_1).f2).length c1026_2)) (ds := []) #[false, false, false, false, false, false, false, false, false, false, false] (by kernel_rfl) rfl rfl ⟨(blk_cell BK1027.out 0).trans rfl, (blk_cell BK1027.out 1).trans rfl, (blk_cell BK1027.out 2).trans rfl⟩ (fun hHeld => ?_); refine with_tabW impl_FreeBlocks.tab5 impl_FreeBlocks.bits5 (fun HT_ HW_ => ?_)
              generalize w12.drew = w13 at HO_3 BK1025 BK1027 HB hHeld ⊢
              refine pure_ (i := 0) (N := some 14) (v := ?_) (a' := ?_) #[true, false, false, false, false, false, false, false, false, false, false] rfl rfl (any_of HT_.out (by kernel_rfl)) (fun _ _ _ h => h) (Or.inl ⟨by rfl, ?_⟩) ?_ ?_
              rotate_left
              · intro w'
                go_simp
                with_reducible rfl
              rotate_left
              · simp only [Act.put, List.setIfInBounds_toArray, List.set_cons_zero, List.set_cons_succ, i64_w, i32_w]
                rfl
              refine take_ (i := 1) (N := some 15) (v := ?_) (a' := ?_) #[true, true, false, false, false, false, false, false, false, false, false] rfl rfl (take_ofW HT_.out HW_.out (by kernel_rfl)) (fun _ _ _ h => h) (Or.inl ⟨by rfl, ?_⟩) hHeld ?_ ?_
              rotate_left
              · rintro w' ⟨s0, s1, s2⟩
                go_simp
                with_reducible rfl
              rotate_left
              · simp only [Act.put, List.setIfInBounds_toArray, List.set_cons_zero, List.set_cons_succ, i64_w, i32_w]
                rfl
              refine pure_ (i := 2) (N := some 16) (v := ?_) (a' := ?_) #[true, true, true, false, false, false, false, false, false, false, false] rfl rfl (any_of HT_.out (by kernel_rfl)) (fun _ _ _ h => h) (Or.inl ⟨by rfl, ?_⟩) ?_ ?_
              rotate_left
              · intro w'
                go_simp
                with_reducible rfl
              rotate_left
              · simp only [Act.put, List.setIfInBounds_toArray, List.set_cons_zero, List.set_cons_succ, i64_w, i32_w]
                rfl
              refine pure_ (i := 3) (N := some 17) (v := ?_) (a' := ?_) #[true, true, true, true, false, false, false, false, false, false, false] rfl rfl (any_of HT_.out (by kernel_rfl)) (fun _ _ _ h => h) (Or.inl ⟨by rfl, ?_⟩) ?_ ?_
              rotate_left
              · intro w'
                go_simp
                with_reducible rfl
              rotate_left
              · simp only [Act.put, List.setIfInBounds_toArray, List.set_cons_zero, List.set_cons_succ, i64_w, i32_w]
                rfl
              refine pure_ (i := 4) (N := some 18) (v := undef) (a' := ?_) #[true, true, true, true, true, false, false, false, false, false, false] rfl rfl (any_of HT_.out (by kernel_rfl)) (fun _ _ _ h => h) (Or.inr ⟨by rfl, rfl⟩) ?_ ?_
              rotate_left
              · simp only [Act.put, List.setIfInBounds_toArray, List.set_cons_zero, List.set_cons_succ, i64_w, i32_w]
                rfl
              refine pure_ (i := 5) (N := some 19) (v := undef) (a' := ?_) #[true, true, true, true, true, true, false, false, false, false, false] rfl rfl (any_of HT_.out (by kernel_rfl)) (fun _ _ _ h => h) (Or.inr ⟨by rfl, rfl⟩) ?_ ?_
              rotate_left
              · simp only [Act.put, List.setIfInBounds_toArray, List.set_cons_zero, List.set_cons_succ, i64_w, i32_w]
                rfl
              refine pure_ (i := 6) (N := some 20) (v := undef) (a' := ?_) #[true, true, true, true, true, true, true, false, false, false, false] rfl rfl (any_of HT_.out (by kernel_rfl)) (fun _ _ _ h => h) (Or.inr ⟨by rfl, rfl⟩) ?_ ?_
              rotate_left
              · simp only [Act.put, List.setIfInBounds_toArray, List.set_cons_zero, List.set_cons_succ, i64_w, i32_w]
                rfl
              refine pure_ (i := 7) (N := some 21) (v := undef) (a' := ?_) #[true, true, true, true, true, true, true, true, false, false, false] rfl rfl (any_of HT_.out (by kernel_rfl)) (fun _ _ _ h => h) (Or.inr ⟨by rfl, rfl⟩) ?_ ?_
              rotate_left
              · simp only [Act.put, List.setIfInBounds_toArray, List.set_cons_zero, List.set_cons_succ, i64_w, i32_w]
                rfl
              refine pure_ (i := 8) (N := some 22) (v := undef) (a' := ?_) #[true, true, true, true, true, true, true, true, true, false, false] rfl rfl (any_of HT_.out (by kernel_rfl)) (fun _ _ _ h => h) (Or.inr ⟨by rfl, rfl⟩) ?_ ?_
              rotate_left
              · simp only [Act.put, List.setIfInBounds_toArray, List.set_cons_zero, List.set_cons_succ, i64_w, i32_w]
                rfl
              refine pure_ (i := 9) (N := some 23) (v := undef) (a' := ?_) #[true, true, true, true, true, true, true, true, true, true, false] rfl rfl (any_of HT_.out (by kernel_rfl)) (fun _ _ _ h => h) (Or.inr ⟨by rfl, rfl⟩) ?_ ?_
              rotate_left
              · simp only [Act.put, List.setIfInBounds_toArray, List.set_cons_zero, List.set_cons_succ, i64_w, i32_w]
                rfl
              refine pure_ (i := 10) (N := some 24) (v := ?_) (a' := ?_) #[true, true, true, true, true, true, true, true, true, true, true] rfl rfl (any_of HT_.out (by kernel_rfl)) (fun _ _ _ h => h) (Or.inl ⟨by rfl, ?_⟩) ?_ ?_
              rotate_left
              · intro w'
                go_simp
                with_reducible rfl
              rotate_left
              · simp only [Act.put, List.setIfInBounds_toArray, List.set_cons_zero, List.set_cons_succ, i64_w, i32_w]
                rfl
              refine done_ (done_of HT_.out (by kernel_rfl)) ?_
              try go_wp2
              go_roundg k1
              case measure => have := HK1.out; omega
              case rel => exact ⟨(x3_1), (wrap64 (x9_1 + 1)), (by first | rfl | (simp; done) | (simp [*]; done)), H', ⟨by have := HK1.out; omega⟩, ⟨by (with_reducible repeat (first | apply Kd.R_alloc | apply Kd.R_drewN | apply Kd.R_drew)); exact HO_3.out⟩, ⟨by (with_reducible repeat (first | refine blk_drewN ?_ _ | refine blk_drew ?_ | refine blk_alloc ?_ _)); exact BK1025.out⟩, ⟨by repeat (first | (with_reducible first | exact HB.out | apply below_alloc | apply pw_below_drewN | apply below_drew1 | refine below_set ?_ GE1025.out | refine below_set ?_ GE1027.out) | exact HB.out)⟩⟩
            · replace c8 := Bool.eq_false_iff.mpr c8
              subst c8
              have H1 : ((impl_blanks.f k1 (false) ((rd_T71 l0_0 x9_1).f1) ((rd_T71 l0_0 x9_1).f2)).bind fun t1028 => (if t1028 = (((rd_T71 l0_0 x9_1).f2).length : Int) then (if x3_1.length < 17592186044416 then (impl_FreeBlocks.l0 k1 (x3_1 ++ [x9_1]) l0_0 (l0_0.length : Int) (wrap64 (x9_1 + 1))) else (none)) else (impl_FreeBlocks.l0 k1 x3_1 l0_0 (l0_0.length : Int) (wrap64 (x9_1 + 1))))) = some r := by rw [if_neg (show ¬ (false = true) by decide)] at H; exact H
              clear H
              have H := H1
              clear H1
              replace H := Option.bind_eq_some_iff.mp H
              obtain ⟨t1028, A140, H⟩ := H
              replace H : (if t1028 = (((rd_T71 l0_0 x9_1).f2).length : Int) then (if x3_1.length < 17592186044416 then (impl_FreeBlocks.l0 k1 (x3_1 ++ [x9_1]) l0_0 (l0_0.length : Int) (wrap64 (x9_1 + 1))) else (none)) else (impl_FreeBlocks.l0 k1 x3_1 l0_0 (l0_0.length : Int) (wrap64 (x9_1 + 1)))) = some r := H
              have A14 := Aside0.mk A140
              clear A140
              by_cases c15 : t1028 = (((rd_T71 l0_0 x9_1).f2).length : Int)
              · rw [if_pos c15] at H
                have c15b0 : (t1028 == (((rd_T71 l0_0 x9_1).f2).length : Int)) = true := beq_iff_eq.mpr c15
                have c15b1 : (t1028 != (((rd_T71 l0_0 x9_1).f2).length : Int)) = false := bne_eq_false_iff_eq.mpr c15
                clear c15
                by_cases c16 : x3_1.length < 17592186044416
                · rw [if_pos c16] at H
                  have LMc16 := Aside0.mk c16
                  clear c16
                  obtain ⟨y1029, hy1029⟩ : ∃ y_ : List Int, y_ = (x3_1 ++ [x9_1]) := ⟨_, rfl⟩
                  replace H : (impl_FreeBlocks.l0 k1 y1029 l0_0 (l0_0.length : Int) (wrap64 (x9_1 + 1))) = some r := by first | (rw [hy1029]; with_reducible exact H) | (have H2_ := (Option.bind_some _ _).symm.trans H; rw [hy1029]; with_reducible exact H2_) | (have H2_ := (Option.bind_some _ _).symm.trans H; with_reducible exact H2_) | with_reducible exact H | (rw [hy1029]; exact H) | exact H
                  have Ny1029 := Aside0.mk hy1029
                  clear hy1029
                  have H' := Aside0.mk H
                  clear H
                  have p1026 : 0 ≤ (x9_1 : Int) := of_decide_eq_true (by first | (with_reducible assumption) | assumption)
                  have q1026 : x9_1 < (l0_0.length : Int) := of_decide_eq_true (by first | (with_reducible assumption) | assumption)
                  obtain ⟨ad1026, A1026_2, c1026_2, e1026, hx1026_0, hx1026_1, hx1026_2, hl1026_2, hi1026_2⟩ := at_T71 HR0_0.out x9_1 p1026 q1026
                  (try rw [← Nbq7.out] at hx1026_0)
                  cases e1026
                  replace hx1026_0 := (HB.out.cell (World.block_lt_of_cell? w _ hx1026_0)).trans hx1026_0
                  replace hx1026_1 := (HB.out.cell (World.block_lt_of_cell? w _ hx1026_1)).trans hx1026_1
                  replace hx1026_2 := (HB.out.cell (World.block_lt_of_cell? w _ hx1026_2)).trans hx1026_2
                  have HR1026_2 := Aside0.mk hi1026_2
                  have HC1026_2 := Aside0.mk hl1026_2
                  clear hi1026_2 hl1026_2
                  replace p1026 := eq_true p1026
                  replace q1026 := eq_true q1026
                  try go_wp2_with (first | ((with_reducible refine gate_dst (N := 5) rfl ?_); (try (refine gate_guard (by rfl) ?_; dsimp only)); refine box_event ?hg (N := 5) ?hd (cs := #[.bool false, .int .i64 0, .slice none 0 0]) (t := 71) ?hr ?_; (case hd => rfl); (case hg => rfl); (case hr => first | (go_simp; done) | (go_simp; rfl)); intro gb1027 hg w17 hbox hb; have n0_ := Aside0.mk (Kd.R_below (by (with_reducible repeat (first | apply Kd.R_alloc | apply Kd.R_drewN | apply Kd.R_drew)); exact HO_3.out) hb); have n1_ := Aside0.mk (blk_below (g := gb1025) (o := .cells #[.slice (some ad1026) l0_0.length c0_0] 63 (0, 0)) (by (with_reducible repeat (first | refine blk_drewN ?_ _ | refine blk_drew ?_ | refine blk_alloc ?_ _)); exact BK1025.out) hb); have n2_ := Aside0.mk (below_step (by repeat (first | (with_reducible first | exact HB.out | apply below_alloc | apply pw_below_drewN | apply below_drew1 | refine below_set ?_ GE1025.out) | exact HB.out)) hb); have n3_ := Aside0.mk (hbox); have n4_ := Aside0.mk ((by rw [hg]; exact (below_size (by repeat (first | (with_reducible first | exact HB.out | apply below_alloc | apply pw_below_drewN | apply below_drew1 | refine below_set ?_ GE1025.out) | exact HB.out))) : w.heap.size ≤ gb1027)); have n5_ := Aside0.mk ((by rw [hg]; exact (below_size (by repeat (first | (with_reducible first | exact HB.out | apply below_alloc | apply pw_below_drewN | apply below_drew1 | refine below_set ?_ GE1025.out) | exact HB.out))) : w.heap.size ≤ gb1027)); have n6_ := Aside0.mk ((by rw [hg]; exact Nat.ne_of_lt (blk_lt (g := gb1025) (o := .cells #[.slice (some ad1026) l0_0.length c0_0] 63 (0, 0)) (by (with_reducible repeat (first | refine blk_drewN ?_ _ | refine blk_drew ?_ | refine blk_alloc ?_ _)); exact BK1025.out)) : gb1025 ≠ gb1027)); have n7_ := Aside0.mk ((by rw [hg]; exact Nat.ne_of_gt (blk_lt (g := gb1025) (o := .cells #[.slice (some ad1026) l0_0.length c0_0] 63 (0, 0)) (by (with_reducible repeat (first | refine blk_drewN ?_ _ | refine blk_drew ?_ | refine blk_alloc ?_ _)); exact BK1025.out)) : gb1027 ≠ gb1025)); clear HO_3; clear BK1025; clear HB; have HO_3 := n0_; have BK1025 := n1_; have HB := n2_; have BK1027 := n3_; have GW1027 := n4_; have GE1027 := n5_; have NB1025_1027 := n6_; have NB1027_1025 := n7_; clear n0_ n1_ n2_ n3_ n4_ n5_ n6_ n7_; clear hb hbox hg; have hnb18 := NB1027_1025.out; have hnc18 := NB1025_1027.out; have hcz19_0 : w17.cell? ⟨gb1027, 0, none⟩ = some (.bool false) := (blk_cell BK1027.out 0).trans rfl; have hcz19_1 : w17.cell? ⟨gb1027, 1, none⟩ = some (.int .i64 0) := (blk_cell BK1027.out 1).trans rfl; have hcz19_2 : w17.cell? ⟨gb1027, 2, none⟩ = some (.slice none 0 0) := (blk_cell BK1027.out 2).trans rfl; have hfz19_0 := blk_frozen BK1027.out 0; have hfz19_1 := blk_frozen BK1027.out 1; have hfz19_2 := blk_frozen BK1027.out 2))
                  have n0_ : Aside0 (Kd.R (Kd.int .i64) 3 (((w17.setCell ⟨gb1027, 0, none⟩ (.bool false)).setCell ⟨gb1027, 1, none⟩ (.int .i64 ((rd_T71 l0_0 x9_1).f1))).setCell ⟨gb1027, 2, none⟩ (.slice A1026_2 ((rd_T71 l0_0 x9_1).f2).length c1026_2)) w.heap.size (fun _ => True) u3 x3_1) := ⟨by (with_reducible repeat (first | apply Kd.R_alloc | apply Kd.R_drewN | apply Kd.R_drew)); exact Kd.R_mono (Kd.R_far (p := ⟨gb1027, 2, none⟩) (Kd.R_far (p := ⟨gb1027, 1, none⟩) (Kd.R_far (p := ⟨gb1027, 0, none⟩) (Kd.R_types HO_3.out BK1027.out (by decide)) (fun _ hk => hk.2) (.bool false)) (fun _ hk => hk.2) (.int .i64 ((rd_T71 l0_0 x9_1).f1))) (fun _ hk => hk.2) (.slice A1026_2 ((rd_T71 l0_0 x9_1).f2).length c1026_2)) (fun _ hk => trivial)⟩
                  have n1_ : Aside0 ((((w17.setCell ⟨gb1027, 0, none⟩ (.bool false)).setCell ⟨gb1027, 1, none⟩ (.int .i64 ((rd_T71 l0_0 x9_1).f1))).setCell ⟨gb1027, 2, none⟩ (.slice A1026_2 ((rd_T71 l0_0 x9_1).f2).length c1026_2)).heap[gb1025]? = some (.cells #[.slice (some ad1026) l0_0.length c0_0] 63 (0, 0))) := ⟨by (with_reducible repeat (first | refine blk_drewN ?_ _ | refine blk_drew ?_ | refine blk_alloc ?_ _)); refine blk_far ?_ NB1025_1027.out _; (with_reducible repeat (first | refine blk_drewN ?_ _ | refine blk_drew ?_ | refine blk_alloc ?_ _)); refine blk_far ?_ NB1025_1027.out _; (with_reducible repeat (first | refine blk_drewN ?_ _ | refine blk_drew ?_ | refine blk_alloc ?_ _)); refine blk_far ?_ NB1025_1027.out _; (with_reducible repeat (first | refine blk_drewN ?_ _ | refine blk_drew ?_ | refine blk_alloc ?_ _)); exact BK1025.out⟩
                  have n2_ : Aside0 ((((w17.setCell ⟨gb1027, 0, none⟩ (.bool false)).setCell ⟨gb1027, 1, none⟩ (.int .i64 ((rd_T71 l0_0 x9_1).f1))).setCell ⟨gb1027, 2, none⟩ (.slice A1026_2 ((rd_T71 l0_0 x9_1).f2).length c1026_2)).heap[gb1027]? = some (.cells #[.bool false, .int .i64 ((rd_T71 l0_0 x9_1).f1), .slice A1026_2 ((rd_T71 l0_0 x9_1).f2).length c1026_2] 71 (0, 0))) := ⟨by (with_reducible repeat (first | refine blk_drewN ?_ _ | refine blk_drew ?_ | refine blk_alloc ?_ _)); refine blk_put (cs := #[.bool false, .int .i64 ((rd_T71 l0_0 x9_1).f1), .slice none 0 0]) ?_ 2 _ rfl; (with_reducible repeat (first | refine blk_drewN ?_ _ | refine blk_drew ?_ | refine blk_alloc ?_ _)); refine blk_put (cs := #[.bool false, .int .i64 0, .slice none 0 0]) ?_ 1 _ rfl; (with_reducible repeat (first | refine blk_drewN ?_ _ | refine blk_drew ?_ | refine blk_alloc ?_ _)); refine blk_put (cs := #[.bool false, .int .i64 0, .slice none 0 0]) ?_ 0 _ rfl; (with_reducible repeat (first | refine blk_drewN ?_ _ | refine blk_drew ?_ | refine blk_alloc ?_ _)); exact BK1027.out⟩
                  have n3_ : Aside0 (Below w.heap.size w (((w17.setCell ⟨gb1027, 0, none⟩ (.bool false)).setCell ⟨gb1027, 1, none⟩ (.int .i64 ((rd_T71 l0_0 x9_1).f1))).setCell ⟨gb1027, 2, none⟩ (.slice A1026_2 ((rd_T71 l0_0 x9_1).f2).length c1026_2))) := ⟨by repeat (first | (with_reducible first | exact HB.out | apply below_alloc | apply pw_below_drewN | apply below_drew1 | refine below_set ?_ GE1025.out | refine below_set ?_ GE1027.out) | exact HB.out)⟩
                  (try clear HO_3)
                  (try clear BK1025)
                  (try clear BK1027)
                  (try clear HB)
                  generalize (((w17.setCell ⟨gb1027, 0, none⟩ (.bool false)).setCell ⟨gb1027, 1, none⟩ (.int .i64 ((rd_T71 l0_0 x9_1).f1))).setCell ⟨gb1027, 2, none⟩ (.slice A1026_2 ((rd_T71 l0_0 x9_1).f2).length c1026_2)) = w20 at n0_ n1_ n2_ n3_ ⊢
                  have HO_3 := n0_
                  have BK1025 := n1_
                  have BK1027 := n2_
                  have HB := n3_
                  clear n0_ n1_ n2_ n3_
                  have n0_ := Aside0.mk (Kd.R_drew HO_3.out)
                  have n1_ := Aside0.mk (blk_drew BK1025.out)
                  have n2_ := Aside0.mk (blk_drew BK1027.out)
                  have n3_ := Aside0.mk (below_drew1 HB.out)
                  clear HO_3
                  clear BK1025
                  clear BK1027
                  clear HB
                  have HO_3 := n0_
                  have BK1025 := n1_
                  have BK1027 := n2_
                  have HB := n3_
                  clear n0_ n1_ n2_ n3_
                  refine start_ (n := 11) (S := fun w' => w'.cell? ⟨gb1027, 0, none⟩ = some (.bool false) ∧ w'.cell? ⟨gb1027, 1, none⟩ = some (.int .i64 ((rd_T71 l0_0 x9_1).f1)) ∧ w'.cell? ⟨gb1027, 2, none⟩ = some (.slice A1026_2 ((rd_T71 l0_0 x9_1).f2).length c1026_2)) (ds := []) #[false, false, false, false, false, false, false, false, false, false, false] (by kernel_rfl) rfl rfl ⟨(blk_cell BK1027.out 0).trans rfl, (blk_cell BK1027.out 1).trans rfl, (blk_cell BK1027.out 2).trans rfl⟩ (fun hHeld => ?_); refine with_tabW impl_FreeBlocks.tab5 impl_FreeBlocks.bits5 (fun HT_ HW_ => ?_)
                  generalize w20.drew = w21 at HO_3 BK1025 BK1027 HB hHeld ⊢
                  refine pure_ (i := 0) (N := some 14) (v := ?_) (a' := ?_) #[true, false, false, false, false, false, false, false, false, false, false] rfl rfl (any_of HT_.out (by kernel_rfl)) (fun _ _ _ h => h) (Or.inl ⟨by rfl, ?_⟩) ?_ ?_
                  rotate_left
                  · intro w'
                    go_simp
                    with_reducible rfl
                  rotate_left
                  · simp only [Act.put, List.setIfInBounds_toArray, List.set_cons_zero, List.set_cons_succ, i64_w, i32_w]
                    rfl
                  refine take_ (i := 1) (N := some 15) (v := ?_) (a' := ?_) #[true, true, false, false, false, false, false, false, false, false, false] rfl rfl (take_ofW HT_.out HW_.out (by kernel_rfl)) (fun _ _ _ h => h) (Or.inl ⟨by rfl, ?_⟩) hHeld ?_ ?_
                  rotate_left
                  · rintro w' ⟨s0, s1, s2⟩
                    go_simp
                    with_reducible rfl
                  rotate_left
                  · simp only [Act.put, List.setIfInBounds_toArray, List.set_cons_zero, List.set_cons_succ, i64_w, i32_w]
                    rfl
                  refine pure_ (i := 2) (N := some 16) (v := ?_) (a' := ?_) #[true, true, true, false, false, false, false, false, false, false, false] rfl rfl (any_of HT_.out (by kernel_rfl)) (fun _ _ _ h => h) (Or.inl ⟨by rfl, ?_⟩) ?_ ?_
                  rotate_left
                  · intro w'
                    go_simp
                    with_reducible rfl
                  rotate_left
                  · simp only [Act.put, List.setIfInBounds_toArray, List.set_cons_zero, List.set_cons_succ, i64_w, i32_w]
                    rfl
                  refine pure_ (i := 3) (N := some 17) (v := ?_) (a' := ?_) #[true, true, true, true, false, false, false, false, false, false, false] rfl rfl (any_of HT_.out (by kernel_rfl)) (fun _ _ _ h => h) (Or.inl ⟨by rfl, ?_⟩) ?_ ?_
                  rotate_left
                  · intro w'
                    go_simp
                    with_reducible rfl
                  rotate_left
                  · simp only [Act.put, List.setIfInBounds_toArray, List.set_cons_zero, List.set_cons_succ, i64_w, i32_w]
                    rfl
                  refine pure_ (i := 6) (N := some 20) (v := ?_) (a' := ?_) #[true, true, true, true, false, false, true, false, false, false, false] rfl rfl (any_of HT_.out (by kernel_rfl)) (fun _ _ _ h => h) (Or.inl ⟨by rfl, ?_⟩) ?_ ?_
                  rotate_left
                  · intro w'
                    go_simp
                    with_reducible rfl
                  rotate_left
                  · simp only [Act.put, List.setIfInBounds_toArray, List.set_cons_zero, List.set_cons_succ, i64_w, i32_w]
                    rfl
                  refine take_ (i := 4) (N := some 18) (v := ?_) (a' := ?_) #[true, true, true, true, true, false, true, false, false, false, false] rfl rfl (take_ofW HT_.out HW_.out (by kernel_rfl)) (fun _ _ _ h => h) (Or.inl ⟨by rfl, ?_⟩) hHeld ?_ ?_
                  rotate_left
                  · rintro w' ⟨s0, s1, s2⟩
                    go_simp
                    with_reducible rfl
                  rotate_left
                  · simp only [Act.put, List.setIfInBounds_toArray, List.set_cons_zero, List.set_cons_succ, i64_w, i32_w]
                    rfl
                  refine take_ (i := 7) (N := some 21) (v := ?_) (a' := ?_) #[true, true, true, true, true, false, true, true, false, false, false] rfl rfl (take_ofW HT_.out HW_.out (by kernel_rfl)) (fun _ _ _ h => h) (Or.inl ⟨by rfl, ?_⟩) hHeld ?_ ?_
                  rotate_left
                  · rintro w' ⟨s0, s1, s2⟩
                    go_simp
                    with_reducible rfl
                  rotate_left
                  · simp only [Act.put, List.setIfInBounds_toArray, List.set_cons_zero, List.set_cons_succ, i64_w, i32_w]
                    rfl
                  refine pure_ (i := 8) (N := some 22) (v := ?_) (a' := ?_) #[true, true, true, true, true, false, true, true, true, false, false] rfl rfl (any_of HT_.out (by kernel_rfl)) (fun _ _ _ h => h) (Or.inl ⟨by rfl, ?_⟩) ?_ ?_
                  rotate_left
                  · intro w'
                    go_simp
                    with_reducible rfl
                  rotate_left
                  · simp only [Act.put, List.setIfInBounds_toArray, List.set_cons_zero, List.set_cons_succ, i64_w, i32_w]
                    rfl
                  refine one_ (i := 5) (N := some 19) #[true, true, true, true, true, true, true, true, true, false, false] rfl rfl (one_of HT_.out (by kernel_rfl)) (by decide) (fun K hK => ?_)
                  refine goes_ Try.func108 (by kernel_rfl) rfl #[.agg #[.bool false, .int .i64 ((rd_T71 l0_0 x9_1).f1), .slice A1026_2 ((rd_T71 l0_0 x9_1).f2).length c1026_2]] (by rfl) rfl rfl (by (try simp only [List.map_toArray, List.map_cons, List.map_nil]); first | done | rfl | (simp only [List.length_drop, List.length_take]; rfl)) ?_
                  with_reducible refine (impl_blanks.calls k1 false ((rd_T71 l0_0 x9_1).f1) _ _ ((rd_T71 l0_0 x9_1).f2) t1028 _ ?side1 ?side2 A14.out).mono ?_
                  (case side1 => repeat (first | exact (Kd.C_below HR1026_2.out HB.out) | (with_reducible refine Kd.C_alloc ?_ _) | (with_reducible refine Kd.C_drewN ?_ _) | (with_reducible refine Kd.C_drew ?_)))
                  (case side2 => exact HC1026_2.out)
                  rintro e w22 ⟨rfl, hb⟩
                  refine ⟨_, rfl, ?_⟩
                  have n0_ := Aside0.mk (Kd.R_below (by (with_reducible repeat (first | apply Kd.R_alloc | apply Kd.R_drewN | apply Kd.R_drew)); exact HO_3.out) hb)
                  have n1_ := Aside0.mk (blk_below (g := gb1025) (o := .cells #[.slice (some ad1026) l0_0.length c0_0] 63 (0, 0)) (by (with_reducible repeat (first | refine blk_drewN ?_ _ | refine blk_drew ?_ | refine blk_alloc ?_ _)); exact BK1025.out) hb)
                  have n2_ := Aside0.mk (blk_below (g := gb1027) (o := .cells #[.bool false, .int .i64 ((rd_T71 l0_0 x9_1).f1), .slice A1026_2 ((rd_T71 l0_0 x9_1).f2).length c1026_2] 71 (0, 0)) (by (with_reducible repeat (first | refine blk_drewN ?_ _ | refine blk_drew ?_ | refine blk_alloc ?_ _)); exact BK1027.out) hb)
                  have n3_ := Aside0.mk (below_step (by repeat (first | (with_reducible first | exact HB.out | apply below_alloc | apply pw_below_drewN | apply below_drew1 | refine below_set ?_ GE1025.out | refine below_set ?_ GE1027.out) | exact HB.out)) hb)
                  clear HO_3
                  clear BK1025
                  clear BK1027
                  clear HB
                  have HO_3 := n0_
                  have BK1025 := n1_
                  have BK1027 := n2_
                  have HB := n3_
                  clear n0_ n1_ n2_ n3_
                  (try clear hb)
                  (try clear hb2)
                  (try clear hk)
                  (try clear hi)
                  refine hK.out _ _ ⟨(blk_cell BK1027.out 0).trans rfl, (blk_cell BK1027.out 1).trans rfl, (blk_cell BK1027.out 2).trans rfl⟩ (fun hHeld => ?_)
                  clear hK K
                  refine norm_ (a' := ?_) ?_ ?_
                  rotate_left
                  · show Act.put _ (some 19) _ = _
                    simp only [Act.put, List.setIfInBounds_toArray, List.set_cons_zero, List.set_cons_succ, i64_w, i32_w]
                    rfl
                  refine pure_ (i := 9) (N := some 23) (v := ?_) (a' := ?_) #[true, true, true, true, true, true, true, true, true, true, false] rfl rfl (any_of HT_.out (by kernel_rfl)) (fun _ _ _ h => h) (Or.inl ⟨by rfl, ?_⟩) ?_ ?_
                  rotate_left
                  · intro w'
                    go_simp
                    with_reducible rfl
                  rotate_left
                  · simp only [Act.put, List.setIfInBounds_toArray, List.set_cons_zero, List.set_cons_succ, i64_w, i32_w]
                    rfl
                  refine pure_ (i := 10) (N := some 24) (v := ?_) (a' := ?_) #[true, true, true, true, true, true, true, true, true, true, true] rfl rfl (any_of HT_.out (by kernel_rfl)) (fun _ _ _ h => h) (Or.inl ⟨by rfl, ?_⟩) ?_ ?_
                  rotate_left
                  · intro w'
                    go_simp
                    with_reducible rfl
                  rotate_left
                  · simp only [Act.put, List.setIfInBounds_toArray, List.set_cons_zero, List.set_cons_succ, i64_w, i32_w]
                    rfl
                  refine done_ (done_of HT_.out (by kernel_rfl)) ?_
                  try go_wp2_with (first | ((with_reducible refine gate_builtin (b := .append) (xs := #[.tmp 25, .tmp 27]) rfl ?_); (try (refine gate_guard (by rfl) ?_; dsimp only)); at_builtin; refine Kd.R_append (Kd.int .i64) (w0 := w) w.heap.size rfl (.tmp 25) (.tmp 27) 26 3 (.int .i64 0) 8 rfl Try.underlying26 info3 rfl (by decide) (by omega) u3 x3_1 x9_1 [.int .i64 x9_1] (fun _ => True) (fun _ => False) rfl rfl ?aP (fun _ hk => hk.elim) ?aF ?aO ?aB ?aS ?aL ?_; (case aP => exact rfl); (case aB => exact (by repeat (first | (with_reducible first | exact HB.out | apply below_alloc | apply pw_below_drewN | apply below_drew1 | refine below_set ?_ GE1025.out | refine below_set ?_ GE1027.out) | exact HB.out))); (case aF => exact (fun _ _ => trivial)); (case aO => exact (by (with_reducible repeat (first | apply Kd.R_alloc | apply Kd.R_drewN | apply Kd.R_drew)); exact HO_3.out)); (case aS => exact (below_size (by repeat (first | (with_reducible first | exact HB.out | apply below_alloc | apply pw_below_drewN | apply below_drew1 | refine below_set ?_ GE1025.out | refine below_set ?_ GE1027.out) | exact HB.out)))); (case aL => have := LMc16.out; omega); intro v1030 w23 ho hb hg hat; rw [← Ny1029.out] at ho; have n0_ := Aside0.mk (blk_grown (g := gb1025) (o := .cells #[.slice (some ad1026) l0_0.length c0_0] 63 (0, 0)) (by (with_reducible repeat (first | refine blk_drewN ?_ _ | refine blk_drew ?_ | refine blk_alloc ?_ _)); exact BK1025.out) hg (Kd.R_ne HO_3.out BK1025.out (by decide))); have n1_ := Aside0.mk (blk_grown (g := gb1027) (o := .cells #[.bool false, .int .i64 ((rd_T71 l0_0 x9_1).f1), .slice A1026_2 ((rd_T71 l0_0 x9_1).f2).length c1026_2] 71 (0, 0)) (by (with_reducible repeat (first | refine blk_drewN ?_ _ | refine blk_drew ?_ | refine blk_alloc ?_ _)); exact BK1027.out) hg (Kd.R_ne HO_3.out BK1027.out (by decide))); have n2_ := Aside0.mk (hb); have n3_ := Aside0.mk (ho); clear BK1025; clear BK1027; clear HB; clear HO_3; have BK1025 := n0_; have BK1027 := n1_; have HB := n2_; have HO1031 := n3_; clear n0_ n1_ n2_ n3_; clear ho hb hg hat))
                  go_roundg k1
                  case measure => have := HK1.out; omega
                  case rel => exact ⟨(y1029), (wrap64 (x9_1 + 1)), (by first | rfl | (simp; done) | (simp [*]; done)), H', ⟨by have := HK1.out; omega⟩, ⟨by (with_reducible repeat (first | apply Kd.R_alloc | apply Kd.R_drewN | apply Kd.R_drew)); exact HO1031.out⟩, ⟨by (with_reducible repeat (first | refine blk_drewN ?_ _ | refine blk_drew ?_ | refine blk_alloc ?_ _)); exact BK1025.out⟩, ⟨by repeat (first | (with_reducible first | exact HB.out | apply below_alloc | apply pw_below_drewN | apply below_drew1 | refine below_set ?_ GE1025.out | refine below_set ?_ GE1027.out) | exact HB.out)⟩⟩
                · rw [if_neg c16] at H
                  exact absurd H (by simp)
              · rw [if_neg c15] at H
                have c15b0 : (t1028 == (((rd_T71 l0_0 x9_1).f2).length : Int)) = false := beq_eq_false_iff_ne.mpr c15
                have c15b1 : (t1028 != (((rd_T71 l0_0 x9_1).f2).length : Int)) = true := bne_iff_ne.mpr c15
                have H' := Aside0.mk H
                clear H
                have p1026 : 0 ≤ (x9_1 : Int) := of_decide_eq_true (by first | (with_reducible assumption) | assumption)
                have q1026 : x9_1 < (l0_0.length : Int) := of_decide_eq_true (by first | (with_reducible assumption) | assumption)
                obtain ⟨ad1026, A1026_2, c1026_2, e1026, hx1026_0, hx1026_1, hx1026_2, hl1026_2, hi1026_2⟩ := at_T71 HR0_0.out x9_1 p1026 q1026
                (try rw [← Nbq7.out] at hx1026_0)
                cases e1026
                replace hx1026_0 := (HB.out.cell (World.block_lt_of_cell? w _ hx1026_0)).trans hx1026_0
                replace hx1026_1 := (HB.out.cell (World.block_lt_of_cell? w _ hx1026_1)).trans hx1026_1
                replace hx1026_2 := (HB.out.cell (World.block_lt_of_cell? w _ hx1026_2)).trans hx1026_2
                have HR1026_2 := Aside0.mk hi1026_2
                have HC1026_2 := Aside0.mk hl1026_2
                clear hi1026_2 hl1026_2
                replace p1026 := eq_true p1026
                replace q1026 := eq_true q1026
                try go_wp2_with (first | ((with_reducible refine gate_dst (N := 5) rfl ?_); (try (refine gate_guard (by rfl) ?_; dsimp only)); refine box_event ?hg (N := 5) ?hd (cs := #[.bool false, .int .i64 0, .slice none 0 0]) (t := 71) ?hr ?_; (case hd => rfl); (case hg => rfl); (case hr => first | (go_simp; done) | (go_simp; rfl)); intro gb1027 hg w24 hbox hb; have n0_ := Aside0.mk (Kd.R_below (by (with_reducible repeat (first | apply Kd.R_alloc | apply Kd.R_drewN | apply Kd.R_drew)); exact HO_3.out) hb); have n1_ := Aside0.mk (blk_below (g := gb1025) (o := .cells #[.slice (some ad1026) l0_0.length c0_0] 63 (0, 0)) (by (with_reducible repeat (first | refine blk_drewN ?_ _ | refine blk_drew ?_ | refine blk_alloc ?_ _)); exact BK1025.out) hb); have n2_ := Aside0.mk (below_step (by repeat (first | (with_reducible first | exact HB.out | apply below_alloc | apply pw_below_drewN | apply below_drew1 | refine below_set ?_ GE1025.out) | exact HB.out)) hb); have n3_ := Aside0.mk (hbox); have n4_ := Aside0.mk ((by rw [hg]; exact (below_size (by repeat (first | (with_reducible first | exact HB.out | apply below_alloc | apply pw_below_drewN | apply below_drew1 | refine below_set ?_ GE1025.out) | exact HB.out))) : w.heap.size ≤ gb1027)); have n5_ := Aside0.mk ((by rw [hg]; exact (below_size (by repeat (first | (with_reducible first | exact HB.out | apply below_alloc | apply pw_below_drewN | apply below_drew1 | refine below_set ?_ GE1025.out) | exact HB.out))) : w.heap.size ≤ gb1027)); have n6_ := Aside0.mk ((by rw [hg]; exact Nat.ne_of_lt (blk_lt (g := gb1025) (o := .cells #[.slice (some ad1026) l0_0.length c0_0] 63 (0, 0)) (by (with_reducible repeat (first | refine blk_drewN ?_ _ | refine blk_drew ?_ | refine blk_alloc ?_ _)); exact BK1025.out)) : gb1025 ≠ gb1027)); have n7_ := Aside0.mk ((by rw [hg]; exact Nat.ne_of_gt (blk_lt (g := gb1025) (o := .cells #[.slice (some ad1026) l0_0.length c0_0] 63 (0, 0)) (by (with_reducible repeat (first | refine blk_drewN ?_ _ | refine blk_drew ?_ | refine blk_alloc ?_ _)); exact BK1025.out)) : gb1027 ≠ gb1025)); clear HO_3; clear BK1025; clear HB; have HO_3 := n0_; have BK1025 := n1_; have HB := n2_; have BK1027 := n3_; have GW1027 := n4_; have GE1027 := n5_; have NB1025_1027 := n6_; have NB1027_1025 := n7_; clear n0_ n1_ n2_ n3_ n4_ n5_ n6_ n7_; clear hb hbox hg; have hnb25 := NB1027_1025.out; have hnc25 := NB1025_1027.out; have hcz26_0 : w24.cell? ⟨gb1027, 0, none⟩ = some (.bool false) := (blk_cell BK1027.out 0).trans rfl; have hcz26_1 : w24.cell? ⟨gb1027, 1, none⟩ = some (.int .i64 0) := (blk_cell BK1027.out 1).trans rfl; have hcz26_2 : w24.cell? ⟨gb1027, 2, none⟩ = some (.slice none 0 0) := (blk_cell BK1027.out 2).trans rfl; have hfz26_0 := blk_frozen BK1027.out 0; have hfz26_1 := blk_frozen BK1027.out 1; have hfz26_2 := blk_frozen BK1027.out 2))
                have n0_ : Aside0 (Kd.R (Kd.int .i64) 3 (((w24.setCell ⟨gb1027, 0, none⟩ (.bool false)).setCell ⟨gb1027, 1, none⟩ (.int .i64 ((rd_T71 l0_0 x9_1).f1))).setCell ⟨gb1027, 2, none⟩ (.slice A1026_2 ((rd_T71 l0_0 x9_1).f2).length c1026_2)) w.heap.size (fun _ => True) u3 x3_1) := ⟨by (with_reducible repeat (first | apply Kd.R_alloc | apply Kd.R_drewN | apply Kd.R_drew)); exact Kd.R_mono (Kd.R_far (p := ⟨gb1027, 2, none⟩) (Kd.R_far (p := ⟨gb1027, 1, none⟩) (Kd.R_far (p := ⟨gb1027, 0, none⟩) (Kd.R_types HO_3.out BK1027.out (by decide)) (fun _ hk => hk.2) (.bool false)) (fun _ hk => hk.2) (.int .i64 ((rd_T71 l0_0 x9_1).f1))) (fun _ hk => hk.2) (.slice A1026_2 ((rd_T71 l0_0 x9_1).f2).length c1026_2)) (fun _ hk => trivial)⟩
                have n1_ : Aside0 ((((w24.setCell ⟨gb1027, 0, none⟩ (.bool false)).setCell ⟨gb1027, 1, none⟩ (.int .i64 ((rd_T71 l0_0 x9_1).f1))).setCell ⟨gb1027, 2, none⟩ (.slice A1026_2 ((rd_T71 l0_0 x9_1).f2).length c1026_2)).heap[gb1025]? = some (.cells #[.slice (some ad1026) l0_0.length c0_0] 63 (0, 0))) := ⟨by (with_reducible repeat (first | refine blk_drewN ?_ _ | refine blk_drew ?_ | refine blk_alloc ?_ _)); refine blk_far ?_ NB1025_1027.out _; (with_reducible repeat (first | refine blk_drewN ?_ _ | refine blk_drew ?_ | refine blk_alloc ?_ _)); refine blk_far ?_ NB1025_1027.out _; (with_reducible repeat (first | refine blk_drewN ?_ _ | refine blk_drew ?_ | refine blk_alloc ?_ _)); refine blk_far ?_ NB1025_1027.out _; (with_reducible repeat (first | refine blk_drewN ?_ _ | refine blk_drew ?_ | refine blk_alloc ?_ _)); exact BK1025.out⟩
                have n2_ : Aside0 ((((w24.setCell ⟨gb1027, 0, none⟩ (.bool false)).setCell ⟨gb1027, 1, none⟩ (.int .i64 ((rd_T71 l0_0 x9_1).f1))).setCell ⟨gb1027, 2, none⟩ (.slice A1026_2 ((rd_T71 l0_0 x9_1).f2).length c1026_2)).heap[gb1027]? = some (.cells #[.bool false, .int .i64 ((rd_T71 l0_0 x9_1).f1), .slice A1026_2 ((rd_T71 l0_0 x9_1).f2).length c1026_2] 71 (0, 0))) := ⟨by (with_reducible repeat (first | refine blk_drewN ?_ _ | refine blk_drew ?_ | refine blk_alloc ?_ _)); refine blk_put (cs := #[.bool false, .int .i64 ((rd_T71 l0_0 x9_1).f1), .slice none 0 0]) ?_ 2 _ rfl; (with_reducible repeat (first | refine blk_drewN ?_ _ | refine blk_drew ?_ | refine blk_alloc ?_ _)); refine blk_put (cs := #[.bool false, .int .i64 0, .slice none 0 0]) ?_ 1 _ rfl; (with_reducible repeat (first | refine blk_drewN ?_ _ | refine blk_drew ?_ | refine blk_alloc ?_ _)); refine blk_put (cs := #[.bool false, .int .i64 0, .slice none 0 0]) ?_ 0 _ rfl; (with_reducible repeat (first | refine blk_drewN ?_ _ | refine blk_drew ?_ | refine blk_alloc ?_ _)); exact BK1027.out⟩
                have n3_ : Aside0 (Below w.heap.size w (((w24.setCell ⟨gb1027, 0, none⟩ (.bool false)).setCell ⟨gb1027, 1, none⟩ (.int .i64 ((rd_T71 l0_0 x9_1).f1))).setCell ⟨gb1027, 2, none⟩ (.slice A1026_2 ((rd_T71 l0_0 x9_1).f2).length c1026_2))) := ⟨by repeat (first | (with_reducible first | exact HB.out | apply below_alloc | apply pw_below_drewN | apply below_drew1 | refine below_set ?_ GE1025.out | refine below_set ?_ GE1027.out) | exact HB.out)⟩
                (try clear HO_3)
                (try clear BK1025)
                (try clear BK1027)
                (try clear HB)
                generalize (((w24.setCell ⟨gb1027, 0, none⟩ (.bool false)).setCell ⟨gb1027, 1, none⟩ (.int .i64 ((rd_T71 l0_0 x9_1).f1))).setCell ⟨gb1027, 2, none⟩ (.slice A1026_2 ((rd_T71 l0_0 x9_1).f2).length c1026_2)) = w27 at n0_ n1_ n2_ n3_ ⊢
                have HO_3 := n0_
                have BK1025 := n1_
                have BK1027 := n2_
                have HB := n3_
                clear n0_ n1_ n2_ n3_
                have n0_ := Aside0.mk (Kd.R_drew HO_3.out)
                have n1_ := Aside0.mk (blk_drew BK1025.out)
                have n2_ := Aside0.mk (blk_drew BK1027.out)
                have n3_ := Aside0.mk (below_drew1 HB.out)
                clear HO_3
                clear BK1025
                clear BK1027
                clear HB
                have HO_3 := n0_
                have BK1025 := n1_
                have BK1027 := n2_
                have HB := n3_
                clear n0_ n1_ n2_ n3_
                refine start_ (n := 11) (S := fun w' => w'.cell? ⟨gb1027, 0, none⟩ = some (.bool false) ∧ w'.cell? ⟨gb1027, 1, none⟩ = some (.int .i64 ((rd_T71 l0_0 x9_1).f1)) ∧ w'.cell? ⟨gb1027, 2, none⟩ = some (.slice A1026_2 ((rd_T71 l0_0 x9_1).f2).length c1026_2)) (ds := []) #[false, false, false, false, false, false, false, false, false, false, false] (by kernel_rfl) rfl rfl ⟨(blk_cell BK1027.out 0).trans rfl, (blk_cell BK1027.out 1).trans rfl, (blk_cell BK1027.out 2).trans rfl⟩ (fun hHeld => ?_); refine with_tabW impl_FreeBlocks.tab5 impl_FreeBlocks.bits5 (fun HT_ HW_ => ?_)
                generalize w27.drew = w28 at HO_3 BK1025 BK1027 HB hHeld ⊢
                refine pure_ (i := 0) (N := some 14) (v := ?_) (a' := ?_) #[true, false, false, false, false, false, false, false, false, false, false] rfl rfl (any_of HT_.out (by kernel_rfl)) (fun _ _ _ h => h) (Or.inl ⟨by rfl, ?_⟩) ?_ ?_
                rotate_left
                · intro w'
                  go_simp
                  with_reducible rfl
                rotate_left
                · simp only [Act.put, List.setIfInBounds_toArray, List.set_cons_zero, List.set_cons_succ, i64_w, i32_w]
                  rfl
                refine take_ (i := 1) (N := some 15) (v := ?_) (a' := ?_) #[true, true, false, false, false, false, false, false, false, false, false] rfl rfl (take_ofW HT_.out HW_.out (by kernel_rfl)) (fun _ _ _ h => h) (Or.inl ⟨by rfl, ?_⟩) hHeld ?_ ?_
                rotate_left
                · rintro w' ⟨s0, s1, s2⟩
                  go_simp
                  with_reducible rfl
                rotate_left
                · simp only [Act.put, List.setIfInBounds_toArray, List.set_cons_zero, List.set_cons_succ, i64_w, i32_w]
                  rfl
                refine pure_ (i := 2) (N := some 16) (v := ?_) (a' := ?_) #[true, true, true, false, false, false, false, false, false, false, false] rfl rfl (any_of HT_.out (by kernel_rfl)) (fun _ _ _ h => h) (Or.inl ⟨by rfl, ?_⟩) ?_ ?_
                rotate_left
                · intro w'
                  go_simp
                  with_reducible rfl
                rotate_left
                · simp only [Act.put, List.setIfInBounds_toArray, List.set_cons_zero, List.set_cons_succ, i64_w, i32_w]
                  rfl
                refine pure_ (i := 3) (N := some 17) (v := ?_) (a' := ?_) #[true, true, true, true, false, false, false, false, false, false, false] rfl rfl (any_of HT_.out (by kernel_rfl)) (fun _ _ _ h => h) (Or.inl ⟨by rfl, ?_⟩) ?_ ?_
                rotate_left
                · intro w'
                  go_simp
                  with_reducible rfl
                rotate_left
                · simp only [Act.put, List.setIfInBounds_toArray, List.set_cons_zero, List.set_cons_succ, i64_w, i32_w]
                  rfl
                refine pure_ (i := 6) (N := some 20) (v := ?_) (a' := ?_) #[true, true, true, true, false, false, true, false, false, false, false] rfl rfl (any_of HT_.out (by kernel_rfl)) (fun _ _ _ h => h) (Or.inl ⟨by rfl, ?_⟩) ?_ ?_
                rotate_left
                · intro w'
                  go_simp
                  with_reducible rfl
                rotate_left
                · simp only [Act.put, List.setIfInBounds_toArray, List.set_cons_zero, List.set_cons_succ, i64_w, i32_w]
                  rfl
                refine take_ (i := 4) (N := some 18) (v := ?_) (a' := ?_) #[true, true, true, true, true, false, true, false, false, false, false] rfl rfl (take_ofW HT_.out HW_.out (by kernel_rfl)) (fun _ _ _ h => h) (Or.inl ⟨by rfl, ?_⟩) hHeld ?_ ?_
                rotate_left
                · rintro w' ⟨s0, s1, s2⟩
                  go_simp
                  with_reducible rfl
                rotate_left
                · simp only [Act.put, List.setIfInBounds_toArray, List.set_cons_zero, List.set_cons_succ, i64_w, i32_w]
                  rfl
                refine take_ (i := 7) (N := some 21) (v := ?_) (a' := ?_) #[true, true, true, true, true, false, true, true, false, false, false] rfl rfl (take_ofW HT_.out HW_.out (by kernel_rfl)) (fun _ _ _ h => h) (Or.inl ⟨by rfl, ?_⟩) hHeld ?_ ?_
                rotate_left
                · rintro w' ⟨s0, s1, s2⟩
                  go_simp
                  with_reducible rfl
                rotate_left
                · simp only [Act.put, List.setIfInBounds_toArray, List.set_cons_zero, List.set_cons_succ, i64_w, i32_w]
                  rfl
                refine pure_ (i := 8) (N := some 22) (v := ?_) (a' := ?_) #[true, true, true, true, true, false, true, true, true, false, false] rfl rfl (any_of HT_.out (by kernel_rfl)) (fun _ _ _ h => h) (Or.inl ⟨by rfl, ?_⟩) ?_ ?_
                rotate_left
                · intro w'
                  go_simp
                  with_reducible rfl
                rotate_left
                · simp only [Act.put, List.setIfInBounds_toArray, List.set_cons_zero, List.set_cons_succ, i64_w, i32_w]
                  rfl
                refine one_ (i := 5) (N := some 19) #[true, true, true, true, true, true, true, true, true, false, false] rfl rfl (one_of HT_.out (by kernel_rfl)) (by decide) (fun K hK => ?_)
                refine goes_ Try.func108 (by kernel_rfl) rfl #[.agg #[.bool false, .int .i64 ((rd_T71 l0_0 x9_1).f1), .slice A1026_2 ((rd_T71 l0_0 x9_1).f2).length c1026_2]] (by rfl) rfl rfl (by (try simp only [List.map_toArray, List.map_cons, List.map_nil]); first | done | rfl | (simp only [List.length_drop, List.length_take]; rfl)) ?_
                with_reducible refine (impl_blanks.calls k1 false ((rd_T71 l0_0 x9_1).f1) _ _ ((rd_T71 l0_0 x9_1).f2) t1028 _ ?side1 ?side2 A14.out).mono ?_
                (case side1 => repeat (first | exact (Kd.C_below HR1026_2.out HB.out) | (with_reducible refine Kd.C_alloc ?_ _) | (with_reducible refine Kd.C_drewN ?_ _) | (with_reducible refine Kd.C_drew ?_)))
                (case side2 => exact HC1026_2.out)
                rintro e w29 ⟨rfl, hb⟩
                refine ⟨_, rfl, ?_⟩
                have n0_ := Aside0.mk (Kd.R_below (by (with_reducible repeat (first | apply Kd.R_alloc | apply Kd.R_drewN | apply Kd.R_drew)); exact HO_3.out) hb)
                have n1_ := Aside0.mk (blk_below (g := gb1025) (o := .cells #[.slice (some ad1026) l0_0.length c0_0] 63 (0, 0)) (by (with_reducible repeat (first | refine blk_drewN ?_ _ | refine blk_drew ?_ | refine blk_alloc ?_ _)); exact BK1025.out) hb)
                have n2_ := Aside0.mk (blk_below (g := gb1027) (o := .cells #[.bool false, .int .i64 ((rd_T71 l0_0 x9_1).f1), .slice A1026_2 ((rd_T71 l0_0 x9_1).f2).length c1026_2] 71 (0, 0)) (by (with_reducible repeat (first | refine blk_drewN ?_ _ | refine blk_drew ?_ | refine blk_alloc ?_ _)); exact BK1027.out) hb)
                have n3_ := Aside0.mk (below_step (by repeat (first | (with_reducible first | exact HB.out | apply below_alloc | apply pw_below_drewN | apply below_drew1 | refine below_set ?_ GE1025.out | refine below_set ?_ GE1027.out) | exact HB.out)) hb)
                clear HO_3
                clear BK1025
                clear BK1027
                clear HB
                have HO_3 := n0_
                have BK1025 := n1_
                have BK1027 := n2_
                have HB := n3_
                clear n0_ n1_ n2_ n3_
                (try clear hb)
                (try clear hb2)
                (try clear hk)
                (try clear hi)
                refine hK.out _ _ ⟨(blk_cell BK1027.out 0).trans rfl, (blk_cell BK1027.out 1).trans rfl, (blk_cell BK1027.out 2).trans rfl⟩ (fun hHeld => ?_)
                clear hK K
                refine norm_ (a' := ?_) ?_ ?_
                rotate_left
                · show Act.put _ (some 19) _ = _
                  simp only [Act.put, List.setIfInBounds_toArray, List.set_cons_zero, List.set_cons_succ, i64_w, i32_w]
                  rfl
                refine pure_ (i := 9) (N := some 23) (v := ?_) (a' := ?_) #[true, true, true, true, true, true, true, true, true, true, false] rfl rfl (any_of HT_.out (by kernel_rfl)) (fun _ _ _ h => h) (Or.inl ⟨by rfl, ?_⟩) ?_ ?_
                rotate_left
                · intro w'
                  go_simp
                  with_reducible rfl
                rotate_left
                · simp only [Act.put, List.setIfInBounds_toArray, List.set_cons_zero, List.set_cons_succ, i64_w, i32_w]
                  rfl
                refine pure_ (i := 10) (N := some 24) (v := ?_) (a' := ?_) #[true, true, true, true, true, true, true, true, true, true, true] rfl rfl (any_of HT_.out (by kernel_rfl)) (fun _ _ _ h => h) (Or.inl ⟨by rfl, ?_⟩) ?_ ?_
                rotate_left
                · intro w'
                  go_simp
                  with_reducible rfl
                rotate_left
                · simp only [Act.put, List.setIfInBounds_toArray, List.set_cons_zero, List.set_cons_succ, i64_w, i32_w]
                  rfl
                refine done_ (done_of HT_.out (by kernel_rfl)) ?_
                try go_wp2
                go_roundg k1
                case measure => have := HK1.out; omega
                case rel => exact ⟨(x3_1), (wrap64 (x9_1 + 1)), (by first | rfl | (simp; done) | (simp [*]; done)), H', ⟨by have := HK1.out; omega⟩, ⟨by (with_reducible repeat (first | apply Kd.R_alloc | apply Kd.R_drewN | apply Kd.R_drew)); exact HO_3.out⟩, ⟨by (with_reducible repeat (first | refine blk_drewN ?_ _ | refine blk_drew ?_ | refine blk_alloc ?_ _)); exact BK1025.out⟩, ⟨by repeat (first | (with_reducible first | exact HB.out | apply below_alloc | apply pw_below_drewN | apply below_drew1 | refine below_set ?_ GE1025.out | refine below_set ?_ GE1027.out) | exact HB.out)⟩⟩
          · rw [if_neg c6] at H
            exact absurd H (by simp)
        · rw [if_neg c5] at H
          exact absurd H (by simp)
      · rw [if_neg c4] at H
        have c4b0 : decide (x9_1 < (l0_0.length : Int)) = false := decide_eq_false c4
        clear c4
        obtain rfl := Option.some.inj H
        go_wp2
        go_ret
        exact ⟨_, by first | rfl | (simp [errW_none, errW_some] <;> rfl) | (simp [*, errW_none, errW_some] <;> rfl), by (with_reducible repeat (first | apply Kd.R_alloc | apply Kd.R_drewN | apply Kd.R_drew)); exact HO_3.out, by repeat (first | (with_reducible first | exact HB.out | apply below_alloc | apply pw_below_drewN | apply below_drew1 | refine below_set ?_ GE1025.out) | exact HB.out)⟩

end Go.Proofs.Ytdolplcbokioaaa.PB

/- Functions of the translation as plain Lean functions, and for each that its call comes to just what its Lean function answers; its conditions stand in each theorem. Written by a program of this session. -/
namespace Go.Proofs.Ytdolplcbokioaaa.PB
open Go.RowKit Go.Proofs.YtdolplcbokioaaaW.PrintWords Go.Proofs.YtdolplcbokioaaaW.PrintLast Go.Proofs.YtdolplcbokioaaaW.PrintMore
attribute [local go_sem] max2_int min2_int max_two min_two max_three min_three max_four min_four   -- for this text's walks alone
set_option linter.unusedVariables false
set_option linter.unusedSimpArgs false

/-! ### impl_OpenBlock: function 41 -/
def impl_OpenBlock.l0 : Nat → List (S71) → Int → Int → Option (Int)
  | 0, _, _, _ => none
  | k + 1, x7, x8, x9 => if x9 < x8 then (if 0 ≤ x9 then (if x9 < (x7.length : Int) then ((impl_blanks.f k ((rd_T71 x7 x9).f0) ((rd_T71 x7 x9).f1) ((rd_T71 x7 x9).f2)).bind fun t1035 => (if ((rd_T71 x7 x9).f0 = true) then (impl_OpenBlock.l0 k x7 x8 (wrap64 (x9 + 1))) else (if t1035 > 0 then (if t1035 < (((rd_T71 x7 x9).f2).length : Int) then (some x9) else (impl_OpenBlock.l0 k x7 x8 (wrap64 (x9 + 1)))) else (impl_OpenBlock.l0 k x7 x8 (wrap64 (x9 + 1)))))) else (none)) else (none)) else (some (-1))
def impl_OpenBlock.f (k : Nat) (l0_0 : List (S71)) : Option (Int) := impl_OpenBlock.l0 k l0_0 (l0_0.length : Int) 0
theorem impl_OpenBlock.mono_l : ∀ k, (∀ y0 y1 y2, LeO (impl_OpenBlock.l0 k y0 y1 y2) (impl_OpenBlock.l0 (k + 1) y0 y1 y2))
  | 0 => fun _ _ _ r h => by simp [impl_OpenBlock.l0] at h
  | k + 1 => by
    have ih0 := impl_OpenBlock.mono_l k
    · intro y0 y1 y2
      unfold impl_OpenBlock.l0
      repeat' first
      | (with_reducible exact ih0 _ _ _)
      | (with_reducible exact impl_blanks.mono _ _ _ _)
      | (with_reducible exact LeO.refl _)
      | (with_reducible exact LeO.none _)
      | (with_reducible refine LeO.ite ?_ ?_)
      | (with_reducible refine LeO.bind ?_ (fun _ => ?_))
      | exact ih0 _ _ _
      | exact impl_blanks.mono _ _ _ _
      | exact LeO.none _
      | refine LeO.ite ?_ ?_
      | refine LeO.bind ?_ (fun _ => ?_)
theorem impl_OpenBlock.mono : ∀ a0 k, LeO (impl_OpenBlock.f k a0) (impl_OpenBlock.f (k + 1) a0) := by
  intro a0 k
  have ih0 := impl_OpenBlock.mono_l k
  unfold impl_OpenBlock.f
  repeat' first
      | (with_reducible exact ih0 _ _ _)
      | (with_reducible exact impl_blanks.mono _ _ _ _)
      | (with_reducible exact LeO.refl _)
      | (with_reducible exact LeO.none _)
      | (with_reducible refine LeO.ite ?_ ?_)
      | (with_reducible refine LeO.bind ?_ (fun _ => ?_))
      | exact ih0 _ _ _
      | exact impl_blanks.mono _ _ _ _
      | exact LeO.none _
      | refine LeO.ite ?_ ?_
      | refine LeO.bind ?_ (fun _ => ?_)
set_option maxHeartbeats 8000000 in
set_option maxRecDepth 100000 in
theorem impl_OpenBlock.calls (k : Nat) (A0_0 : Option Addr) (c0_0 : Nat) (l0_0 : List (S71)) (r : Int) (w : World) (hr0_0 : Kd.C k71 w A0_0 l0_0.length l0_0) (hc0_0 : l0_0.length ≤ c0_0) (h : impl_OpenBlock.f k l0_0 = some r) :
    Calls Try.prog 41 #[.agg #[.slice A0_0 l0_0.length c0_0]] w fun e w' => e = .returned (.int .i64 r) ∧ Below w.heap.size w w' := by
  have hu63 := Try.underlying63
  have hu71 := Try.underlying71
  have HR0_0 := Aside0.mk hr0_0
  have HC0_0 := Aside0.mk hc0_0
  clear hr0_0 hc0_0
  have HB := Aside0.mk (Below.refl w.heap.size w)
  have H : (impl_OpenBlock.l0 k l0_0 (l0_0.length : Int) 0) = some r := h
  clear h
  have H' := Aside0.mk H
  clear H
  go_enter Try.func41, Try.ntmps41
  go_wp2_with (first | ((with_reducible refine gate_dst (N := 1) rfl ?_); (try (refine gate_guard (by rfl) ?_; dsimp only)); refine box_event ?hg (N := 1) ?hd (cs := #[.slice A0_0 l0_0.length c0_0]) (t := 63) ?hr ?_; (case hd => rfl); (case hg => rfl); (case hr => first | (go_simp; done) | (go_simp; rfl)); intro gb1032 hg w2 hbox hb; have n0_ := Aside0.mk (below_step (by repeat (first | (with_reducible first | exact HB.out | apply below_alloc | apply pw_below_drewN | apply below_drew1) | exact HB.out)) hb); have n1_ := Aside0.mk (hbox); have n2_ := Aside0.mk ((by rw [hg]; exact (below_size (by repeat (first | (with_reducible first | exact HB.out | apply below_alloc | apply pw_below_drewN | apply below_drew1) | exact HB.out))) : w.heap.size ≤ gb1032)); have n3_ := Aside0.mk ((by rw [hg]; exact (below_size (by repeat (first | (with_reducible first | exact HB.out | apply below_alloc | apply pw_below_drewN | apply below_drew1) | exact HB.out))) : w.heap.size ≤ gb1032)); clear HB; have HB := n0_; have BK1032 := n1_; have GW1032 := n2_; have GE1032 := n3_; clear n0_ n1_ n2_ n3_; clear hb hbox hg; have hcz3_0 : w2.cell? ⟨gb1032, 0, none⟩ = some (.slice A0_0 l0_0.length c0_0) := (blk_cell BK1032.out 0).trans rfl; have hfz3_0 := blk_frozen BK1032.out 0))
  go_loopg [9] k (fun kq v9 w' => ∃ (x9_1 : Int), v9 = .int .i64 x9_1 ∧ Aside0 (impl_OpenBlock.l0 kq l0_0 (l0_0.length : Int) x9_1 = some r) ∧ Aside0 (kq ≤ k) ∧ Aside0 (w'.heap[gb1032]? = some (.cells #[(.slice A0_0 l0_0.length c0_0)] 63 (0, 0))) ∧ Aside0 (Below w.heap.size w w'))
  case atStart => exact ⟨(0), (by first | rfl | (simp; done) | (simp [*]; done)), H', ⟨Nat.le_refl _⟩, ⟨by (with_reducible repeat (first | refine blk_drewN ?_ _ | refine blk_drew ?_ | refine blk_alloc ?_ _)); exact BK1032.out⟩, ⟨by repeat (first | (with_reducible first | exact HB.out | apply below_alloc | apply pw_below_drewN | apply below_drew1 | refine below_set ?_ GE1032.out) | exact HB.out)⟩⟩
  case round =>
    clear H'
    try clear p2
    try clear hcz3_0
    try clear hfz3_0
    obtain ⟨x9_1, rfl, HA, HK1, BK1032, HB⟩ := hrel
    cases gk with
    | zero => exact absurd HA.out (by simp [impl_OpenBlock.l0])
    | succ k1 =>
      have H := HA.out
      clear HA
      simp only [impl_OpenBlock.l0] at H
      by_cases c4 : x9_1 < (l0_0.length : Int)
      · rw [if_pos c4] at H
        have c4b0 : decide (x9_1 < (l0_0.length : Int)) = true := decide_eq_true c4
        clear c4
        by_cases c5 : 0 ≤ x9_1
        · rw [if_pos c5] at H
          have c5b0 : decide (0 ≤ x9_1) = true := decide_eq_true c5
          clear c5
          by_cases c6 : x9_1 < (l0_0.length : Int)
          · rw [if_pos c6] at H
            have c6b0 : decide (x9_1 < (l0_0.length : Int)) = true := decide_eq_true c6
            clear c6
            replace H := Option.bind_eq_some_iff.mp H
            obtain ⟨t1035, A70, H⟩ := H
            replace H : (if ((rd_T71 l0_0 x9_1).f0 = true) then (impl_OpenBlock.l0 k1 l0_0 (l0_0.length : Int) (wrap64 (x9_1 + 1))) else (if t1035 > 0 then (if t1035 < (((rd_T71 l0_0 x9_1).f2).length : Int) then (some x9_1) else (impl_OpenBlock.l0 k1 l0_0 (l0_0.length : Int) (wrap64 (x9_1 + 1)))) else (impl_OpenBlock.l0 k1 l0_0 (l0_0.length : Int) (wrap64 (x9_1 + 1))))) = some r := H
            have A7 := Aside0.mk A70
            clear A70
            obtain ⟨bq8, hbq8⟩ : ∃ b_ : Bool, b_ = ((rd_T71 l0_0 x9_1).f0) := ⟨_, rfl⟩
            replace H : (if (bq8 = true) then (impl_OpenBlock.l0 k1 l0_0 (l0_0.length : Int) (wrap64 (x9_1 + 1))) else (if t1035 > 0 then (if t1035 < (((rd_T71 l0_0 x9_1).f2).length : Int) then (some x9_1) else (impl_OpenBlock.l0 k1 l0_0 (l0_0.length : Int) (wrap64 (x9_1 + 1)))) else (impl_OpenBlock.l0 k1 l0_0 (l0_0.length : Int) (wrap64 (x9_1 + 1))))) = some r := by rw [← hbq8] at H; exact H
            have Nbq8 := Aside0.mk hbq8
            clear hbq8
            (try rw [← Nbq8.out] at A7)
            by_cases c9 : (bq8 = true)
            · subst c9
              have H1 : (impl_OpenBlock.l0 k1 l0_0 (l0_0.length : Int) (wrap64 (x9_1 + 1))) = some r := by rw [if_pos rfl] at H; exact H
              clear H
              have H := H1
              clear H1
              have H' := Aside0.mk H
              clear H
              have p1033 : 0 ≤ (x9_1 : Int) := of_decide_eq_true (by first | (with_reducible assumption) | assumption)
              have q1033 : x9_1 < (l0_0.length : Int) := of_decide_eq_true (by first | (with_reducible assumption) | assumption)
              obtain ⟨ad1033, A1033_2, c1033_2, e1033, hx1033_0, hx1033_1, hx1033_2, hl1033_2, hi1033_2⟩ := at_T71 HR0_0.out x9_1 p1033 q1033
              (try rw [← Nbq8.out] at hx1033_0)
              cases e1033
              replace hx1033_0 := (HB.out.cell (World.block_lt_of_cell? w _ hx1033_0)).trans hx1033_0
              replace hx1033_1 := (HB.out.cell (World.block_lt_of_cell? w _ hx1033_1)).trans hx1033_1
              replace hx1033_2 := (HB.out.cell (World.block_lt_of_cell? w _ hx1033_2)).trans hx1033_2
              have HR1033_2 := Aside0.mk hi1033_2
              have HC1033_2 := Aside0.mk hl1033_2
              clear hi1033_2 hl1033_2
              replace p1033 := eq_true p1033
              replace q1033 := eq_true q1033
              go_wp2_with (first | ((with_reducible refine gate_dst (N := 4) rfl ?_); (try (refine gate_guard (by rfl) ?_; dsimp only)); refine box_event ?hg (N := 4) ?hd (cs := #[.bool false, .int .i64 0, .slice none 0 0]) (t := 71) ?hr ?_; (case hd => rfl); (case hg => rfl); (case hr => first | (go_simp; done) | (go_simp; rfl)); intro gb1034 hg w10 hbox hb; have n0_ := Aside0.mk (blk_below (g := gb1032) (o := .cells #[.slice (some ad1033) l0_0.length c0_0] 63 (0, 0)) (by (with_reducible repeat (first | refine blk_drewN ?_ _ | refine blk_drew ?_ | refine blk_alloc ?_ _)); exact BK1032.out) hb); have n1_ := Aside0.mk (below_step (by repeat (first | (with_reducible first | exact HB.out | apply below_alloc | apply pw_below_drewN | apply below_drew1 | refine below_set ?_ GE1032.out) | exact HB.out)) hb); have n2_ := Aside0.mk (hbox); have n3_ := Aside0.mk ((by rw [hg]; exact (below_size (by repeat (first | (with_reducible first | exact HB.out | apply below_alloc | apply pw_below_drewN | apply below_drew1 | refine below_set ?_ GE1032.out) | exact HB.out))) : w.heap.size ≤ gb1034)); have n4_ := Aside0.mk ((by rw [hg]; exact (below_size (by repeat (first | (with_reducible first | exact HB.out | apply below_alloc | apply pw_below_drewN | apply below_drew1 | refine below_set ?_ GE1032.out) | exact HB.out))) : w.heap.size ≤ gb1034)); have n5_ := Aside0.mk ((by rw [hg]; exact Nat.ne_of_lt (blk_lt (g := gb1032) (o := .cells #[.slice (some ad1033) l0_0.length c0_0] 63 (0, 0)) (by (with_reducible repeat (first | refine blk_drewN ?_ _ | refine blk_drew ?_ | refine blk_alloc ?_ _)); exact BK1032.out)) : gb1032 ≠ gb1034)); have n6_ := Aside0.mk ((by rw [hg]; exact Nat.ne_of_gt (blk_lt (g := gb1032) (o := .cells #[.slice (some ad1033) l0_0.length c0_0] 63 (0, 0)) (by (with_reducible repeat (first | refine blk_drewN ?_ _ | refine blk_drew ?_ | refine blk_alloc ?_ _)); exact BK1032.out)) : gb1034 ≠ gb1032)); clear BK1032; clear HB; have BK1032 := n0_; have HB := n1_; have BK1034 := n2_; have GW1034 := n3_; have GE1034 := n4_; have NB1032_1034 := n5_; have NB1034_1032 := n6_; clear n0_ n1_ n2_ n3_ n4_ n5_ n6_; clear hb hbox hg; have hnb11 := NB1034_1032.out; have hnc11 := NB1032_1034.out; have hcz12_0 : w10.cell? ⟨gb1034, 0, none⟩ = some (.bool false) := (blk_cell BK1034.out 0).trans rfl; have hcz12_1 : w10.cell? ⟨gb1034, 1, none⟩ = some (.int .i64 0) := (blk_cell BK1034.out 1).trans rfl; have hcz12_2 : w10.cell? ⟨gb1034, 2, none⟩ = some (.slice none 0 0) := (blk_cell BK1034.out 2).trans rfl; have hfz12_0 := blk_frozen BK1034.out 0; have hfz12_1 := blk_frozen BK1034.out 1; have hfz12_2 := blk_frozen BK1034.out 2) | ((with_reducible refine gate_callee (f := 108) rfl ?_); refine goesL_ (some 15) rfl rfl Try.func108 (by kernel_rfl) rfl #[.agg #[.bool true, .int .i64 ((rd_T71 l0_0 x9_1).f1), .slice A1033_2 ((rd_T71 l0_0 x9_1).f2).length c1033_2]] rfl (by (try simp only [List.map_toArray, List.map_cons, List.map_nil]); first | done | rfl | (simp only [List.length_drop, List.length_take]; rfl)) ?_; (with_reducible refine (impl_blanks.calls k1 true ((rd_T71 l0_0 x9_1).f1) _ _ ((rd_T71 l0_0 x9_1).f2) t1035 _ ?side1 ?side2 A7.out).mono ?_); (case side1 => exact Kd.C_below HR1033_2.out (by repeat (first | (with_reducible first | exact HB.out | apply below_alloc | apply pw_below_drewN | apply below_drew1 | refine below_set ?_ GE1032.out | refine below_set ?_ GE1034.out) | exact HB.out))); (case side2 => exact HC1033_2.out); rintro e w13 ⟨rfl, hb⟩; refine ⟨_, rfl, ?_⟩; have n0_ := Aside0.mk (blk_below (g := gb1032) (o := .cells #[.slice (some ad1033) l0_0.length c0_0] 63 (0, 0)) (by (with_reducible repeat (first | refine blk_drewN ?_ _ | refine blk_drew ?_ | refine blk_alloc ?_ _)); refine blk_far ?_ NB1032_1034.out _; (with_reducible repeat (first | refine blk_drewN ?_ _ | refine blk_drew ?_ | refine blk_alloc ?_ _)); refine blk_far ?_ NB1032_1034.out _; (with_reducible repeat (first | refine blk_drewN ?_ _ | refine blk_drew ?_ | refine blk_alloc ?_ _)); refine blk_far ?_ NB1032_1034.out _; (with_reducible repeat (first | refine blk_drewN ?_ _ | refine blk_drew ?_ | refine blk_alloc ?_ _)); exact BK1032.out) hb); have n1_ := Aside0.mk (blk_below (g := gb1034) (o := .cells #[.bool true, .int .i64 ((rd_T71 l0_0 x9_1).f1), .slice A1033_2 ((rd_T71 l0_0 x9_1).f2).length c1033_2] 71 (0, 0)) (by (with_reducible repeat (first | refine blk_drewN ?_ _ | refine blk_drew ?_ | refine blk_alloc ?_ _)); refine blk_put (cs := #[.bool true, .int .i64 ((rd_T71 l0_0 x9_1).f1), .slice none 0 0]) ?_ 2 _ rfl; (with_reducible repeat (first | refine blk_drewN ?_ _ | refine blk_drew ?_ | refine blk_alloc ?_ _)); refine blk_put (cs := #[.bool true, .int .i64 0, .slice none 0 0]) ?_ 1 _ rfl; (with_reducible repeat (first | refine blk_drewN ?_ _ | refine blk_drew ?_ | refine blk_alloc ?_ _)); refine blk_put (cs := #[.bool false, .int .i64 0, .slice none 0 0]) ?_ 0 _ rfl; (with_reducible repeat (first | refine blk_drewN ?_ _ | refine blk_drew ?_ | refine blk_alloc ?_ _)); exact BK1034.out) hb); have n2_ := Aside0.mk (below_step (by repeat (first | (with_reducible first | exact HB.out | apply below_alloc | apply pw_below_drewN | apply below_drew1 | refine below_set ?_ GE1032.out | refine below_set ?_ GE1034.out) | exact HB.out)) hb); clear BK1032; clear BK1034; clear HB; have BK1032 := n0_; have BK1034 := n1_; have HB := n2_; clear n0_ n1_ n2_; (try clear hb); (try clear hb2); (try clear hk); (try clear hi); have hcz14_0 : w13.cell? ⟨gb1034, 0, none⟩ = some (.bool true) := (blk_cell BK1034.out 0).trans rfl; have hcz14_1 : w13.cell? ⟨gb1034, 1, none⟩ = some (.int .i64 ((rd_T71 l0_0 x9_1).f1)) := (blk_cell BK1034.out 1).trans rfl; have hcz14_2 : w13.cell? ⟨gb1034, 2, none⟩ = some (.slice A1033_2 ((rd_T71 l0_0 x9_1).f2).length c1033_2) := (blk_cell BK1034.out 2).trans rfl; have hfz14_0 := blk_frozen BK1034.out 0; have hfz14_1 := blk_frozen BK1034.out 1; have hfz14_2 := blk_frozen BK1034.out 2))
              go_roundg k1
              case measure => have := HK1.out; omega
              case rel => exact ⟨(wrap64 (x9_1 + 1)), (by first | rfl | (simp; done) | (simp [*]; done)), H', ⟨by have := HK1.out; omega⟩, ⟨by (with_reducible repeat (first | refine blk_drewN ?_ _ | refine blk_drew ?_ | refine blk_alloc ?_ _)); exact BK1032.out⟩, ⟨by repeat (first | (with_reducible first | exact HB.out | apply below_alloc | apply pw_below_drewN | apply below_drew1 | refine below_set ?_ GE1032.out | refine below_set ?_ GE1034.out) | exact HB.out)⟩⟩
            · replace c9 := Bool.eq_false_iff.mpr c9
              subst c9
              have H1 : (if t1035 > 0 then (if t1035 < (((rd_T71 l0_0 x9_1).f2).length : Int) then (some x9_1) else (impl_OpenBlock.l0 k1 l0_0 (l0_0.length : Int) (wrap64 (x9_1 + 1)))) else (impl_OpenBlock.l0 k1 l0_0 (l0_0.length : Int) (wrap64 (x9_1 + 1)))) = some r := by rw [if_neg (show ¬ (false = true) by decide)] at H; exact H
              clear H
              have H := H1
              clear H1
              by_cases c15 : t1035 > 0
              · rw [if_pos c15] at H
                have c15b0 : decide (0 < t1035) = true := decide_eq_true c15
                clear c15
                by_cases c16 : t1035 < (((rd_T71 l0_0 x9_1).f2).length : Int)
                · rw [if_pos c16] at H
                  have c16b0 : decide (t1035 < (((rd_T71 l0_0 x9_1).f2).length : Int)) = true := decide_eq_true c16
                  clear c16
                  obtain rfl := Option.some.inj H
                  have p1033 : 0 ≤ (x9_1 : Int) := of_decide_eq_true (by first | (with_reducible assumption) | assumption)
                  have q1033 : x9_1 < (l0_0.length : Int) := of_decide_eq_true (by first | (with_reducible assumption) | assumption)
                  obtain ⟨ad1033, A1033_2, c1033_2, e1033, hx1033_0, hx1033_1, hx1033_2, hl1033_2, hi1033_2⟩ := at_T71 HR0_0.out x9_1 p1033 q1033
                  (try rw [← Nbq8.out] at hx1033_0)
                  cases e1033
                  replace hx1033_0 := (HB.out.cell (World.block_lt_of_cell? w _ hx1033_0)).trans hx1033_0
                  replace hx1033_1 := (HB.out.cell (World.block_lt_of_cell? w _ hx1033_1)).trans hx1033_1
                  replace hx1033_2 := (HB.out.cell (World.block_lt_of_cell? w _ hx1033_2)).trans hx1033_2
                  have HR1033_2 := Aside0.mk hi1033_2
                  have HC1033_2 := Aside0.mk hl1033_2
                  clear hi1033_2 hl1033_2
                  replace p1033 := eq_true p1033
                  replace q1033 := eq_true q1033
                  go_wp2_with (first | ((with_reducible refine gate_dst (N := 4) rfl ?_); (try (refine gate_guard (by rfl) ?_; dsimp only)); refine box_event ?hg (N := 4) ?hd (cs := #[.bool false, .int .i64 0, .slice none 0 0]) (t := 71) ?hr ?_; (case hd => rfl); (case hg => rfl); (case hr => first | (go_simp; done) | (go_simp; rfl)); intro gb1034 hg w17 hbox hb; have n0_ := Aside0.mk (blk_below (g := gb1032) (o := .cells #[.slice (some ad1033) l0_0.length c0_0] 63 (0, 0)) (by (with_reducible repeat (first | refine blk_drewN ?_ _ | refine blk_drew ?_ | refine blk_alloc ?_ _)); exact BK1032.out) hb); have n1_ := Aside0.mk (below_step (by repeat (first | (with_reducible first | exact HB.out | apply below_alloc | apply pw_below_drewN | apply below_drew1 | refine below_set ?_ GE1032.out) | exact HB.out)) hb); have n2_ := Aside0.mk (hbox); have n3_ := Aside0.mk ((by rw [hg]; exact (below_size (by repeat (first | (with_reducible first | exact HB.out | apply below_alloc | apply pw_below_drewN | apply below_drew1 | refine below_set ?_ GE1032.out) | exact HB.out))) : w.heap.size ≤ gb1034)); have n4_ := Aside0.mk ((by rw [hg]; exact (below_size (by repeat (first | (with_reducible first | exact HB.out | apply below_alloc | apply pw_below_drewN | apply below_drew1 | refine below_set ?_ GE1032.out) | exact HB.out))) : w.heap.size ≤ gb1034)); have n5_ := Aside0.mk ((by rw [hg]; exact Nat.ne_of_lt (blk_lt (g := gb1032) (o := .cells #[.slice (some ad1033) l0_0.length c0_0] 63 (0, 0)) (by (with_reducible repeat (first | refine blk_drewN ?_ _ | refine blk_drew ?_ | refine blk_alloc ?_ _)); exact BK1032.out)) : gb1032 ≠ gb1034)); have n6_ := Aside0.mk ((by rw [hg]; exact Nat.ne_of_gt (blk_lt (g := gb1032) (o := .cells #[.slice (some ad1033) l0_0.length c0_0] 63 (0, 0)) (by (with_reducible repeat (first | refine blk_drewN ?_ _ | refine blk_drew ?_ | refine blk_alloc ?_ _)); exact BK1032.out)) : gb1034 ≠ gb1032)); clear BK1032; clear HB; have BK1032 := n0_; have HB := n1_; have BK1034 := n2_; have GW1034 := n3_; have GE1034 := n4_; have NB1032_1034 := n5_; have NB1034_1032 := n6_; clear n0_ n1_ n2_ n3_ n4_ n5_ n6_; clear hb hbox hg; have hnb18 := NB1034_1032.out; have hnc18 := NB1032_1034.out; have hcz19_0 : w17.cell? ⟨gb1034, 0, none⟩ = some (.bool false) := (blk_cell BK1034.out 0).trans rfl; have hcz19_1 : w17.cell? ⟨gb1034, 1, none⟩ = some (.int .i64 0) := (blk_cell BK1034.out 1).trans rfl; have hcz19_2 : w17.cell? ⟨gb1034, 2, none⟩ = some (.slice none 0 0) := (blk_cell BK1034.out 2).trans rfl; have hfz19_0 := blk_frozen BK1034.out 0; have hfz19_1 := blk_frozen BK1034.out 1; have hfz19_2 := blk_frozen BK1034.out 2) | ((with_reducible refine gate_callee (f := 108) rfl ?_); refine goesL_ (some 15) rfl rfl Try.func108 (by kernel_rfl) rfl #[.agg #[.bool false, .int .i64 ((rd_T71 l0_0 x9_1).f1), .slice A1033_2 ((rd_T71 l0_0 x9_1).f2).length c1033_2]] rfl (by (try simp only [List.map_toArray, List.map_cons, List.map_nil]); first | done | rfl | (simp only [List.length_drop, List.length_take]; rfl)) ?_; (with_reducible refine (impl_blanks.calls k1 false ((rd_T71 l0_0 x9_1).f1) _ _ ((rd_T71 l0_0 x9_1).f2) t1035 _ ?side1 ?side2 A7.out).mono ?_); (case side1 => exact Kd.C_below HR1033_2.out (by repeat (first | (with_reducible first | exact HB.out | apply below_alloc | apply pw_below_drewN | apply below_drew1 | refine below_set ?_ GE1032.out | refine below_set ?_ GE1034.out) | exact HB.out))); (case side2 => exact HC1033_2.out); rintro e w20 ⟨rfl, hb⟩; refine ⟨_, rfl, ?_⟩; have n0_ := Aside0.mk (blk_below (g := gb1032) (o := .cells #[.slice (some ad1033) l0_0.length c0_0] 63 (0, 0)) (by (with_reducible repeat (first | refine blk_drewN ?_ _ | refine blk_drew ?_ | refine blk_alloc ?_ _)); refine blk_far ?_ NB1032_1034.out _; (with_reducible repeat (first | refine blk_drewN ?_ _ | refine blk_drew ?_ | refine blk_alloc ?_ _)); refine blk_far ?_ NB1032_1034.out _; (with_reducible repeat (first | refine blk_drewN ?_ _ | refine blk_drew ?_ | refine blk_alloc ?_ _)); refine blk_far ?_ NB1032_1034.out _; (with_reducible repeat (first | refine blk_drewN ?_ _ | refine blk_drew ?_ | refine blk_alloc ?_ _)); exact BK1032.out) hb); have n1_ := Aside0.mk (blk_below (g := gb1034) (o := .cells #[.bool false, .int .i64 ((rd_T71 l0_0 x9_1).f1), .slice A1033_2 ((rd_T71 l0_0 x9_1).f2).length c1033_2] 71 (0, 0)) (by (with_reducible repeat (first | refine blk_drewN ?_ _ | refine blk_drew ?_ | refine blk_alloc ?_ _)); refine blk_put (cs := #[.bool false, .int .i64 ((rd_T71 l0_0 x9_1).f1), .slice none 0 0]) ?_ 2 _ rfl; (with_reducible repeat (first | refine blk_drewN ?_ _ | refine blk_drew ?_ | refine blk_alloc ?_ _)); refine blk_put (cs := #[.bool false, .int .i64 0, .slice none 0 0]) ?_ 1 _ rfl; (with_reducible repeat (first | refine blk_drewN ?_ _ | refine blk_drew ?_ | refine blk_alloc ?_ _)); refine blk_put (cs := #[.bool false, .int .i64 0, .slice none 0 0]) ?_ 0 _ rfl; (with_reducible repeat (first | refine blk_drewN ?_ _ | refine blk_drew ?_ | refine blk_alloc ?_ _)); exact BK1034.out) hb); have n2_ := Aside0.mk (below_step (by repeat (first | (with_reducible first | exact HB.out | apply below_alloc | apply pw_below_drewN | apply below_drew1 | refine below_set ?_ GE1032.out | refine below_set ?_ GE1034.out) | exact HB.out)) hb); clear BK1032; clear BK1034; clear HB; have BK1032 := n0_; have BK1034 := n1_; have HB := n2_; clear n0_ n1_ n2_; (try clear hb); (try clear hb2); (try clear hk); (try clear hi); have hcz21_0 : w20.cell? ⟨gb1034, 0, none⟩ = some (.bool false) := (blk_cell BK1034.out 0).trans rfl; have hcz21_1 : w20.cell? ⟨gb1034, 1, none⟩ = some (.int .i64 ((rd_T71 l0_0 x9_1).f1)) := (blk_cell BK1034.out 1).trans rfl; have hcz21_2 : w20.cell? ⟨gb1034, 2, none⟩ = some (.slice A1033_2 ((rd_T71 l0_0 x9_1).f2).length c1033_2) := (blk_cell BK1034.out 2).trans rfl; have hfz21_0 := blk_frozen BK1034.out 0; have hfz21_1 := blk_frozen BK1034.out 1; have hfz21_2 := blk_frozen BK1034.out 2))
                  go_ret
                  exact ⟨by first | rfl | (simp [errW_none, errW_some] <;> rfl) | (simp [*, errW_none, errW_some] <;> rfl), by repeat (first | (with_reducible first | exact HB.out | apply below_alloc | apply pw_below_drewN | apply below_drew1 | refine below_set ?_ GE1032.out | refine below_set ?_ GE1034.out) | exact HB.out)⟩
                · rw [if_neg c16] at H
                  have c16b0 : decide (t1035 < (((rd_T71 l0_0 x9_1).f2).length : Int)) = false := decide_eq_false c16
                  clear c16
                  have H' := Aside0.mk H
                  clear H
                  have p1033 : 0 ≤ (x9_1 : Int) := of_decide_eq_true (by first | (with_reducible assumption) | assumption)
                  have q1033 : x9_1 < (l0_0.length : Int) := of_decide_eq_true (by first | (with_reducible assumption) | assumption)
                  obtain ⟨ad1033, A1033_2, c1033_2, e1033, hx1033_0, hx1033_1, hx1033_2, hl1033_2, hi1033_2⟩ := at_T71 HR0_0.out x9_1 p1033 q1033
                  (try rw [← Nbq8.out] at hx1033_0)
                  cases e1033
                  replace hx1033_0 := (HB.out.cell (World.block_lt_of_cell? w _ hx1033_0)).trans hx1033_0
                  replace hx1033_1 := (HB.out.cell (World.block_lt_of_cell? w _ hx1033_1)).trans hx1033_1
                  replace hx1033_2 := (HB.out.cell (World.block_lt_of_cell? w _ hx1033_2)).trans hx1033_2
                  have HR1033_2 := Aside0.mk hi1033_2
                  have HC1033_2 := Aside0.mk hl1033_2
                  clear hi1033_2 hl1033_2
                  replace p1033 := eq_true p1033
                  replace q1033 := eq_true q1033
                  go_wp2_with (first | ((with_reducible refine gate_dst (N := 4) rfl ?_); (try (refine gate_guard (by rfl) ?_; dsimp only)); refine box_event ?hg (N := 4) ?hd (cs := #[.bool false, .int .i64 0, .slice none 0 0]) (t := 71) ?hr ?_; (case hd => rfl); (case hg => rfl); (case hr => first | (go_simp; done) | (go_simp; rfl)); intro gb1034 hg w22 hbox hb; have n0_ := Aside0.mk (blk_below (g := gb1032) (o := .cells #[.slice (some ad1033) l0_0.length c0_0] 63 (0, 0)) (by (with_reducible repeat (first | refine blk_drewN ?_ _ | refine blk_drew ?_ | refine blk_alloc ?_ _)); exact BK1032.out) hb); have n1_ := Aside0.mk (below_step (by repeat (first | (with_reducible first | exact HB.out | apply below_alloc | apply pw_below_drewN | apply below_drew1 | refine below_set ?_ GE1032.out) | exact HB.out)) hb); have n2_ := Aside0.mk (hbox); have n3_ := Aside0.mk ((by rw [hg]; exact (below_size (by repeat (first | (with_reducible first | exact HB.out | apply below_alloc | apply pw_below_drewN | apply below_drew1 | refine below_set ?_ GE1032.out) | exact HB.out))) : w.heap.size ≤ gb1034)); have n4_ := Aside0.mk ((by rw [hg]; exact (below_size (by repeat (first | (with_reducible first | exact HB.out | apply below_alloc | apply pw_below_drewN | apply below_drew1 | refine below_set ?_ GE1032.out) | exact HB.out))) : w.heap.size ≤ gb1034)); have n5_ := Aside0.mk ((by rw [hg]; exact Nat.ne_of_lt (blk_lt (g := gb1032) (o := .cells #[.slice (some ad1033) l0_0.length c0_0] 63 (0, 0)) (by (with_reducible repeat (first | refine blk_drewN ?_ _ | refine blk_drew ?_ | refine blk_alloc ?_ _)); exact BK1032.out)) : gb1032 ≠ gb1034)); have n6_ := Aside0.mk ((by rw [hg]; exact Nat.ne_of_gt (blk_lt (g := gb1032) (o := .cells #[.slice (some ad1033) l0_0.length c0_0] 63 (0, 0)) (by (with_reducible repeat (first | refine blk_drewN ?_ _ | refine blk_drew ?_ | refine blk_alloc ?_ _)); exact BK1032.out)) : gb1034 ≠ gb1032)); clear BK1032; clear HB; have BK1032 := n0_; have HB := n1_; have BK1034 := n2_; have GW1034 := n3_; have GE1034 := n4_; have NB1032_1034 := n5_; have NB1034_1032 := n6_; clear n0_ n1_ n2_ n3_ n4_ n5_ n6_; clear hb hbox hg; have hnb23 := NB1034_1032.out; have hnc23 := NB1032_1034.out; have hcz24_0 : w22.cell? ⟨gb1034, 0, none⟩ = some (.bool false) := (blk_cell BK1034.out 0).trans rfl; have hcz24_1 : w22.cell? ⟨gb1034, 1, none⟩ = some (.int .i64 0) := (blk_cell BK1034.out 1).trans rfl; have hcz24_2 : w22.cell? ⟨gb1034, 2, none⟩ = some (.slice none 0 0) := (blk_cell BK1034.out 2).trans rfl; have hfz24_0 := blk_frozen BK1034.out 0; have hfz24_1 := blk_frozen BK1034.out 1; have hfz24_2 := blk_frozen BK1034.out 2) | ((with_reducible refine gate_callee (f := 108) rfl ?_); refine goesL_ (some 15) rfl rfl Try.func108 (by kernel_rfl) rfl #[.agg #[.bool false, .int .i64 ((rd_T71 l0_0 x9_1).f1), .slice A1033_2 ((rd_T71 l0_0 x9_1).f2).length c1033_2]] rfl (by (try simp only [List.map_toArray, List.map_cons, List.map_nil]); first | done | rfl | (simp only [List.length_drop, List.length_take]; rfl)) ?_; (with_reducible refine (impl_blanks.calls k1 false ((rd_T71 l0_0 x9_1).f1) _ _ ((rd_T71 l0_0 x9_1).f2) t1035 _ ?side1 ?side2 A7.out).mono ?_); (case side1 => exact Kd.C_below HR1033_2.out (by repeat (first | (with_reducible first | exact HB.out | apply below_alloc | apply pw_below_drewN | apply below_drew1 | refine below_set ?_ GE1032.out | refine below_set ?_ GE1034.out) | exact HB.out))); (case side2 => exact HC1033_2.out); rintro e w25 ⟨rfl, hb⟩; refine ⟨_, rfl, ?_⟩; have n0_ := Aside0.mk (blk_below (g := gb1032) (o := .cells #[.slice (some ad1033) l0_0.length c0_0] 63 (0, 0)) (by (with_reducible repeat (first | refine blk_drewN ?_ _ | refine blk_drew ?_ | refine blk_alloc ?_ _)); refine blk_far ?_ NB1032_1034.out _; (with_reducible repeat (first | refine blk_drewN ?_ _ | refine blk_drew ?_ | refine blk_alloc ?_ _)); refine blk_far ?_ NB1032_1034.out _; (with_reducible repeat (first | refine blk_drewN ?_ _ | refine blk_drew ?_ | refine blk_alloc ?_ _)); refine blk_far ?_ NB1032_1034.out _; (with_reducible repeat (first | refine blk_drewN ?_ _ | refine blk_drew ?_ | refine blk_alloc ?_ _)); exact BK1032.out) hb); have n1_ := Aside0.mk (blk_below (g := gb1034) (o := .cells #[.bool false, .int .i64 ((rd_T71 l0_0 x9_1).f1), .slice A1033_2 ((rd_T71 l0_0 x9_1).f2).length c1033_2] 71 (0, 0)) (by (with_reducible repeat (first | refine blk_drewN ?_ _ | refine blk_drew ?_ | refine blk_alloc ?_ _)); refine blk_put (cs := #[.bool false, .int .i64 ((rd_T71 l0_0 x9_1).f1), .slice none 0 0]) ?_ 2 _ rfl; (with_reducible repeat (first | refine blk_drewN ?_ _ | refine blk_drew ?_ | refine blk_alloc ?_ _)); refine blk_put (cs := #[.bool false, .int .i64 0, .slice none 0 0]) ?_ 1 _ rfl; (with_reducible repeat (first | refine blk_drewN ?_ _ | refine blk_drew ?_ | refine blk_alloc ?_ _)); refine blk_put (cs := #[.bool false, .int .i64 0, .slice none 0 0]) ?_ 0 _ rfl; (with_reducible repeat (first | refine blk_drewN ?_ _ | refine blk_drew ?_ | refine blk_alloc ?_ _)); exact BK1034.out) hb); have n2_ := Aside0.mk (below_step (by repeat (first | (with_reducible first | exact HB.out | apply below_alloc | apply pw_below_drewN | apply below_drew1 | refine below_set ?_ GE1032.out | refine below_set ?_ GE1034.out) | exact HB.out)) hb); clear BK1032; clear BK1034; clear HB; have BK1032 := n0_; have BK1034 := n1_; have HB := n2_; clear n0_ n1_ n2_; (try clear hb); (try clear hb2); (try clear hk); (try clear hi); have hcz26_0 : w25.cell? ⟨gb1034, 0, none⟩ = some (.bool false) := (blk_cell BK1034.out 0).trans rfl; have hcz26_1 : w25.cell? ⟨gb1034, 1, none⟩ = some (.int .i64 ((rd_T71 l0_0 x9_1).f1)) := (blk_cell BK1034.out 1).trans rfl; have hcz26_2 : w25.cell? ⟨gb1034, 2, none⟩ = some (.slice A1033_2 ((rd_T71 l0_0 x9_1).f2).length c1033_2) := (blk_cell BK1034.out 2).trans rfl; have hfz26_0 := blk_frozen BK1034.out 0; have hfz26_1 := blk_frozen BK1034.out 1; have hfz26_2 := blk_frozen BK1034.out 2))
                  go_roundg k1
                  case measure => have := HK1.out; omega
                  case rel => exact ⟨(wrap64 (x9_1 + 1)), (by first | rfl | (simp; done) | (simp [*]; done)), H', ⟨by have := HK1.out; omega⟩, ⟨by (with_reducible repeat (first | refine blk_drewN ?_ _ | refine blk_drew ?_ | refine blk_alloc ?_ _)); exact BK1032.out⟩, ⟨by repeat (first | (with_reducible first | exact HB.out | apply below_alloc | apply pw_below_drewN | apply below_drew1 | refine below_set ?_ GE1032.out | refine below_set ?_ GE1034.out) | exact HB.out)⟩⟩
              · rw [if_neg c15] at H
                have c15b0 : decide (0 < t1035) = false := decide_eq_false c15
                clear c15
                have H' := Aside0.mk H
                clear H
                have p1033 : 0 ≤ (x9_1 : Int) := of_decide_eq_true (by first | (with_reducible assumption) | assumption)
                have q1033 : x9_1 < (l0_0.length : Int) := of_decide_eq_true (by first | (with_reducible assumption) | assumption)
                obtain ⟨ad1033, A1033_2, c1033_2, e1033, hx1033_0, hx1033_1, hx1033_2, hl1033_2, hi1033_2⟩ := at_T71 HR0_0.out x9_1 p1033 q1033
                (try rw [← Nbq8.out] at hx1033_0)
                cases e1033
                replace hx1033_0 := (HB.out.cell (World.block_lt_of_cell? w _ hx1033_0)).trans hx1033_0
                replace hx1033_1 := (HB.out.cell (World.block_lt_of_cell? w _ hx1033_1)).trans hx1033_1
                replace hx1033_2 := (HB.out.cell (World.block_lt_of_cell? w _ hx1033_2)).trans hx1033_2
                have HR1033_2 := Aside0.mk hi1033_2
                have HC1033_2 := Aside0.mk hl1033_2
                clear hi1033_2 hl1033_2
                replace p1033 := eq_true p1033
                replace q1033 := eq_true q1033
                go_wp2_with (first | ((with_reducible refine gate_dst (N := 4) rfl ?_); (try (refine gate_guard (by rfl) ?_; dsimp only)); refine box_event ?hg (N := 4) ?hd (cs := #[.bool false, .int .i64 0, .slice none 0 0]) (t := 71) ?hr ?_; (case hd => rfl); (case hg => rfl); (case hr => first | (go_simp; done) | (go_simp; rfl)); intro gb1034 hg w27 hbox hb; have n0_ := Aside0.mk (blk_below (g := gb1032) (o := .cells #[.slice (some ad1033) l0_0.length c0_0] 63 (0, 0)) (by (with_reducible repeat (first | refine blk_drewN ?_ _ | refine blk_drew ?_ | refine blk_alloc ?_ _)); exact BK1032.out) hb); have n1_ := Aside0.mk (below_step (by repeat (first | (with_reducible first | exact HB.out | apply below_alloc | apply pw_below_drewN | apply below_drew1 | refine below_set ?_ GE1032.out) | exact HB.out)) hb); have n2_ := Aside0.mk (hbox); have n3_ := Aside0.mk ((by rw [hg]; exact (below_size (by repeat (first | (with_reducible first | exact HB.out | apply below_alloc | apply pw_below_drewN | apply below_drew1 | refine below_set ?_ GE1032.out) | exact HB.out))) : w.heap.size ≤ gb1034)); have n4_ := Aside0.mk ((by rw [hg]; exact (below_size (by repeat (first | (with_reducible first | exact HB.out | apply below_alloc | apply pw_below_drewN | apply below_drew1 | refine below_set ?_ GE1032.out) | exact HB.out))) : w.heap.size ≤ gb1034)); have n5_ := Aside0.mk ((by rw [hg]; exact Nat.ne_of_lt (blk_lt (g := gb1032) (o := .cells #[.slice (some ad1033) l0_0.length c0_0] 63 (0, 0)) (by (with_reducible repeat (first | refine blk_drewN ?_ _ | refine blk_drew ?_ | refine blk_alloc ?_ _)); exact BK1032.out)) : gb1032 ≠ gb1034)); have n6_ := Aside0.mk ((by rw [hg]; exact Nat.ne_of_gt (blk_lt (g := gb1032) (o := .cells #[.slice (some ad1033) l0_0.length c0_0] 63 (0, 0)) (by (with_reducible repeat (first | refine blk_drewN ?_ _ | refine blk_drew ?_ | refine blk_alloc ?_ _)); exact BK1032.out)) : gb1034 ≠ gb1032)); clear BK1032; clear HB; have BK1032 := n0_; have HB := n1_; have BK1034 := n2_; have GW1034 := n3_; have GE1034 := n4_; have NB1032_1034 := n5_; have NB1034_1032 := n6_; clear n0_ n1_ n2_ n3_ n4_ n5_ n6_; clear hb hbox hg; have hnb28 := NB1034_1032.out; have hnc28 := NB1032_1034.out; have hcz29_0 : w27.cell? ⟨gb1034, 0, none⟩ = some (.bool false) := (blk_cell BK1034.out 0).trans rfl; have hcz29_1 : w27.cell? ⟨gb1034, 1, none⟩ = some (.int .i64 0) := (blk_cell BK1034.out 1).trans rfl; have hcz29_2 : w27.cell? ⟨gb1034, 2, none⟩ = some (.slice none 0 0) := (blk_cell BK1034.out 2).trans rfl; have hfz29_0 := blk_frozen BK1034.out 0; have hfz29_1 := blk_frozen BK1034.out 1; have hfz29_2 := blk_frozen BK1034.out 2) | ((with_reducible refine gate_callee (f := 108) rfl ?_); refine goesL_ (some 15) rfl rfl Try.func108 (by kernel_rfl) rfl #[.agg #[.bool false, .int .i64 ((rd_T71 l0_0 x9_1).f1), .slice A1033_2 ((rd_T71 l0_0 x9_1).f2).length c1033_2]] rfl (by (try simp only [List.map_toArray, List.map_cons, List.map_nil]); first | done | rfl | (simp only [List.length_drop, List.length_take]; rfl)) ?_; (with_reducible refine (impl_blanks.calls k1 false ((rd_T71 l0_0 x9_1).f1) _ _ ((rd_T71 l0_0 x9_1).f2) t1035 _ ?side1 ?side2 A7.out).mono ?_); (case side1 => exact Kd.C_below HR1033_2.out (by repeat (first | (with_reducible first | exact HB.out | apply below_alloc | apply pw_below_drewN | apply below_drew1 | refine below_set ?_ GE1032.out | refine below_set ?_ GE1034.out) | exact HB.out))); (case side2 => exact HC1033_2.out); rintro e w30 ⟨rfl, hb⟩; refine ⟨_, rfl, ?_⟩; have n0_ := Aside0.mk (blk_below (g := gb1032) (o := .cells #[.slice (some ad1033) l0_0.length c0_0] 63 (0, 0)) (by (with_reducible repeat (first | refine blk_drewN ?_ _ | refine blk_drew ?_ | refine blk_alloc ?_ _)); refine blk_far ?_ NB1032_1034.out _; (with_reducible repeat (first | refine blk_drewN ?_ _ | refine blk_drew ?_ | refine blk_alloc ?_ _)); refine blk_far ?_ NB1032_1034.out _; (with_reducible repeat (first | refine blk_drewN ?_ _ | refine blk_drew ?_ | refine blk_alloc ?_ _)); refine blk_far ?_ NB1032_1034.out _; (with_reducible repeat (first | refine blk_drewN ?_ _ | refine blk_drew ?_ | refine blk_alloc ?_ _)); exact BK1032.out) hb); have n1_ := Aside0.mk (blk_below (g := gb1034) (o := .cells #[.bool false, .int .i64 ((rd_T71 l0_0 x9_1).f1), .slice A1033_2 ((rd_T71 l0_0 x9_1).f2).length c1033_2] 71 (0, 0)) (by (with_reducible repeat (first | refine blk_drewN ?_ _ | refine blk_drew ?_ | refine blk_alloc ?_ _)); refine blk_put (cs := #[.bool false, .int .i64 ((rd_T71 l0_0 x9_1).f1), .slice none 0 0]) ?_ 2 _ rfl; (with_reducible repeat (first | refine blk_drewN ?_ _ | refine blk_drew ?_ | refine blk_alloc ?_ _)); refine blk_put (cs := #[.bool false, .int .i64 0, .slice none 0 0]) ?_ 1 _ rfl; (with_reducible repeat (first | refine blk_drewN ?_ _ | refine blk_drew ?_ | refine blk_alloc ?_ _)); refine blk_put (cs := #[.bool false, .int .i64 0, .slice none 0 0]) ?_ 0 _ rfl; (with_reducible repeat (first | refine blk_drewN ?_ _ | refine blk_drew ?_ | refine blk_alloc ?_ _)); exact BK1034.out) hb); have n2_ := Aside0.mk (below_step (by repeat (first | (with_reducible first | exact HB.out | apply below_alloc | apply pw_below_drewN | apply below_drew1 | refine below_set ?_ GE1032.out | refine below_set ?_ GE1034.out) | exact HB.out)) hb); clear BK1032; clear BK1034; clear HB; have BK1032 := n0_; have BK1034 := n1_; have HB := n2_; clear n0_ n1_ n2_; (try clear hb); (try clear hb2); (try clear hk); (try clear hi); have hcz31_0 : w30.cell? ⟨gb1034, 0, none⟩ = some (.bool false) := (blk_cell BK1034.out 0).trans rfl; have hcz31_1 : w30.cell? ⟨gb1034, 1, none⟩ = some (.int .i64 ((rd_T71 l0_0 x9_1).f1)) := (blk_cell BK1034.out 1).trans rfl; have hcz31_2 : w30.cell? ⟨gb1034, 2, none⟩ = some (.slice A1033_2 ((rd_T71 l0_0 x9_1).f2).length c1033_2) := (blk_cell BK1034.out 2).trans rfl; have hfz31_0 := blk_frozen BK1034.out 0; have hfz31_1 := blk_frozen BK1034.out 1; have hfz31_2 := blk_frozen BK1034.out 2))
                go_roundg k1
                case measure => have := HK1.out; omega
                case rel => exact ⟨(wrap64 (x9_1 + 1)), (by first | rfl | (simp; done) | (simp [*]; done)), H', ⟨by have := HK1.out; omega⟩, ⟨by (with_reducible repeat (first | refine blk_drewN ?_ _ | refine blk_drew ?_ | refine blk_alloc ?_ _)); exact BK1032.out⟩, ⟨by repeat (first | (with_reducible first | exact HB.out | apply below_alloc | apply pw_below_drewN | apply below_drew1 | refine below_set ?_ GE1032.out | refine below_set ?_ GE1034.out) | exact HB.out)⟩⟩
          · rw [if_neg c6] at H
            exact absurd H (by simp)
        · rw [if_neg c5] at H
          exact absurd H (by simp)
      · rw [if_neg c4] at H
        have c4b0 : decide (x9_1 < (l0_0.length : Int)) = false := decide_eq_false c4
        clear c4
        obtain rfl := Option.some.inj H
        go_wp2
        go_ret
        exact ⟨by first | rfl | (simp [errW_none, errW_some] <;> rfl) | (simp [*, errW_none, errW_some] <;> rfl), by repeat (first | (with_reducible first | exact HB.out | apply below_alloc | apply pw_below_drewN | apply below_drew1 | refine below_set ?_ GE1032.out) | exact HB.out)⟩

end Go.Proofs.Ytdolplcbokioaaa.PB

/- Functions of the translation as plain Lean functions, and for each that its call comes to just what its Lean function answers; its conditions stand in each theorem. Written by a program of this session. -/
namespace Go.Proofs.Ytdolplcbokioaaa.PB
open Go.RowKit Go.Proofs.YtdolplcbokioaaaW.PrintWords Go.Proofs.YtdolplcbokioaaaW.PrintLast Go.Proofs.YtdolplcbokioaaaW.PrintMore
attribute [local go_sem] max2_int min2_int max_two min_two max_three min_three max_four min_four   -- for this text's walks alone
set_option linter.unusedVariables false
set_option linter.unusedSimpArgs false

/-! ### impl_in: function 84 -/
def impl_in.f (a0 : Int) (a1 : Int) (a2 : Int) : Option (Bool) := if a0 ≥ a1 then (some (decide (a0 ≤ a2))) else (some false)
set_option maxHeartbeats 8000000 in
set_option maxRecDepth 100000 in
theorem impl_in.calls (a0 : Int) (a1 : Int) (a2 : Int) (r : Bool) (w : World) (h : impl_in.f a0 a1 a2 = some r) :
    Calls Try.prog 84 #[.int .i64 a0, .int .i64 a1, .int .i64 a2] w fun e w' => e = .returned (.bool r) ∧ Drawn0 w w' := by
  have H : (if a0 ≥ a1 then (some (decide (a0 ≤ a2))) else (some false)) = some r := h
  clear h
  by_cases c4 : a0 ≥ a1
  · rw [if_pos c4] at H
    have c4b0 : decide (a1 ≤ a0) = true := decide_eq_true c4
    clear c4
    obtain rfl := Option.some.inj H
    go_enter Try.func84, Try.ntmps84
    go_wp2
    go_ret
    exact ⟨by first | rfl | (simp; done) | (simp [*]; done), by repeat (first | exact Drawn0.refl _ | apply Drawn0.step)⟩
  · rw [if_neg c4] at H
    have c4b0 : decide (a1 ≤ a0) = false := decide_eq_false c4
    clear c4
    obtain rfl := Option.some.inj H
    go_enter Try.func84, Try.ntmps84
    go_wp2
    go_ret
    exact ⟨by first | rfl | (simp; done) | (simp [*]; done), by repeat (first | exact Drawn0.refl _ | apply Drawn0.step)⟩

end Go.Proofs.Ytdolplcbokioaaa.PB

/- Functions of the translation as plain Lean functions, and for each that its call comes to just what its Lean function answers; its conditions stand in each theorem. Written by a program of this session. -/
namespace Go.Proofs.Ytdolplcbokioaaa.PB
open Go.RowKit Go.Proofs.YtdolplcbokioaaaW.PrintWords Go.Proofs.YtdolplcbokioaaaW.PrintLast Go.Proofs.YtdolplcbokioaaaW.PrintMore
attribute [local go_sem] max2_int min2_int max_two min_two max_three min_three max_four min_four   -- for this text's walks alone
set_option linter.unusedVariables false
set_option linter.unusedSimpArgs false

/-! ### impl_leafOk: function 150 -/
def impl_leafOk.f (a0_0 : Int) (a0_1 : ByteArray) : Option (Bool) := if a0_0 = 0 then (some (a0_1.toList == ([] : List UInt8))) else (if a0_0 = 1 then ((impl_in.f (a0_1.size : Int) 1 120).bind fun t1037 => (some t1037)) else (if a0_0 = 2 then (some (decide ((a0_1.size : Int) ≤ 120))) else (some false)))
set_option maxHeartbeats 8000000 in
set_option maxRecDepth 100000 in
theorem impl_leafOk.calls (a0_0 : Int) (a0_1 : ByteArray) (r : Bool) (w : World) (h : impl_leafOk.f a0_0 a0_1 = some r) :
    Calls Try.prog 150 #[.agg #[.int .i64 a0_0, .string a0_1]] w fun e w' => e = .returned (.bool r) ∧ Below w.heap.size w w' := by
  have hu142 := Try.underlying142
  have HB := Aside0.mk (Below.refl w.heap.size w)
  have H : (if a0_0 = 0 then (some (a0_1.toList == ([] : List UInt8))) else (if a0_0 = 1 then ((impl_in.f (a0_1.size : Int) 1 120).bind fun t1037 => (some t1037)) else (if a0_0 = 2 then (some (decide ((a0_1.size : Int) ≤ 120))) else (some false)))) = some r := h
  clear h
  by_cases c2 : a0_0 = 0
  · rw [if_pos c2] at H
    have c2b0 : (a0_0 == 0) = true := beq_iff_eq.mpr c2
    have c2b1 : (a0_0 != 0) = false := bne_eq_false_iff_eq.mpr c2
    clear c2
    obtain rfl := Option.some.inj H
    go_enter Try.func150, Try.ntmps150
    go_wp2_with (first | ((with_reducible refine gate_dst (N := 1) rfl ?_); (try (refine gate_guard (by rfl) ?_; dsimp only)); refine box_event ?hg (N := 1) ?hd (cs := #[.int .i64 a0_0, .string a0_1]) (t := 142) ?hr ?_; (case hd => rfl); (case hg => rfl); (case hr => first | (go_simp; done) | (go_simp; rfl)); intro gb1036 hg w3 hbox hb; have n0_ := Aside0.mk (below_step (by repeat (first | (with_reducible first | exact HB.out | apply below_alloc | apply pw_below_drewN | apply below_drew1) | exact HB.out)) hb); have n1_ := Aside0.mk (hbox); have n2_ := Aside0.mk ((by rw [hg]; exact (below_size (by repeat (first | (with_reducible first | exact HB.out | apply below_alloc | apply pw_below_drewN | apply below_drew1) | exact HB.out))) : w.heap.size ≤ gb1036)); have n3_ := Aside0.mk ((by rw [hg]; exact (below_size (by repeat (first | (with_reducible first | exact HB.out | apply below_alloc | apply pw_below_drewN | apply below_drew1) | exact HB.out))) : w.heap.size ≤ gb1036)); clear HB; have HB := n0_; have BK1036 := n1_; have GW1036 := n2_; have GE1036 := n3_; clear n0_ n1_ n2_ n3_; clear hb hbox hg; have hcz4_0 : w3.cell? ⟨gb1036, 0, none⟩ = some (.int .i64 a0_0) := (blk_cell BK1036.out 0).trans rfl; have hcz4_1 : w3.cell? ⟨gb1036, 1, none⟩ = some (.string a0_1) := (blk_cell BK1036.out 1).trans rfl; have hfz4_0 := blk_frozen BK1036.out 0; have hfz4_1 := blk_frozen BK1036.out 1))
    go_ret
    exact ⟨by first | rfl | (simp [errW_none, errW_some] <;> rfl) | (simp [*, errW_none, errW_some] <;> rfl), by repeat (first | (with_reducible first | exact HB.out | apply below_alloc | apply pw_below_drewN | apply below_drew1 | refine below_set ?_ GE1036.out) | exact HB.out)⟩
  · rw [if_neg c2] at H
    have c2b0 : (a0_0 == 0) = false := beq_eq_false_iff_ne.mpr c2
    have c2b1 : (a0_0 != 0) = true := bne_iff_ne.mpr c2
    by_cases c5 : a0_0 = 1
    · rw [if_pos c5] at H
      have c5b0 : (a0_0 == 1) = true := beq_iff_eq.mpr c5
      have c5b1 : (a0_0 != 1) = false := bne_eq_false_iff_eq.mpr c5
      clear c5
      replace H := Option.bind_eq_some_iff.mp H
      obtain ⟨t1037, A60, H⟩ := H
      replace H : (some t1037) = some r := H
      have A6 := Aside0.mk A60
      clear A60
      obtain rfl := Option.some.inj H
      go_enter Try.func150, Try.ntmps150
      go_wp2_with (first | ((with_reducible refine gate_dst (N := 1) rfl ?_); (try (refine gate_guard (by rfl) ?_; dsimp only)); refine box_event ?hg (N := 1) ?hd (cs := #[.int .i64 a0_0, .string a0_1]) (t := 142) ?hr ?_; (case hd => rfl); (case hg => rfl); (case hr => first | (go_simp; done) | (go_simp; rfl)); intro gb1036 hg w7 hbox hb; have n0_ := Aside0.mk (below_step (by repeat (first | (with_reducible first | exact HB.out | apply below_alloc | apply pw_below_drewN | apply below_drew1) | exact HB.out)) hb); have n1_ := Aside0.mk (hbox); have n2_ := Aside0.mk ((by rw [hg]; exact (below_size (by repeat (first | (with_reducible first | exact HB.out | apply below_alloc | apply pw_below_drewN | apply below_drew1) | exact HB.out))) : w.heap.size ≤ gb1036)); have n3_ := Aside0.mk ((by rw [hg]; exact (below_size (by repeat (first | (with_reducible first | exact HB.out | apply below_alloc | apply pw_below_drewN | apply below_drew1) | exact HB.out))) : w.heap.size ≤ gb1036)); clear HB; have HB := n0_; have BK1036 := n1_; have GW1036 := n2_; have GE1036 := n3_; clear n0_ n1_ n2_ n3_; clear hb hbox hg; have hcz8_0 : w7.cell? ⟨gb1036, 0, none⟩ = some (.int .i64 a0_0) := (blk_cell BK1036.out 0).trans rfl; have hcz8_1 : w7.cell? ⟨gb1036, 1, none⟩ = some (.string a0_1) := (blk_cell BK1036.out 1).trans rfl; have hfz8_0 := blk_frozen BK1036.out 0; have hfz8_1 := blk_frozen BK1036.out 1) | ((with_reducible refine gate_callee (f := 84) rfl ?_); refine goesL_ (some 15) rfl rfl Try.func84 (by kernel_rfl) rfl #[.int .i64 (a0_1.size : Int), .int .i64 1, .int .i64 120] rfl (by (try simp only [List.map_toArray, List.map_cons, List.map_nil]); first | done | rfl | (simp only [List.length_drop, List.length_take]; rfl)) ?_; (with_reducible refine (impl_in.calls (a0_1.size : Int) 1 120 t1037 _ A6.out).mono ?_); rintro e w' ⟨rfl, ⟨nd, rfl⟩⟩; refine ⟨_, rfl, ?_⟩))
      go_ret
      exact ⟨by first | rfl | (simp [errW_none, errW_some] <;> rfl) | (simp [*, errW_none, errW_some] <;> rfl), by repeat (first | (with_reducible first | exact HB.out | apply below_alloc | apply pw_below_drewN | apply below_drew1 | refine below_set ?_ GE1036.out) | exact HB.out)⟩
    · rw [if_neg c5] at H
      have c5b0 : (a0_0 == 1) = false := beq_eq_false_iff_ne.mpr c5
      have c5b1 : (a0_0 != 1) = true := bne_iff_ne.mpr c5
      by_cases c9 : a0_0 = 2
      · rw [if_pos c9] at H
        have c9b0 : (a0_0 == 2) = true := beq_iff_eq.mpr c9
        have c9b1 : (a0_0 != 2) = false := bne_eq_false_iff_eq.mpr c9
        clear c9
        obtain rfl := Option.some.inj H
        go_enter Try.func150, Try.ntmps150
        go_wp2_with (first | ((with_reducible refine gate_dst (N := 1) rfl ?_); (try (refine gate_guard (by rfl) ?_; dsimp only)); refine box_event ?hg (N := 1) ?hd (cs := #[.int .i64 a0_0, .string a0_1]) (t := 142) ?hr ?_; (case hd => rfl); (case hg => rfl); (case hr => first | (go_simp; done) | (go_simp; rfl)); intro gb1036 hg w10 hbox hb; have n0_ := Aside0.mk (below_step (by repeat (first | (with_reducible first | exact HB.out | apply below_alloc | apply pw_below_drewN | apply below_drew1) | exact HB.out)) hb); have n1_ := Aside0.mk (hbox); have n2_ := Aside0.mk ((by rw [hg]; exact (below_size (by repeat (first | (with_reducible first | exact HB.out | apply below_alloc | apply pw_below_drewN | apply below_drew1) | exact HB.out))) : w.heap.size ≤ gb1036)); have n3_ := Aside0.mk ((by rw [hg]; exact (below_size (by repeat (first | (with_reducible first | exact HB.out | apply below_alloc | apply pw_below_drewN | apply below_drew1) | exact HB.out))) : w.heap.size ≤ gb1036)); clear HB; have HB := n0_; have BK1036 := n1_; have GW1036 := n2_; have GE1036 := n3_; clear n0_ n1_ n2_ n3_; clear hb hbox hg; have hcz11_0 : w10.cell? ⟨gb1036, 0, none⟩ = some (.int .i64 a0_0) := (blk_cell BK1036.out 0).trans rfl; have hcz11_1 : w10.cell? ⟨gb1036, 1, none⟩ = some (.string a0_1) := (blk_cell BK1036.out 1).trans rfl; have hfz11_0 := blk_frozen BK1036.out 0; have hfz11_1 := blk_frozen BK1036.out 1))
        go_ret
        exact ⟨by first | rfl | (simp [errW_none, errW_some] <;> rfl) | (simp [*, errW_none, errW_some] <;> rfl), by repeat (first | (with_reducible first | exact HB.out | apply below_alloc | apply pw_below_drewN | apply below_drew1 | refine below_set ?_ GE1036.out) | exact HB.out)⟩
      · rw [if_neg c9] at H
        have c9b0 : (a0_0 == 2) = false := beq_eq_false_iff_ne.mpr c9
        have c9b1 : (a0_0 != 2) = true := bne_iff_ne.mpr c9
        obtain rfl := Option.some.inj H
        go_enter Try.func150, Try.ntmps150
        go_wp2_with (first | ((with_reducible refine gate_dst (N := 1) rfl ?_); (try (refine gate_guard (by rfl) ?_; dsimp only)); refine box_event ?hg (N := 1) ?hd (cs := #[.int .i64 a0_0, .string a0_1]) (t := 142) ?hr ?_; (case hd => rfl); (case hg => rfl); (case hr => first | (go_simp; done) | (go_simp; rfl)); intro gb1036 hg w12 hbox hb; have n0_ := Aside0.mk (below_step (by repeat (first | (with_reducible first | exact HB.out | apply below_alloc | apply pw_below_drewN | apply below_drew1) | exact HB.out)) hb); have n1_ := Aside0.mk (hbox); have n2_ := Aside0.mk ((by rw [hg]; exact (below_size (by repeat (first | (with_reducible first | exact HB.out | apply below_alloc | apply pw_below_drewN | apply below_drew1) | exact HB.out))) : w.heap.size ≤ gb1036)); have n3_ := Aside0.mk ((by rw [hg]; exact (below_size (by repeat (first | (with_reducible first | exact HB.out | apply below_alloc | apply pw_below_drewN | apply below_drew1) | exact HB.out))) : w.heap.size ≤ gb1036)); clear HB; have HB := n0_; have BK1036 := n1_; have GW1036 := n2_; have GE1036 := n3_; clear n0_ n1_ n2_ n3_; clear hb hbox hg; have hcz13_0 : w12.cell? ⟨gb1036, 0, none⟩ = some (.int .i64 a0_0) := (blk_cell BK1036.out 0).trans rfl; have hcz13_1 : w12.cell? ⟨gb1036, 1, none⟩ = some (.string a0_1) := (blk_cell BK1036.out 1).trans rfl; have hfz13_0 := blk_frozen BK1036.out 0; have hfz13_1 := blk_frozen BK1036.out 1))
        go_ret
        exact ⟨by first | rfl | (simp [errW_none, errW_some] <;> rfl) | (simp [*, errW_none, errW_some] <;> rfl), by repeat (first | (with_reducible first | exact HB.out | apply below_alloc | apply pw_below_drewN | apply below_drew1 | refine below_set ?_ GE1036.out) | exact HB.out)⟩

end Go.Proofs.Ytdolplcbokioaaa.PB

/- Functions of the translation as plain Lean functions, and for each that its call comes to just what its Lean function answers; its conditions stand in each theorem. Written by a program of this session. -/
namespace Go.Proofs.Ytdolplcbokioaaa.PB
open Go.RowKit Go.Proofs.YtdolplcbokioaaaW.PrintWords Go.Proofs.YtdolplcbokioaaaW.PrintLast Go.Proofs.YtdolplcbokioaaaW.PrintMore
attribute [local go_sem] max2_int min2_int max_two min_two max_three min_three max_four min_four   -- for this text's walks alone
set_option linter.unusedVariables false
set_option linter.unusedSimpArgs false

/-! ### impl_FlashOk: function 106 -/
mutual
def impl_FlashOk.l0 : Nat → List (S71) → Int → Int → List (S71) → Option (Bool)
  | 0, _, _, _, _ => none
  | k + 1, x8, x9, x10, x1039000 => if x10 < x9 then (if 0 ≤ x10 then (if x10 < (x8.length : Int) then (if (((rd_T71 x8 x10).f2).length : Int) = 4 then ((impl_in.f ((rd_T71 x8 x10).f1) 0 1000000000).bind fun t1042 => (impl_FlashOk.j1 k x8 x9 x10 (!t1042) x1039000 ((rd_T71 x8 x10).f0) ((rd_T71 x8 x10).f1) ((rd_T71 x8 x10).f2))) else (impl_FlashOk.j1 k x8 x9 x10 true x1039000 ((rd_T71 x8 x10).f0) ((rd_T71 x8 x10).f1) ((rd_T71 x8 x10).f2))) else (none)) else (none)) else ((impl_in.f (x1039000.length : Int) 3 10).bind fun t1039 => (some t1039))
def impl_FlashOk.j1 : Nat → List (S71) → Int → Int → Bool → List (S71) → Bool → Int → List (S142) → Option (Bool)
  | 0, _, _, _, _, _, _, _, _ => none
  | k + 1, x8, x9, x10, x23, x1039000, x1042000, x1042001, x1042002 => if x23 = true then (some false) else (impl_FlashOk.l1 k x8 x9 x10 x1042002 (x1042002.length : Int) 0 x1039000 x1042000 x1042001 x1042002)
def impl_FlashOk.l1 : Nat → List (S71) → Int → Int → List (S142) → Int → Int → List (S71) → Bool → Int → List (S142) → Option (Bool)
  | 0, _, _, _, _, _, _, _, _, _, _ => none
  | k + 1, x8, x9, x10, x25, x26, x27, x1039000, x1042000, x1042001, x1042002 => if x27 < x26 then (if 0 ≤ x27 then (if x27 < (x25.length : Int) then ((impl_leafOk.f ((rd_T142 x25 x27).f0) ((rd_T142 x25 x27).f1)).bind fun t1045 => (if t1045 = true then (if x27 > 0 then (if 0 ≤ (wrap64 (x27 - 1)) then (if (wrap64 (x27 - 1)) < (x1042002.length : Int) then (if ((rd_T142 x1042002 (wrap64 (x27 - 1))).f0) = 0 then (if ((rd_T142 x25 x27).f0) = 0 then (impl_FlashOk.l1 k x8 x9 x10 x25 x26 (wrap64 (x27 + 1)) x1039000 x1042000 x1042001 x1042002) else (some false)) else (impl_FlashOk.l1 k x8 x9 x10 x25 x26 (wrap64 (x27 + 1)) x1039000 x1042000 x1042001 x1042002)) else (none)) else (none)) else (impl_FlashOk.l1 k x8 x9 x10 x25 x26 (wrap64 (x27 + 1)) x1039000 x1042000 x1042001 x1042002)) else (some false))) else (none)) else (none)) else (impl_FlashOk.l0 k x8 x9 (wrap64 (x10 + 1)) x1039000)
end
def impl_FlashOk.f (k : Nat) (l0_0 : List (S71)) : Option (Bool) := impl_FlashOk.l0 k l0_0 (l0_0.length : Int) 0 l0_0
theorem impl_FlashOk.mono_l : ∀ k, (∀ y0 y1 y2 y3, LeO (impl_FlashOk.l0 k y0 y1 y2 y3) (impl_FlashOk.l0 (k + 1) y0 y1 y2 y3)) ∧ (∀ y0 y1 y2 y3 y4 y5 y6 y7, LeO (impl_FlashOk.j1 k y0 y1 y2 y3 y4 y5 y6 y7) (impl_FlashOk.j1 (k + 1) y0 y1 y2 y3 y4 y5 y6 y7)) ∧ (∀ y0 y1 y2 y3 y4 y5 y6 y7 y8 y9, LeO (impl_FlashOk.l1 k y0 y1 y2 y3 y4 y5 y6 y7 y8 y9) (impl_FlashOk.l1 (k + 1) y0 y1 y2 y3 y4 y5 y6 y7 y8 y9))
  | 0 => ⟨fun _ _ _ _ r h => by simp [impl_FlashOk.l0] at h, fun _ _ _ _ _ _ _ _ r h => by simp [impl_FlashOk.j1] at h, fun _ _ _ _ _ _ _ _ _ _ r h => by simp [impl_FlashOk.l1] at h⟩
  | k + 1 => by
    obtain ⟨ih0, ih1, ih2⟩ := impl_FlashOk.mono_l k
    refine ⟨?_, ?_, ?_⟩
    · intro y0 y1 y2 y3
      unfold impl_FlashOk.l0
      repeat' first
      | (with_reducible exact ih0 _ _ _ _)
      | (with_reducible exact ih1 _ _ _ _ _ _ _ _)
      | (with_reducible exact ih2 _ _ _ _ _ _ _ _ _ _)
      | (with_reducible exact LeO.refl _)
      | (with_reducible exact LeO.none _)
      | (with_reducible refine LeO.ite ?_ ?_)
      | (with_reducible refine LeO.bind ?_ (fun _ => ?_))
      | exact ih0 _ _ _ _
      | exact ih1 _ _ _ _ _ _ _ _
      | exact ih2 _ _ _ _ _ _ _ _ _ _
      | exact LeO.none _
      | refine LeO.ite ?_ ?_
      | refine LeO.bind ?_ (fun _ => ?_)
    · intro y0 y1 y2 y3 y4 y5 y6 y7
      unfold impl_FlashOk.j1
      repeat' first
      | (with_reducible exact ih0 _ _ _ _)
      | (with_reducible exact ih1 _ _ _ _ _ _ _ _)
      | (with_reducible exact ih2 _ _ _ _ _ _ _ _ _ _)
      | (with_reducible exact LeO.refl _)
      | (with_reducible exact LeO.none _)
      | (with_reducible refine LeO.ite ?_ ?_)
      | (with_reducible refine LeO.bind ?_ (fun _ => ?_))
      | exact ih0 _ _ _ _
      | exact ih1 _ _ _ _ _ _ _ _
      | exact ih2 _ _ _ _ _ _ _ _ _ _
      | exact LeO.none _
      | refine LeO.ite ?_ ?_
      | refine LeO.bind ?_ (fun _ => ?_)
    · intro y0 y1 y2 y3 y4 y5 y6 y7 y8 y9
      unfold impl_FlashOk.l1
      repeat' first
      | (with_reducible exact ih0 _ _ _ _)
      | (with_reducible exact ih1 _ _ _ _ _ _ _ _)
      | (with_reducible exact ih2 _ _ _ _ _ _ _ _ _ _)
      | (with_reducible exact LeO.refl _)
      | (with_reducible exact LeO.none _)
      | (with_reducible refine LeO.ite ?_ ?_)
      | (with_reducible refine LeO.bind ?_ (fun _ => ?_))
      | exact ih0 _ _ _ _
      | exact ih1 _ _ _ _ _ _ _ _
      | exact ih2 _ _ _ _ _ _ _ _ _ _
      | exact LeO.none _
      | refine LeO.ite ?_ ?_
      | refine LeO.bind ?_ (fun _ => ?_)
theorem impl_FlashOk.mono : ∀ a0 k, LeO (impl_FlashOk.f k a0) (impl_FlashOk.f (k + 1) a0) := by
  intro a0 k
  obtain ⟨ih0, ih1, ih2⟩ := impl_FlashOk.mono_l k
  unfold impl_FlashOk.f
  repeat' first
      | (with_reducible exact ih0 _ _ _ _)
      | (with_reducible exact ih1 _ _ _ _ _ _ _ _)
      | (with_reducible exact ih2 _ _ _ _ _ _ _ _ _ _)
      | (with_reducible exact LeO.refl _)
      | (with_reducible exact LeO.none _)
      | (with_reducible refine LeO.ite ?_ ?_)
      | (with_reducible refine LeO.bind ?_ (fun _ => ?_))
      | exact ih0 _ _ _ _
      | exact ih1 _ _ _ _ _ _ _ _
      | exact ih2 _ _ _ _ _ _ _ _ _ _
      | exact LeO.none _
      | refine LeO.ite ?_ ?_
      | refine LeO.bind ?_ (fun _ => ?_)
set_option maxHeartbeats 8000000 in
set_option maxRecDepth 100000 in
theorem impl_FlashOk.calls (k : Nat) (A0_0 : Option Addr) (c0_0 : Nat) (l0_0 : List (S71)) (r : Bool) (w : World) (hr0_0 : Kd.C k71 w A0_0 l0_0.length l0_0) (hc0_0 : l0_0.length ≤ c0_0) (h : impl_FlashOk.f k l0_0 = some r) :
    Calls Try.prog 106 #[.agg #[.slice A0_0 l0_0.length c0_0]] w fun e w' => e = .returned (.bool r) ∧ Below w.heap.size w w' := by
  have hu63 := Try.underlying63
  have hu71 := Try.underlying71
  have hu142 := Try.underlying142
  have HR0_0 := Aside0.mk hr0_0
  have HC0_0 := Aside0.mk hc0_0
  clear hr0_0 hc0_0
  have HB := Aside0.mk (Below.refl w.heap.size w)
  have H : (impl_FlashOk.l0 k l0_0 (l0_0.length : Int) 0 l0_0) = some r := h
  clear h
  have H' := Aside0.mk H
  clear H
  go_enter Try.func106, Try.ntmps106
  go_wp2_with (first | ((with_reducible refine gate_dst (N := 1) rfl ?_); refine box_event ?hg (N := 1) ?hd (cs := #[.slice A0_0 l0_0.length c0_0]) (t := 63) ?hr ?_; (case hd => rfl); (case hg => rfl); (case hr => first | (go_simp; done) | (go_simp; rfl)); intro gb1038 hg w2 hbox hb; have n0_ := Aside0.mk (below_step (by repeat (first | (with_reducible first | exact HB.out | apply below_alloc | apply pw_below_drewN | apply below_drew1) | exact HB.out)) hb); have n1_ := Aside0.mk (hbox); have n2_ := Aside0.mk ((by rw [hg]; exact (below_size (by repeat (first | (with_reducible first | exact HB.out | apply below_alloc | apply pw_below_drewN | apply below_drew1) | exact HB.out))) : w.heap.size ≤ gb1038)); have n3_ := Aside0.mk ((by rw [hg]; exact (below_size (by repeat (first | (with_reducible first | exact HB.out | apply below_alloc | apply pw_below_drewN | apply below_drew1) | exact HB.out))) : w.heap.size ≤ gb1038)); clear HB; have HB := n0_; have BK1038 := n1_; have GW1038 := n2_; have GE1038 := n3_; clear n0_ n1_ n2_ n3_; clear hb hbox hg; have hcz3_0 : w2.cell? ⟨gb1038, 0, none⟩ = some (.slice A0_0 l0_0.length c0_0) := (blk_cell BK1038.out 0).trans rfl; have hfz3_0 := blk_frozen BK1038.out 0))
  go_loopg [10] k (fun kq v10 w' => ∃ (x10_1 : Int), v10 = .int .i64 x10_1 ∧ Aside0 (impl_FlashOk.l0 kq l0_0 (l0_0.length : Int) x10_1 l0_0 = some r) ∧ Aside0 (kq ≤ k) ∧ Aside0 (w'.heap[gb1038]? = some (.cells #[(.slice A0_0 l0_0.length c0_0)] 63 (0, 0))) ∧ Aside0 (Below w.heap.size w w'))
  case atStart => exact ⟨(0), (by first | rfl | (simp; done) | (simp [*]; done)), H', ⟨Nat.le_refl _⟩, ⟨by (with_reducible repeat (first | refine blk_drewN ?_ _ | refine blk_drew ?_ | refine blk_alloc ?_ _)); exact BK1038.out⟩, ⟨by repeat (first | (with_reducible first | exact HB.out | apply below_alloc | apply pw_below_drewN | apply below_drew1 | refine below_set ?_ GE1038.out) | exact HB.out)⟩⟩
  case round =>
    clear H'
    try clear c1
    try clear p2
    try clear hcz3_0
    try clear hfz3_0
    obtain ⟨x10_1, rfl, HA, HK1, BK1038, HB⟩ := hrel
    cases gk with
    | zero => exact absurd HA.out (by simp [impl_FlashOk.l0])
    | succ k1 =>
      have H := HA.out
      clear HA
      simp only [impl_FlashOk.l0] at H
      by_cases c4 : x10_1 < (l0_0.length : Int)
      · rw [if_pos c4] at H
        have c4b0 : decide (x10_1 < (l0_0.length : Int)) = true := decide_eq_true c4
        clear c4
        by_cases c5 : 0 ≤ x10_1
        · rw [if_pos c5] at H
          have c5b0 : decide (0 ≤ x10_1) = true := decide_eq_true c5
          clear c5
          by_cases c6 : x10_1 < (l0_0.length : Int)
          · rw [if_pos c6] at H
            have c6b0 : decide (x10_1 < (l0_0.length : Int)) = true := decide_eq_true c6
            clear c6
            have HC7 := Aside0.mk H
            clear H
            have p1040 : 0 ≤ (x10_1 : Int) := of_decide_eq_true (by first | (with_reducible assumption) | assumption)
            have q1040 : x10_1 < (l0_0.length : Int) := of_decide_eq_true (by first | (with_reducible assumption) | assumption)
            obtain ⟨ad1040, A1040_2, c1040_2, e1040, hx1040_0, hx1040_1, hx1040_2, hl1040_2, hi1040_2⟩ := at_T71 HR0_0.out x10_1 p1040 q1040
            cases e1040
            replace hx1040_0 := (HB.out.cell (World.block_lt_of_cell? w _ hx1040_0)).trans hx1040_0
            replace hx1040_1 := (HB.out.cell (World.block_lt_of_cell? w _ hx1040_1)).trans hx1040_1
            replace hx1040_2 := (HB.out.cell (World.block_lt_of_cell? w _ hx1040_2)).trans hx1040_2
            have HR1040_2 := Aside0.mk hi1040_2
            have HC1040_2 := Aside0.mk hl1040_2
            clear hi1040_2 hl1040_2
            replace p1040 := eq_true p1040
            replace q1040 := eq_true q1040
            go_upto_region 4 with (first | ((with_reducible refine gate_dst (N := 4) rfl ?_); refine box_event ?hg (N := 4) ?hd (cs := #[.bool false, .int .i64 0, .slice none 0 0]) (t := 71) ?hr ?_; (case hd => rfl); (case hg => rfl); (case hr => first | (go_simp; done) | (go_simp; rfl)); intro gb1041 hg w8 hbox hb; have n0_ := Aside0.mk (blk_below (g := gb1038) (o := .cells #[.slice (some ad1040) l0_0.length c0_0] 63 (0, 0)) (by (with_reducible repeat (first | refine blk_drewN ?_ _ | refine blk_drew ?_ | refine blk_alloc ?_ _)); exact BK1038.out) hb); have n1_ := Aside0.mk (below_step (by repeat (first | (with_reducible first | exact HB.out | apply below_alloc | apply pw_below_drewN | apply below_drew1 | refine below_set ?_ GE1038.out) | exact HB.out)) hb); have n2_ := Aside0.mk (hbox); have n3_ := Aside0.mk ((by rw [hg]; exact (below_size (by repeat (first | (with_reducible first | exact HB.out | apply below_alloc | apply pw_below_drewN | apply below_drew1 | refine below_set ?_ GE1038.out) | exact HB.out))) : w.heap.size ≤ gb1041)); have n4_ := Aside0.mk ((by rw [hg]; exact (below_size (by repeat (first | (with_reducible first | exact HB.out | apply below_alloc | apply pw_below_drewN | apply below_drew1 | refine below_set ?_ GE1038.out) | exact HB.out))) : w.heap.size ≤ gb1041)); have n5_ := Aside0.mk ((by rw [hg]; exact Nat.ne_of_lt (blk_lt (g := gb1038) (o := .cells #[.slice (some ad1040) l0_0.length c0_0] 63 (0, 0)) (by (with_reducible repeat (first | refine blk_drewN ?_ _ | refine blk_drew ?_ | refine blk_alloc ?_ _)); exact BK1038.out)) : gb1038 ≠ gb1041)); have n6_ := Aside0.mk ((by rw [hg]; exact Nat.ne_of_gt (blk_lt (g := gb1038) (o := .cells #[.slice (some ad1040) l0_0.length c0_0] 63 (0, 0)) (by (with_reducible repeat (first | refine blk_drewN ?_ _ | refine blk_drew ?_ | refine blk_alloc ?_ _)); exact BK1038.out)) : gb1041 ≠ gb1038)); clear BK1038; clear HB; have BK1038 := n0_; have HB := n1_; have BK1041 := n2_; have GW1041 := n3_; have GE1041 := n4_; have NB1038_1041 := n5_; have NB1041_1038 := n6_; clear n0_ n1_ n2_ n3_ n4_ n5_ n6_; clear hb hbox hg; have hnb9 := NB1041_1038.out; have hnc9 := NB1038_1041.out; have hcz10_0 : w8.cell? ⟨gb1041, 0, none⟩ = some (.bool false) := (blk_cell BK1041.out 0).trans rfl; have hcz10_1 : w8.cell? ⟨gb1041, 1, none⟩ = some (.int .i64 0) := (blk_cell BK1041.out 1).trans rfl; have hcz10_2 : w8.cell? ⟨gb1041, 2, none⟩ = some (.slice none 0 0) := (blk_cell BK1041.out 2).trans rfl; have hfz10_0 := blk_frozen BK1041.out 0; have hfz10_1 := blk_frozen BK1041.out 1; have hfz10_2 := blk_frozen BK1041.out 2))
            (try simp only [Act.put, List.setIfInBounds_toArray, List.set_cons_zero, List.set_cons_succ])
            go_cut [13, 23] (fun v13 v23 wc => ∃ (kq : Nat) (x23_6 : Bool), v23 = .bool x23_6 ∧ Aside0 (impl_FlashOk.j1 kq l0_0 (l0_0.length : Int) x10_1 x23_6 l0_0 ((rd_T71 l0_0 x10_1).f0) ((rd_T71 l0_0 x10_1).f1) ((rd_T71 l0_0 x10_1).f2) = some r) ∧ Aside0 (kq ≤ k1) ∧ Aside0 (wc.heap[gb1038]? = some (.cells #[(.slice (some ad1040) l0_0.length c0_0)] 63 (0, 0))) ∧ Aside0 (wc.heap[gb1041]? = some (.cells #[.bool ((rd_T71 l0_0 x10_1).f0), .int .i64 ((rd_T71 l0_0 x10_1).f1), (.slice A1040_2 ((rd_T71 l0_0 x10_1).f2).length c1040_2)] 71 (0, 0))) ∧ Aside0 (Below w.heap.size w wc))
            case first =>
              have H := HC7.out
              clear HC7
              by_cases c11 : (((rd_T71 l0_0 x10_1).f2).length : Int) = 4
              · rw [if_pos c11] at H
                have c11b0 : ((((rd_T71 l0_0 x10_1).f2).length : Int) == 4) = true := beq_iff_eq.mpr c11
                have c11b1 : ((((rd_T71 l0_0 x10_1).f2).length : Int) != 4) = false := bne_eq_false_iff_eq.mpr c11
                clear c11
                (first | rw [c11b0] | (simp only [i64_w, i32_w]; rw [c11b0]) | skip)
                replace H := Option.bind_eq_some_iff.mp H
                obtain ⟨t1042, A120, H⟩ := H
                replace H : (impl_FlashOk.j1 k1 l0_0 (l0_0.length : Int) x10_1 (!t1042) l0_0 ((rd_T71 l0_0 x10_1).f0) ((rd_T71 l0_0 x10_1).f1) ((rd_T71 l0_0 x10_1).f2)) = some r := H
                have A12 := Aside0.mk A120
                clear A120
                have H' := Aside0.mk H
                clear H
                have hnb13 := NB1041_1038.out
                have hnc13 := NB1038_1041.out
                have hcz14_0 : w8.cell? ⟨gb1041, 0, none⟩ = some (.bool false) := (blk_cell BK1041.out 0).trans rfl
                have hcz14_1 : w8.cell? ⟨gb1041, 1, none⟩ = some (.int .i64 0) := (blk_cell BK1041.out 1).trans rfl
                have hcz14_2 : w8.cell? ⟨gb1041, 2, none⟩ = some (.slice none 0 0) := (blk_cell BK1041.out 2).trans rfl
                have hfz14_0 := blk_frozen BK1041.out 0
                have hfz14_1 := blk_frozen BK1041.out 1
                have hfz14_2 := blk_frozen BK1041.out 2
                go_wp2_with (first | (go_at_call 84; (with_reducible refine (impl_in.calls ((rd_T71 l0_0 x10_1).f1) 0 1000000000 t1042 _ A12.out).mono ?_); rintro e w' ⟨rfl, ⟨nd, rfl⟩⟩))
                go_meet
                case rel => exact ⟨_, (!t1042), (by first | rfl | (simp; done) | (simp [*]; done)), H', ⟨by have := HK1.out; first | omega | exact Nat.le_refl _⟩, ⟨by (with_reducible repeat (first | refine blk_drewN ?_ _ | refine blk_drew ?_ | refine blk_alloc ?_ _)); refine blk_far ?_ NB1038_1041.out _; (with_reducible repeat (first | refine blk_drewN ?_ _ | refine blk_drew ?_ | refine blk_alloc ?_ _)); refine blk_far ?_ NB1038_1041.out _; (with_reducible repeat (first | refine blk_drewN ?_ _ | refine blk_drew ?_ | refine blk_alloc ?_ _)); refine blk_far ?_ NB1038_1041.out _; (with_reducible repeat (first | refine blk_drewN ?_ _ | refine blk_drew ?_ | refine blk_alloc ?_ _)); exact BK1038.out⟩, ⟨by (with_reducible repeat (first | refine blk_drewN ?_ _ | refine blk_drew ?_ | refine blk_alloc ?_ _)); refine blk_put (cs := #[.bool ((rd_T71 l0_0 x10_1).f0), .int .i64 ((rd_T71 l0_0 x10_1).f1), .slice none 0 0]) ?_ 2 _ rfl; (with_reducible repeat (first | refine blk_drewN ?_ _ | refine blk_drew ?_ | refine blk_alloc ?_ _)); refine blk_put (cs := #[.bool ((rd_T71 l0_0 x10_1).f0), .int .i64 0, .slice none 0 0]) ?_ 1 _ rfl; (with_reducible repeat (first | refine blk_drewN ?_ _ | refine blk_drew ?_ | refine blk_alloc ?_ _)); refine blk_put (cs := #[.bool false, .int .i64 0, .slice none 0 0]) ?_ 0 _ rfl; (with_reducible repeat (first | refine blk_drewN ?_ _ | refine blk_drew ?_ | refine blk_alloc ?_ _)); exact BK1041.out⟩, ⟨by repeat (first | (with_reducible first | exact HB.out | apply below_alloc | apply pw_below_drewN | apply below_drew1 | refine below_set ?_ GE1038.out | refine below_set ?_ GE1041.out) | exact HB.out)⟩⟩
              · rw [if_neg c11] at H
                have c11b0 : ((((rd_T71 l0_0 x10_1).f2).length : Int) == 4) = false := beq_eq_false_iff_ne.mpr c11
                have c11b1 : ((((rd_T71 l0_0 x10_1).f2).length : Int) != 4) = true := bne_iff_ne.mpr c11
                (first | rw [c11b0] | (simp only [i64_w, i32_w]; rw [c11b0]) | skip)
                have H' := Aside0.mk H
                clear H
                have hnb15 := NB1041_1038.out
                have hnc15 := NB1038_1041.out
                have hcz16_0 : w8.cell? ⟨gb1041, 0, none⟩ = some (.bool false) := (blk_cell BK1041.out 0).trans rfl
                have hcz16_1 : w8.cell? ⟨gb1041, 1, none⟩ = some (.int .i64 0) := (blk_cell BK1041.out 1).trans rfl
                have hcz16_2 : w8.cell? ⟨gb1041, 2, none⟩ = some (.slice none 0 0) := (blk_cell BK1041.out 2).trans rfl
                have hfz16_0 := blk_frozen BK1041.out 0
                have hfz16_1 := blk_frozen BK1041.out 1
                have hfz16_2 := blk_frozen BK1041.out 2
                go_wp2
                go_meet
                case rel => exact ⟨_, (true), (by first | rfl | (simp; done) | (simp [*]; done)), H', ⟨by have := HK1.out; first | omega | exact Nat.le_refl _⟩, ⟨by (with_reducible repeat (first | refine blk_drewN ?_ _ | refine blk_drew ?_ | refine blk_alloc ?_ _)); refine blk_far ?_ NB1038_1041.out _; (with_reducible repeat (first | refine blk_drewN ?_ _ | refine blk_drew ?_ | refine blk_alloc ?_ _)); refine blk_far ?_ NB1038_1041.out _; (with_reducible repeat (first | refine blk_drewN ?_ _ | refine blk_drew ?_ | refine blk_alloc ?_ _)); refine blk_far ?_ NB1038_1041.out _; (with_reducible repeat (first | refine blk_drewN ?_ _ | refine blk_drew ?_ | refine blk_alloc ?_ _)); exact BK1038.out⟩, ⟨by (with_reducible repeat (first | refine blk_drewN ?_ _ | refine blk_drew ?_ | refine blk_alloc ?_ _)); refine blk_put (cs := #[.bool ((rd_T71 l0_0 x10_1).f0), .int .i64 ((rd_T71 l0_0 x10_1).f1), .slice none 0 0]) ?_ 2 _ rfl; (with_reducible repeat (first | refine blk_drewN ?_ _ | refine blk_drew ?_ | refine blk_alloc ?_ _)); refine blk_put (cs := #[.bool ((rd_T71 l0_0 x10_1).f0), .int .i64 0, .slice none 0 0]) ?_ 1 _ rfl; (with_reducible repeat (first | refine blk_drewN ?_ _ | refine blk_drew ?_ | refine blk_alloc ?_ _)); refine blk_put (cs := #[.bool false, .int .i64 0, .slice none 0 0]) ?_ 0 _ rfl; (with_reducible repeat (first | refine blk_drewN ?_ _ | refine blk_drew ?_ | refine blk_alloc ?_ _)); exact BK1041.out⟩, ⟨by repeat (first | (with_reducible first | exact HB.out | apply below_alloc | apply pw_below_drewN | apply below_drew1 | refine below_set ?_ GE1038.out | refine below_set ?_ GE1041.out) | exact HB.out)⟩⟩
            case rest =>
              clear HC7
              try clear c1
              try clear p1
              try clear q1
              try clear hx1
              try clear p2
              try clear c4
              try clear c4b0
              try clear c5
              try clear c5b0
              try clear c6
              try clear c6b0
              try clear c9
              try clear c10
              try clear p10
              try clear q10
              try clear hx10
              try clear c11
              try clear c11b0
              try clear c11b1
              try clear c13
              try clear c15
              try clear hcz10_0
              try clear hcz10_1
              try clear hcz10_2
              try clear hcz14_0
              try clear hcz14_1
              try clear hcz14_2
              try clear hcz16_0
              try clear hcz16_1
              try clear hcz16_2
              try clear hcz3_0
              try clear hfz10_0
              try clear hfz10_1
              try clear hfz10_2
              try clear hfz14_0
              try clear hfz14_1
              try clear hfz14_2
              try clear hfz16_0
              try clear hfz16_1
              try clear hfz16_2
              try clear hfz3_0
              try clear hx1040_0
              try clear hx1040_1
              try clear hx1040_2
              try clear p1040
              try clear p2
              try clear q1040
              obtain ⟨kq, x23_6, rfl, HA, HJ6, BK1038, BK1041, HB⟩ := hcut
              cases kq with
              | zero => exact absurd HA.out (by simp [impl_FlashOk.j1])
              | succ kj6 =>
                have H := HA.out
                clear HA
                simp only [impl_FlashOk.j1] at H
                by_cases c17 : x23_6 = true
                · subst c17
                  have H1 : (some false) = some r := by rw [if_pos rfl] at H; exact H
                  clear H
                  have H := H1
                  clear H1
                  obtain rfl := Option.some.inj H
                  go_wp2
                  go_ret
                  exact ⟨by first | rfl | (simp [errW_none, errW_some] <;> rfl) | (simp [*, errW_none, errW_some] <;> rfl), by repeat (first | (with_reducible first | exact HB.out | apply below_alloc | apply pw_below_drewN | apply below_drew1 | refine below_set ?_ GE1038.out | refine below_set ?_ GE1041.out) | exact HB.out)⟩
                · replace c17 := Bool.eq_false_iff.mpr c17
                  subst c17
                  have H1 : (impl_FlashOk.l1 kj6 l0_0 (l0_0.length : Int) x10_1 ((rd_T71 l0_0 x10_1).f2) (((rd_T71 l0_0 x10_1).f2).length : Int) 0 l0_0 ((rd_T71 l0_0 x10_1).f0) ((rd_T71 l0_0 x10_1).f1) ((rd_T71 l0_0 x10_1).f2)) = some r := by rw [if_neg (show ¬ (false = true) by decide)] at H; exact H
                  clear H
                  have H := H1
                  clear H1
                  have H' := Aside0.mk H
                  clear H
                  have hnb18 := NB1041_1038.out
                  have hnc18 := NB1038_1041.out
                  have hcz19_0 : wc.cell? ⟨gb1041, 0, none⟩ = some (.bool ((rd_T71 l0_0 x10_1).f0)) := (blk_cell BK1041.out 0).trans rfl
                  have hcz19_1 : wc.cell? ⟨gb1041, 1, none⟩ = some (.int .i64 ((rd_T71 l0_0 x10_1).f1)) := (blk_cell BK1041.out 1).trans rfl
                  have hcz19_2 : wc.cell? ⟨gb1041, 2, none⟩ = some (.slice A1040_2 ((rd_T71 l0_0 x10_1).f2).length c1040_2) := (blk_cell BK1041.out 2).trans rfl
                  have hfz19_0 := blk_frozen BK1041.out 0
                  have hfz19_1 := blk_frozen BK1041.out 1
                  have hfz19_2 := blk_frozen BK1041.out 2
                  go_wp2
                  go_loopg [27] kj6 (fun kq v27 w' => ∃ (x27_3 : Int), v27 = .int .i64 x27_3 ∧ Aside0 (impl_FlashOk.l1 kq l0_0 (l0_0.length : Int) x10_1 ((rd_T71 l0_0 x10_1).f2) (((rd_T71 l0_0 x10_1).f2).length : Int) x27_3 l0_0 ((rd_T71 l0_0 x10_1).f0) ((rd_T71 l0_0 x10_1).f1) ((rd_T71 l0_0 x10_1).f2) = some r) ∧ Aside0 (kq ≤ kj6) ∧ Aside0 (w'.heap[gb1038]? = some (.cells #[(.slice (some ad1040) l0_0.length c0_0)] 63 (0, 0))) ∧ Aside0 (w'.heap[gb1041]? = some (.cells #[.bool ((rd_T71 l0_0 x10_1).f0), .int .i64 ((rd_T71 l0_0 x10_1).f1), (.slice A1040_2 ((rd_T71 l0_0 x10_1).f2).length c1040_2)] 71 (0, 0))) ∧ Aside0 (Below w.heap.size w w'))
                  case atStart => exact ⟨(0), (by first | rfl | (simp; done) | (simp [*]; done)), H', ⟨Nat.le_refl _⟩, ⟨by (with_reducible repeat (first | refine blk_drewN ?_ _ | refine blk_drew ?_ | refine blk_alloc ?_ _)); exact BK1038.out⟩, ⟨by (with_reducible repeat (first | refine blk_drewN ?_ _ | refine blk_drew ?_ | refine blk_alloc ?_ _)); exact BK1041.out⟩, ⟨by repeat (first | (with_reducible first | exact HB.out | apply below_alloc | apply pw_below_drewN | apply below_drew1 | refine below_set ?_ GE1038.out | refine below_set ?_ GE1041.out) | exact HB.out)⟩⟩
                  case round =>
                    clear H'
                    try clear c1
                    try clear p1
                    try clear q1
                    try clear hx1
                    try clear p2
                    try clear c4
                    try clear c4b0
                    try clear c5
                    try clear c5b0
                    try clear c6
                    try clear c6b0
                    try clear c9
                    try clear c10
                    try clear p10
                    try clear q10
                    try clear hx10
                    try clear c11
                    try clear c11b0
                    try clear c11b1
                    try clear c13
                    try clear c15
                    try clear c17
                    try clear c18
                    try clear hcz10_0
                    try clear hcz10_1
                    try clear hcz10_2
                    try clear hcz14_0
                    try clear hcz14_1
                    try clear hcz14_2
                    try clear hcz16_0
                    try clear hcz16_1
                    try clear hcz16_2
                    try clear hcz19_0
                    try clear hcz19_1
                    try clear hcz19_2
                    try clear hcz3_0
                    try clear hfz10_0
                    try clear hfz10_1
                    try clear hfz10_2
                    try clear hfz14_0
                    try clear hfz14_1
                    try clear hfz14_2
                    try clear hfz16_0
                    try clear hfz16_1
                    try clear hfz16_2
                    try clear hfz19_0
                    try clear hfz19_1
                    try clear hfz19_2
                    try clear hfz3_0
                    try clear hx1040_0
                    try clear hx1040_1
                    try clear hx1040_2
                    try clear p1
                    try clear p10
                    try clear p1040
                    try clear p2
                    try clear q1
                    try clear q10
                    try clear q1040
                    obtain ⟨x27_3, rfl, HA, HK3, BK1038, BK1041, HB⟩ := hrel
                    cases gk with
                    | zero => exact absurd HA.out (by simp [impl_FlashOk.l1])
                    | succ k3 =>
                      have H := HA.out
                      clear HA
                      simp only [impl_FlashOk.l1] at H
                      by_cases c20 : x27_3 < (((rd_T71 l0_0 x10_1).f2).length : Int)
                      · rw [if_pos c20] at H
                        have c20b0 : decide (x27_3 < (((rd_T71 l0_0 x10_1).f2).length : Int)) = true := decide_eq_true c20
                        clear c20
                        by_cases c21 : 0 ≤ x27_3
                        · rw [if_pos c21] at H
                          have c21b0 : decide (0 ≤ x27_3) = true := decide_eq_true c21
                          clear c21
                          by_cases c22 : x27_3 < (((rd_T71 l0_0 x10_1).f2).length : Int)
                          · rw [if_pos c22] at H
                            have c22b0 : decide (x27_3 < (((rd_T71 l0_0 x10_1).f2).length : Int)) = true := decide_eq_true c22
                            clear c22
                            replace H := Option.bind_eq_some_iff.mp H
                            obtain ⟨t1045, A230, H⟩ := H
                            replace H : (if t1045 = true then (if x27_3 > 0 then (if 0 ≤ (wrap64 (x27_3 - 1)) then (if (wrap64 (x27_3 - 1)) < (((rd_T71 l0_0 x10_1).f2).length : Int) then (if ((rd_T142 ((rd_T71 l0_0 x10_1).f2) (wrap64 (x27_3 - 1))).f0) = 0 then (if ((rd_T142 ((rd_T71 l0_0 x10_1).f2) x27_3).f0) = 0 then (impl_FlashOk.l1 k3 l0_0 (l0_0.length : Int) x10_1 ((rd_T71 l0_0 x10_1).f2) (((rd_T71 l0_0 x10_1).f2).length : Int) (wrap64 (x27_3 + 1)) l0_0 ((rd_T71 l0_0 x10_1).f0) ((rd_T71 l0_0 x10_1).f1) ((rd_T71 l0_0 x10_1).f2)) else (some false)) else (impl_FlashOk.l1 k3 l0_0 (l0_0.length : Int) x10_1 ((rd_T71 l0_0 x10_1).f2) (((rd_T71 l0_0 x10_1).f2).length : Int) (wrap64 (x27_3 + 1)) l0_0 ((rd_T71 l0_0 x10_1).f0) ((rd_T71 l0_0 x10_1).f1) ((rd_T71 l0_0 x10_1).f2))) else (none)) else (none)) else (impl_FlashOk.l1 k3 l0_0 (l0_0.length : Int) x10_1 ((rd_T71 l0_0 x10_1).f2) (((rd_T71 l0_0 x10_1).f2).length : Int) (wrap64 (x27_3 + 1)) l0_0 ((rd_T71 l0_0 x10_1).f0) ((rd_T71 l0_0 x10_1).f1) ((rd_T71 l0_0 x10_1).f2))) else (some false)) = some r := H
                            have A23 := Aside0.mk A230
                            clear A230
                            by_cases c24 : t1045 = true
                            · subst c24
                              have H1 : (if x27_3 > 0 then (if 0 ≤ (wrap64 (x27_3 - 1)) then (if (wrap64 (x27_3 - 1)) < (((rd_T71 l0_0 x10_1).f2).length : Int) then (if ((rd_T142 ((rd_T71 l0_0 x10_1).f2) (wrap64 (x27_3 - 1))).f0) = 0 then (if ((rd_T142 ((rd_T71 l0_0 x10_1).f2) x27_3).f0) = 0 then (impl_FlashOk.l1 k3 l0_0 (l0_0.length : Int) x10_1 ((rd_T71 l0_0 x10_1).f2) (((rd_T71 l0_0 x10_1).f2).length : Int) (wrap64 (x27_3 + 1)) l0_0 ((rd_T71 l0_0 x10_1).f0) ((rd_T71 l0_0 x10_1).f1) ((rd_T71 l0_0 x10_1).f2)) else (some false)) else (impl_FlashOk.l1 k3 l0_0 (l0_0.length : Int) x10_1 ((rd_T71 l0_0 x10_1).f2) (((rd_T71 l0_0 x10_1).f2).length : Int) (wrap64 (x27_3 + 1)) l0_0 ((rd_T71 l0_0 x10_1).f0) ((rd_T71 l0_0 x10_1).f1) ((rd_T71 l0_0 x10_1).f2))) else (none)) else (none)) else (impl_FlashOk.l1 k3 l0_0 (l0_0.length : Int) x10_1 ((rd_T71 l0_0 x10_1).f2) (((rd_T71 l0_0 x10_1).f2).length : Int) (wrap64 (x27_3 + 1)) l0_0 ((rd_T71 l0_0 x10_1).f0) ((rd_T71 l0_0 x10_1).f1) ((rd_T71 l0_0 x10_1).f2))) = some r := by rw [if_pos rfl] at H; exact H
                              clear H
                              have H := H1
                              clear H1
                              by_cases c25 : x27_3 > 0
                              · rw [if_pos c25] at H
                                have c25b0 : decide (0 < x27_3) = true := decide_eq_true c25
                                clear c25
                                obtain ⟨ji26, hji26⟩ : ∃ j_ : Int, (wrap64 (x27_3 - 1)) = j_ := ⟨_, rfl⟩
                                replace H : (if 0 ≤ (ji26) then (if (ji26) < (((rd_T71 l0_0 x10_1).f2).length : Int) then (if ((rd_T142 ((rd_T71 l0_0 x10_1).f2) (ji26)).f0) = 0 then (if ((rd_T142 ((rd_T71 l0_0 x10_1).f2) x27_3).f0) = 0 then (impl_FlashOk.l1 k3 l0_0 (l0_0.length : Int) x10_1 ((rd_T71 l0_0 x10_1).f2) (((rd_T71 l0_0 x10_1).f2).length : Int) (wrap64 (x27_3 + 1)) l0_0 ((rd_T71 l0_0 x10_1).f0) ((rd_T71 l0_0 x10_1).f1) ((rd_T71 l0_0 x10_1).f2)) else (some false)) else (impl_FlashOk.l1 k3 l0_0 (l0_0.length : Int) x10_1 ((rd_T71 l0_0 x10_1).f2) (((rd_T71 l0_0 x10_1).f2).length : Int) (wrap64 (x27_3 + 1)) l0_0 ((rd_T71 l0_0 x10_1).f0) ((rd_T71 l0_0 x10_1).f1) ((rd_T71 l0_0 x10_1).f2))) else (none)) else (none)) = some r := by first | (rw [hji26] at H; exact H) | (simp only [hji26] at H ⊢; exact H)
                                (try rw [hji26] at A23)
                                have hji26w : (IntKind.i64.wrap (x27_3 - 1)) = ji26 := (i64_w _).trans hji26
                                by_cases c27 : 0 ≤ (ji26)
                                · rw [if_pos c27] at H
                                  have c27b0 : decide (0 ≤ (ji26)) = true := decide_eq_true c27
                                  clear c27
                                  by_cases c28 : (ji26) < (((rd_T71 l0_0 x10_1).f2).length : Int)
                                  · rw [if_pos c28] at H
                                    have c28b0 : decide ((ji26) < (((rd_T71 l0_0 x10_1).f2).length : Int)) = true := decide_eq_true c28
                                    clear c28
                                    by_cases c29 : ((rd_T142 ((rd_T71 l0_0 x10_1).f2) (ji26)).f0) = 0
                                    · rw [if_pos c29] at H
                                      have c29b0 : (((rd_T142 ((rd_T71 l0_0 x10_1).f2) (ji26)).f0) == 0) = true := beq_iff_eq.mpr c29
                                      have c29b1 : (((rd_T142 ((rd_T71 l0_0 x10_1).f2) (ji26)).f0) != 0) = false := bne_eq_false_iff_eq.mpr c29
                                      clear c29
                                      by_cases c30 : ((rd_T142 ((rd_T71 l0_0 x10_1).f2) x27_3).f0) = 0
                                      · rw [if_pos c30] at H
                                        have c30b0 : (((rd_T142 ((rd_T71 l0_0 x10_1).f2) x27_3).f0) == 0) = true := beq_iff_eq.mpr c30
                                        have c30b1 : (((rd_T142 ((rd_T71 l0_0 x10_1).f2) x27_3).f0) != 0) = false := bne_eq_false_iff_eq.mpr c30
                                        clear c30
                                        have H' := Aside0.mk H
                                        clear H
                                        have p1043 : 0 ≤ (x27_3 : Int) := of_decide_eq_true (by first | (with_reducible assumption) | assumption)
                                        have q1043 : x27_3 < (((rd_T71 l0_0 x10_1).f2).length : Int) := of_decide_eq_true (by first | (with_reducible assumption) | assumption)
                                        obtain ⟨ad1043, e1043, hx1043_0, hx1043_1⟩ := at_T142 HR1040_2.out x27_3 p1043 q1043
                                        cases e1043
                                        replace hx1043_0 := (HB.out.cell (World.block_lt_of_cell? w _ hx1043_0)).trans hx1043_0
                                        replace hx1043_1 := (HB.out.cell (World.block_lt_of_cell? w _ hx1043_1)).trans hx1043_1
                                        replace p1043 := eq_true p1043
                                        replace q1043 := eq_true q1043
                                        go_wp2_with (first | ((with_reducible refine gate_dst (N := 6) rfl ?_); refine box_event ?hg (N := 6) ?hd (cs := #[.int .i64 0, .string (⟨#[]⟩ : ByteArray)]) (t := 142) ?hr ?_; (case hd => rfl); (case hg => rfl); (case hr => first | (go_simp; done) | (go_simp; rfl)); intro gb1044 hg w31 hbox hb; have n0_ := Aside0.mk (blk_below (g := gb1038) (o := .cells #[.slice (some ad1040) l0_0.length c0_0] 63 (0, 0)) (by (with_reducible repeat (first | refine blk_drewN ?_ _ | refine blk_drew ?_ | refine blk_alloc ?_ _)); exact BK1038.out) hb); have n1_ := Aside0.mk (blk_below (g := gb1041) (o := .cells #[.bool ((rd_T71 l0_0 x10_1).f0), .int .i64 ((rd_T71 l0_0 x10_1).f1), .slice (some ad1043) ((rd_T71 l0_0 x10_1).f2).length c1040_2] 71 (0, 0)) (by (with_reducible repeat (first | refine blk_drewN ?_ _ | refine blk_drew ?_ | refine blk_alloc ?_ _)); exact BK1041.out) hb); have n2_ := Aside0.mk (below_step (by repeat (first | (with_reducible first | exact HB.out | apply below_alloc | apply pw_below_drewN | apply below_drew1 | refine below_set ?_ GE1038.out | refine below_set ?_ GE1041.out) | exact HB.out)) hb); have n3_ := Aside0.mk (hbox); have n4_ := Aside0.mk ((by rw [hg]; exact (below_size (by repeat (first | (with_reducible first | exact HB.out | apply below_alloc | apply pw_below_drewN | apply below_drew1 | refine below_set ?_ GE1038.out | refine below_set ?_ GE1041.out) | exact HB.out))) : w.heap.size ≤ gb1044)); have n5_ := Aside0.mk ((by rw [hg]; exact (below_size (by repeat (first | (with_reducible first | exact HB.out | apply below_alloc | apply pw_below_drewN | apply below_drew1 | refine below_set ?_ GE1038.out | refine below_set ?_ GE1041.out) | exact HB.out))) : w.heap.size ≤ gb1044)); have n6_ := Aside0.mk ((by rw [hg]; exact Nat.ne_of_lt (blk_lt (g := gb1038) (o := .cells #[.slice (some ad1040) l0_0.length c0_0] 63 (0, 0)) (by (with_reducible repeat (first | refine blk_drewN ?_ _ | refine blk_drew ?_ | refine blk_alloc ?_ _)); exact BK1038.out)) : gb1038 ≠ gb1044)); have n7_ := Aside0.mk ((by rw [hg]; exact Nat.ne_of_gt (blk_lt (g := gb1038) (o := .cells #[.slice (some ad1040) l0_0.length c0_0] 63 (0, 0)) (by (with_reducible repeat (first | refine blk_drewN ?_ _ | refine blk_drew ?_ | refine blk_alloc ?_ _)); exact BK1038.out)) : gb1044 ≠ gb1038)); have n8_ := Aside0.mk ((by rw [hg]; exact Nat.ne_of_lt (blk_lt (g := gb1041) (o := .cells #[.bool ((rd_T71 l0_0 x10_1).f0), .int .i64 ((rd_T71 l0_0 x10_1).f1), .slice (some ad1043) ((rd_T71 l0_0 x10_1).f2).length c1040_2] 71 (0, 0)) (by (with_reducible repeat (first | refine blk_drewN ?_ _ | refine blk_drew ?_ | refine blk_alloc ?_ _)); exact BK1041.out)) : gb1041 ≠ gb1044)); have n9_ := Aside0.mk ((by rw [hg]; exact Nat.ne_of_gt (blk_lt (g := gb1041) (o := .cells #[.bool ((rd_T71 l0_0 x10_1).f0), .int .i64 ((rd_T71 l0_0 x10_1).f1), .slice (some ad1043) ((rd_T71 l0_0 x10_1).f2).length c1040_2] 71 (0, 0)) (by (with_reducible repeat (first | refine blk_drewN ?_ _ | refine blk_drew ?_ | refine blk_alloc ?_ _)); exact BK1041.out)) : gb1044 ≠ gb1041)); clear BK1038; clear BK1041; clear HB; have BK1038 := n0_; have BK1041 := n1_; have HB := n2_; have BK1044 := n3_; have GW1044 := n4_; have GE1044 := n5_; have NB1038_1044 := n6_; have NB1044_1038 := n7_; have NB1041_1044 := n8_; have NB1044_1041 := n9_; clear n0_ n1_ n2_ n3_ n4_ n5_ n6_ n7_ n8_ n9_; clear hb hbox hg; have hnb32 := NB1044_1038.out; have hnc32 := NB1038_1044.out; have hnb33 := NB1044_1041.out; have hnc33 := NB1041_1044.out; have hcz34_0 : w31.cell? ⟨gb1044, 0, none⟩ = some (.int .i64 0) := (blk_cell BK1044.out 0).trans rfl; have hcz34_1 : w31.cell? ⟨gb1044, 1, none⟩ = some (.string (⟨#[]⟩ : ByteArray)) := (blk_cell BK1044.out 1).trans rfl; have hfz34_0 := blk_frozen BK1044.out 0; have hfz34_1 := blk_frozen BK1044.out 1) | ((with_reducible refine gate_callee (f := 150) rfl ?_); refine goesL_ (some 33) rfl rfl Try.func150 (by kernel_rfl) rfl #[.agg #[.int .i64 ((rd_T142 ((rd_T71 l0_0 x10_1).f2) x27_3).f0), .string ((rd_T142 ((rd_T71 l0_0 x10_1).f2) x27_3).f1)]] rfl (by (try simp only [List.map_toArray, List.map_cons, List.map_nil]); first | done | rfl | (simp only [List.length_drop, List.length_take]; rfl)) ?_; (with_reducible refine (impl_leafOk.calls ((rd_T142 ((rd_T71 l0_0 x10_1).f2) x27_3).f0) ((rd_T142 ((rd_T71 l0_0 x10_1).f2) x27_3).f1) true _ A23.out).mono ?_); rintro e w35 ⟨rfl, hb⟩; refine ⟨_, rfl, ?_⟩; have n0_ := Aside0.mk (blk_below (g := gb1038) (o := .cells #[.slice (some ad1040) l0_0.length c0_0] 63 (0, 0)) (by (with_reducible repeat (first | refine blk_drewN ?_ _ | refine blk_drew ?_ | refine blk_alloc ?_ _)); refine blk_far ?_ NB1038_1044.out _; (with_reducible repeat (first | refine blk_drewN ?_ _ | refine blk_drew ?_ | refine blk_alloc ?_ _)); refine blk_far ?_ NB1038_1044.out _; (with_reducible repeat (first | refine blk_drewN ?_ _ | refine blk_drew ?_ | refine blk_alloc ?_ _)); exact BK1038.out) hb); have n1_ := Aside0.mk (blk_below (g := gb1041) (o := .cells #[.bool ((rd_T71 l0_0 x10_1).f0), .int .i64 ((rd_T71 l0_0 x10_1).f1), .slice (some ad1043) ((rd_T71 l0_0 x10_1).f2).length c1040_2] 71 (0, 0)) (by (with_reducible repeat (first | refine blk_drewN ?_ _ | refine blk_drew ?_ | refine blk_alloc ?_ _)); refine blk_far ?_ NB1041_1044.out _; (with_reducible repeat (first | refine blk_drewN ?_ _ | refine blk_drew ?_ | refine blk_alloc ?_ _)); refine blk_far ?_ NB1041_1044.out _; (with_reducible repeat (first | refine blk_drewN ?_ _ | refine blk_drew ?_ | refine blk_alloc ?_ _)); exact BK1041.out) hb); have n2_ := Aside0.mk (blk_below (g := gb1044) (o := .cells #[.int .i64 ((rd_T142 ((rd_T71 l0_0 x10_1).f2) x27_3).f0), .string ((rd_T142 ((rd_T71 l0_0 x10_1).f2) x27_3).f1)] 142 (0, 0)) (by (with_reducible repeat (first | refine blk_drewN ?_ _ | refine blk_drew ?_ | refine blk_alloc ?_ _)); refine blk_put (cs := #[.int .i64 ((rd_T142 ((rd_T71 l0_0 x10_1).f2) x27_3).f0), .string (⟨#[]⟩ : ByteArray)]) ?_ 1 _ rfl; (with_reducible repeat (first | refine blk_drewN ?_ _ | refine blk_drew ?_ | refine blk_alloc ?_ _)); refine blk_put (cs := #[.int .i64 0, .string (⟨#[]⟩ : ByteArray)]) ?_ 0 _ rfl; (with_reducible repeat (first | refine blk_drewN ?_ _ | refine blk_drew ?_ | refine blk_alloc ?_ _)); exact BK1044.out) hb); have n3_ := Aside0.mk (below_step (by repeat (first | (with_reducible first | exact HB.out | apply below_alloc | apply pw_below_drewN | apply below_drew1 | refine below_set ?_ GE1038.out | refine below_set ?_ GE1041.out | refine below_set ?_ GE1044.out) | exact HB.out)) hb); clear BK1038; clear BK1041; clear BK1044; clear HB; have BK1038 := n0_; have BK1041 := n1_; have BK1044 := n2_; have HB := n3_; clear n0_ n1_ n2_ n3_; (try clear hb); (try clear hb2); (try clear hk); (try clear hi); have hnb36 := NB1041_1038.out; have hnc36 := NB1038_1041.out; have hcz37_0 : w35.cell? ⟨gb1041, 0, none⟩ = some (.bool ((rd_T71 l0_0 x10_1).f0)) := (blk_cell BK1041.out 0).trans rfl; have hcz37_1 : w35.cell? ⟨gb1041, 1, none⟩ = some (.int .i64 ((rd_T71 l0_0 x10_1).f1)) := (blk_cell BK1041.out 1).trans rfl; have hcz37_2 : w35.cell? ⟨gb1041, 2, none⟩ = some (.slice (some ad1043) ((rd_T71 l0_0 x10_1).f2).length c1040_2) := (blk_cell BK1041.out 2).trans rfl; have hfz37_0 := blk_frozen BK1041.out 0; have hfz37_1 := blk_frozen BK1041.out 1; have hfz37_2 := blk_frozen BK1041.out 2; have p1046 : 0 ≤ ((ji26) : Int) := of_decide_eq_true (by first | (with_reducible assumption) | assumption); have q1046 : (ji26) < (((rd_T71 l0_0 x10_1).f2).length : Int) := of_decide_eq_true (by first | (with_reducible assumption) | assumption); obtain ⟨ad1046, e1046, hx1046_0, hx1046_1⟩ := at_T142 HR1040_2.out (ji26) p1046 q1046; obtain rfl : ad1043 = ad1046 := (by injection e1046); replace hx1046_0 := (HB.out.cell (World.block_lt_of_cell? w _ hx1046_0)).trans hx1046_0; replace hx1046_1 := (HB.out.cell (World.block_lt_of_cell? w _ hx1046_1)).trans hx1046_1; replace p1046 := eq_true p1046; replace q1046 := eq_true q1046; have hcz38_0 : w35.cell? ⟨gb1044, 0, none⟩ = some (.int .i64 ((rd_T142 ((rd_T71 l0_0 x10_1).f2) x27_3).f0)) := (blk_cell BK1044.out 0).trans rfl; have hcz38_1 : w35.cell? ⟨gb1044, 1, none⟩ = some (.string ((rd_T142 ((rd_T71 l0_0 x10_1).f2) x27_3).f1)) := (blk_cell BK1044.out 1).trans rfl; have hfz38_0 := blk_frozen BK1044.out 0; have hfz38_1 := blk_frozen BK1044.out 1))
                                        go_roundg k3
                                        case measure => have := HK1.out; have := HJ6.out; have := HK3.out; omega
                                        case rel => exact ⟨(wrap64 (x27_3 + 1)), (by first | rfl | (simp; done) | (simp [*]; done)), H', ⟨by have := HK1.out; have := HJ6.out; have := HK3.out; omega⟩, ⟨by (with_reducible repeat (first | refine blk_drewN ?_ _ | refine blk_drew ?_ | refine blk_alloc ?_ _)); exact BK1038.out⟩, ⟨by (with_reducible repeat (first | refine blk_drewN ?_ _ | refine blk_drew ?_ | refine blk_alloc ?_ _)); exact BK1041.out⟩, ⟨by repeat (first | (with_reducible first | exact HB.out | apply below_alloc | apply pw_below_drewN | apply below_drew1 | refine below_set ?_ GE1038.out | refine below_set ?_ GE1041.out | refine below_set ?_ GE1044.out) | exact HB.out)⟩⟩
                                      · rw [if_neg c30] at H
                                        have c30b0 : (((rd_T142 ((rd_T71 l0_0 x10_1).f2) x27_3).f0) == 0) = false := beq_eq_false_iff_ne.mpr c30
                                        have c30b1 : (((rd_T142 ((rd_T71 l0_0 x10_1).f2) x27_3).f0) != 0) = true := bne_iff_ne.mpr c30
                                        obtain rfl := Option.some.inj H
                                        have p1043 : 0 ≤ (x27_3 : Int) := of_decide_eq_true (by first | (with_reducible assumption) | assumption)
                                        have q1043 : x27_3 < (((rd_T71 l0_0 x10_1).f2).length : Int) := of_decide_eq_true (by first | (with_reducible assumption) | assumption)
                                        obtain ⟨ad1043, e1043, hx1043_0, hx1043_1⟩ := at_T142 HR1040_2.out x27_3 p1043 q1043
                                        cases e1043
                                        replace hx1043_0 := (HB.out.cell (World.block_lt_of_cell? w _ hx1043_0)).trans hx1043_0
                                        replace hx1043_1 := (HB.out.cell (World.block_lt_of_cell? w _ hx1043_1)).trans hx1043_1
                                        replace p1043 := eq_true p1043
                                        replace q1043 := eq_true q1043
                                        go_wp2_with (first | ((with_reducible refine gate_dst (N := 6) rfl ?_); refine box_event ?hg (N := 6) ?hd (cs := #[.int .i64 0, .string (⟨#[]⟩ : ByteArray)]) (t := 142) ?hr ?_; (case hd => rfl); (case hg => rfl); (case hr => first | (go_simp; done) | (go_simp; rfl)); intro gb1044 hg w39 hbox hb; have n0_ := Aside0.mk (blk_below (g := gb1038) (o := .cells #[.slice (some ad1040) l0_0.length c0_0] 63 (0, 0)) (by (with_reducible repeat (first | refine blk_drewN ?_ _ | refine blk_drew ?_ | refine blk_alloc ?_ _)); exact BK1038.out) hb); have n1_ := Aside0.mk (blk_below (g := gb1041) (o := .cells #[.bool ((rd_T71 l0_0 x10_1).f0), .int .i64 ((rd_T71 l0_0 x10_1).f1), .slice (some ad1043) ((rd_T71 l0_0 x10_1).f2).length c1040_2] 71 (0, 0)) (by (with_reducible repeat (first | refine blk_drewN ?_ _ | refine blk_drew ?_ | refine blk_alloc ?_ _)); exact BK1041.out) hb); have n2_ := Aside0.mk (below_step (by repeat (first | (with_reducible first | exact HB.out | apply below_alloc | apply pw_below_drewN | apply below_drew1 | refine below_set ?_ GE1038.out | refine below_set ?_ GE1041.out) | exact HB.out)) hb); have n3_ := Aside0.mk (hbox); have n4_ := Aside0.mk ((by rw [hg]; exact (below_size (by repeat (first | (with_reducible first | exact HB.out | apply below_alloc | apply pw_below_drewN | apply below_drew1 | refine below_set ?_ GE1038.out | refine below_set ?_ GE1041.out) | exact HB.out))) : w.heap.size ≤ gb1044)); have n5_ := Aside0.mk ((by rw [hg]; exact (below_size (by repeat (first | (with_reducible first | exact HB.out | apply below_alloc | apply pw_below_drewN | apply below_drew1 | refine below_set ?_ GE1038.out | refine below_set ?_ GE1041.out) | exact HB.out))) : w.heap.size ≤ gb1044)); have n6_ := Aside0.mk ((by rw [hg]; exact Nat.ne_of_lt (blk_lt (g := gb1038) (o := .cells #[.slice (some ad1040) l0_0.length c0_0] 63 (0, 0)) (by (with_reducible repeat (first | refine blk_drewN ?_ _ | refine blk_drew ?_ | refine blk_alloc ?_ _)); exact BK1038.out)) : gb1038 ≠ gb1044)); have n7_ := Aside0.mk ((by rw [hg]; exact Nat.ne_of_gt (blk_lt (g := gb1038) (o := .cells #[.slice (some ad1040) l0_0.length c0_0] 63 (0, 0)) (by (with_reducible repeat (first | refine blk_drewN ?_ _ | refine blk_drew ?_ | refine blk_alloc ?_ _)); exact BK1038.out)) : gb1044 ≠ gb1038)); have n8_ := Aside0.mk ((by rw [hg]; exact Nat.ne_of_lt (blk_lt (g := gb1041) (o := .cells #[.bool ((rd_T71 l0_0 x10_1).f0), .int .i64 ((rd_T71 l0_0 x10_1).f1), .slice (some ad1043) ((rd_T71 l0_0 x10_1).f2).length c1040_2] 71 (0, 0)) (by (with_reducible repeat (first | refine blk_drewN ?_ _ | refine blk_drew ?_ | refine blk_alloc ?_ _)); exact BK1041.out)) : gb1041 ≠ gb1044)); have n9_ := Aside0.mk ((by rw [hg]; exact Nat.ne_of_gt (blk_lt (g := gb1041) (o := .cells #[.bool ((rd_T71 l0_0 x10_1).f0), .int .i64 ((rd_T71 l0_0 x10_1).f1), .slice (some ad1043) ((rd_T71 l0_0 x10_1).f2).length c1040_2] 71 (0, 0)) (by (with_reducible repeat (first | refine blk_drewN ?_ _ | refine blk_drew ?_ | refine blk_alloc ?_ _)); exact BK1041.out)) : gb1044 ≠ gb1041)); clear BK1038; clear BK1041; clear HB; have BK1038 := n0_; have BK1041 := n1_; have HB := n2_; have BK1044 := n3_; have GW1044 := n4_; have GE1044 := n5_; have NB1038_1044 := n6_; have NB1044_1038 := n7_; have NB1041_1044 := n8_; have NB1044_1041 := n9_; clear n0_ n1_ n2_ n3_ n4_ n5_ n6_ n7_ n8_ n9_; clear hb hbox hg; have hnb40 := NB1044_1038.out; have hnc40 := NB1038_1044.out; have hnb41 := NB1044_1041.out; have hnc41 := NB1041_1044.out; have hcz42_0 : w39.cell? ⟨gb1044, 0, none⟩ = some (.int .i64 0) := (blk_cell BK1044.out 0).trans rfl; have hcz42_1 : w39.cell? ⟨gb1044, 1, none⟩ = some (.string (⟨#[]⟩ : ByteArray)) := (blk_cell BK1044.out 1).trans rfl; have hfz42_0 := blk_frozen BK1044.out 0; have hfz42_1 := blk_frozen BK1044.out 1) | ((with_reducible refine gate_callee (f := 150) rfl ?_); refine goesL_ (some 33) rfl rfl Try.func150 (by kernel_rfl) rfl #[.agg #[.int .i64 ((rd_T142 ((rd_T71 l0_0 x10_1).f2) x27_3).f0), .string ((rd_T142 ((rd_T71 l0_0 x10_1).f2) x27_3).f1)]] rfl (by (try simp only [List.map_toArray, List.map_cons, List.map_nil]); first | done | rfl | (simp only [List.length_drop, List.length_take]; rfl)) ?_; (with_reducible refine (impl_leafOk.calls ((rd_T142 ((rd_T71 l0_0 x10_1).f2) x27_3).f0) ((rd_T142 ((rd_T71 l0_0 x10_1).f2) x27_3).f1) true _ A23.out).mono ?_); rintro e w43 ⟨rfl, hb⟩; refine ⟨_, rfl, ?_⟩; have n0_ := Aside0.mk (blk_below (g := gb1038) (o := .cells #[.slice (some ad1040) l0_0.length c0_0] 63 (0, 0)) (by (with_reducible repeat (first | refine blk_drewN ?_ _ | refine blk_drew ?_ | refine blk_alloc ?_ _)); refine blk_far ?_ NB1038_1044.out _; (with_reducible repeat (first | refine blk_drewN ?_ _ | refine blk_drew ?_ | refine blk_alloc ?_ _)); refine blk_far ?_ NB1038_1044.out _; (with_reducible repeat (first | refine blk_drewN ?_ _ | refine blk_drew ?_ | refine blk_alloc ?_ _)); exact BK1038.out) hb); have n1_ := Aside0.mk (blk_below (g := gb1041) (o := .cells #[.bool ((rd_T71 l0_0 x10_1).f0), .int .i64 ((rd_T71 l0_0 x10_1).f1), .slice (some ad1043) ((rd_T71 l0_0 x10_1).f2).length c1040_2] 71 (0, 0)) (by (with_reducible repeat (first | refine blk_drewN ?_ _ | refine blk_drew ?_ | refine blk_alloc ?_ _)); refine blk_far ?_ NB1041_1044.out _; (with_reducible repeat (first | refine blk_drewN ?_ _ | refine blk_drew ?_ | refine blk_alloc ?_ _)); refine blk_far ?_ NB1041_1044.out _; (with_reducible repeat (first | refine blk_drewN ?_ _ | refine blk_drew ?_ | refine blk_alloc ?_ _)); exact BK1041.out) hb); have n2_ := Aside0.mk (blk_below (g := gb1044) (o := .cells #[.int .i64 ((rd_T142 ((rd_T71 l0_0 x10_1).f2) x27_3).f0), .string ((rd_T142 ((rd_T71 l0_0 x10_1).f2) x27_3).f1)] 142 (0, 0)) (by (with_reducible repeat (first | refine blk_drewN ?_ _ | refine blk_drew ?_ | refine blk_alloc ?_ _)); refine blk_put (cs := #[.int .i64 ((rd_T142 ((rd_T71 l0_0 x10_1).f2) x27_3).f0), .string (⟨#[]⟩ : ByteArray)]) ?_ 1 _ rfl; (with_reducible repeat (first | refine blk_drewN ?_ _ | refine blk_drew ?_ | refine blk_alloc ?_ _)); refine blk_put (cs := #[.int .i64 0, .string (⟨#[]⟩ : ByteArray)]) ?_ 0 _ rfl; (with_reducible repeat (first | refine blk_drewN ?_ _ | refine blk_drew ?_ | refine blk_alloc ?_ _)); exact BK1044.out) hb); have n3_ := Aside0.mk (below_step (by repeat (first | (with_reducible first | exact HB.out | apply below_alloc | apply pw_below_drewN | apply below_drew1 | refine below_set ?_ GE1038.out | refine below_set ?_ GE1041.out | refine below_set ?_ GE1044.out) | exact HB.out)) hb); clear BK1038; clear BK1041; clear BK1044; clear HB; have BK1038 := n0_; have BK1041 := n1_; have BK1044 := n2_; have HB := n3_; clear n0_ n1_ n2_ n3_; (try clear hb); (try clear hb2); (try clear hk); (try clear hi); have hnb44 := NB1041_1038.out; have hnc44 := NB1038_1041.out; have hcz45_0 : w43.cell? ⟨gb1041, 0, none⟩ = some (.bool ((rd_T71 l0_0 x10_1).f0)) := (blk_cell BK1041.out 0).trans rfl; have hcz45_1 : w43.cell? ⟨gb1041, 1, none⟩ = some (.int .i64 ((rd_T71 l0_0 x10_1).f1)) := (blk_cell BK1041.out 1).trans rfl; have hcz45_2 : w43.cell? ⟨gb1041, 2, none⟩ = some (.slice (some ad1043) ((rd_T71 l0_0 x10_1).f2).length c1040_2) := (blk_cell BK1041.out 2).trans rfl; have hfz45_0 := blk_frozen BK1041.out 0; have hfz45_1 := blk_frozen BK1041.out 1; have hfz45_2 := blk_frozen BK1041.out 2; have p1046 : 0 ≤ ((ji26) : Int) := of_decide_eq_true (by first | (with_reducible assumption) | assumption); have q1046 : (ji26) < (((rd_T71 l0_0 x10_1).f2).length : Int) := of_decide_eq_true (by first | (with_reducible assumption) | assumption); obtain ⟨ad1046, e1046, hx1046_0, hx1046_1⟩ := at_T142 HR1040_2.out (ji26) p1046 q1046; obtain rfl : ad1043 = ad1046 := (by injection e1046); replace hx1046_0 := (HB.out.cell (World.block_lt_of_cell? w _ hx1046_0)).trans hx1046_0; replace hx1046_1 := (HB.out.cell (World.block_lt_of_cell? w _ hx1046_1)).trans hx1046_1; replace p1046 := eq_true p1046; replace q1046 := eq_true q1046; have hcz46_0 : w43.cell? ⟨gb1044, 0, none⟩ = some (.int .i64 ((rd_T142 ((rd_T71 l0_0 x10_1).f2) x27_3).f0)) := (blk_cell BK1044.out 0).trans rfl; have hcz46_1 : w43.cell? ⟨gb1044, 1, none⟩ = some (.string ((rd_T142 ((rd_T71 l0_0 x10_1).f2) x27_3).f1)) := (blk_cell BK1044.out 1).trans rfl; have hfz46_0 := blk_frozen BK1044.out 0; have hfz46_1 := blk_frozen BK1044.out 1))
                                        go_ret
                                        exact ⟨by first | rfl | (simp [errW_none, errW_some] <;> rfl) | (simp only [← hji26]; first | rfl | (simp [errW_none, errW_some] <;> rfl)) | (simp [*, errW_none, errW_some] <;> rfl), by repeat (first | (with_reducible first | exact HB.out | apply below_alloc | apply pw_below_drewN | apply below_drew1 | refine below_set ?_ GE1038.out | refine below_set ?_ GE1041.out | refine below_set ?_ GE1044.out) | exact HB.out)⟩
                                    · rw [if_neg c29] at H
                                      have c29b0 : (((rd_T142 ((rd_T71 l0_0 x10_1).f2) (ji26)).f0) == 0) = false := beq_eq_false_iff_ne.mpr c29
                                      have c29b1 : (((rd_T142 ((rd_T71 l0_0 x10_1).f2) (ji26)).f0) != 0) = true := bne_iff_ne.mpr c29
                                      have H' := Aside0.mk H
                                      clear H
                                      have p1043 : 0 ≤ (x27_3 : Int) := of_decide_eq_true (by first | (with_reducible assumption) | assumption)
                                      have q1043 : x27_3 < (((rd_T71 l0_0 x10_1).f2).length : Int) := of_decide_eq_true (by first | (with_reducible assumption) | assumption)
                                      obtain ⟨ad1043, e1043, hx1043_0, hx1043_1⟩ := at_T142 HR1040_2.out x27_3 p1043 q1043
                                      cases e1043
                                      replace hx1043_0 := (HB.out.cell (World.block_lt_of_cell? w _ hx1043_0)).trans hx1043_0
                                      replace hx1043_1 := (HB.out.cell (World.block_lt_of_cell? w _ hx1043_1)).trans hx1043_1
                                      replace p1043 := eq_true p1043
                                      replace q1043 := eq_true q1043
                                      go_wp2_with (first | ((with_reducible refine gate_dst (N := 6) rfl ?_); refine box_event ?hg (N := 6) ?hd (cs := #[.int .i64 0, .string (⟨#[]⟩ : ByteArray)]) (t := 142) ?hr ?_; (case hd => rfl); (case hg => rfl); (case hr => first | (go_simp; done) | (go_simp; rfl)); intro gb1044 hg w47 hbox hb; have n0_ := Aside0.mk (blk_below (g := gb1038) (o := .cells #[.slice (some ad1040) l0_0.length c0_0] 63 (0, 0)) (by (with_reducible repeat (first | refine blk_drewN ?_ _ | refine blk_drew ?_ | refine blk_alloc ?_ _)); exact BK1038.out) hb); have n1_ := Aside0.mk (blk_below (g := gb1041) (o := .cells #[.bool ((rd_T71 l0_0 x10_1).f0), .int .i64 ((rd_T71 l0_0 x10_1).f1), .slice (some ad1043) ((rd_T71 l0_0 x10_1).f2).length c1040_2] 71 (0, 0)) (by (with_reducible repeat (first | refine blk_drewN ?_ _ | refine blk_drew ?_ | refine blk_alloc ?_ _)); exact BK1041.out) hb); have n2_ := Aside0.mk (below_step (by repeat (first | (with_reducible first | exact HB.out | apply below_alloc | apply pw_below_drewN | apply below_drew1 | refine below_set ?_ GE1038.out | refine below_set ?_ GE1041.out) | exact HB.out)) hb); have n3_ := Aside0.mk (hbox); have n4_ := Aside0.mk ((by rw [hg]; exact (below_size (by repeat (first | (with_reducible first | exact HB.out | apply below_alloc | apply pw_below_drewN | apply below_drew1 | refine below_set ?_ GE1038.out | refine below_set ?_ GE1041.out) | exact HB.out))) : w.heap.size ≤ gb1044)); have n5_ := Aside0.mk ((by rw [hg]; exact (below_size (by repeat (first | (with_reducible first | exact HB.out | apply below_alloc | apply pw_below_drewN | apply below_drew1 | refine below_set ?_ GE1038.out | refine below_set ?_ GE1041.out) | exact HB.out))) : w.heap.size ≤ gb1044)); have n6_ := Aside0.mk ((by rw [hg]; exact Nat.ne_of_lt (blk_lt (g := gb1038) (o := .cells #[.slice (some ad1040) l0_0.length c0_0] 63 (0, 0)) (by (with_reducible repeat (first | refine blk_drewN ?_ _ | refine blk_drew ?_ | refine blk_alloc ?_ _)); exact BK1038.out)) : gb1038 ≠ gb1044)); have n7_ := Aside0.mk ((by rw [hg]; exact Nat.ne_of_gt (blk_lt (g := gb1038) (o := .cells #[.slice (some ad1040) l0_0.length c0_0] 63 (0, 0)) (by (with_reducible repeat (first | refine blk_drewN ?_ _ | refine blk_drew ?_ | refine blk_alloc ?_ _)); exact BK1038.out)) : gb1044 ≠ gb1038)); have n8_ := Aside0.mk ((by rw [hg]; exact Nat.ne_of_lt (blk_lt (g := gb1041) (o := .cells #[.bool ((rd_T71 l0_0 x10_1).f0), .int .i64 ((rd_T71 l0_0 x10_1).f1), .slice (some ad1043) ((rd_T71 l0_0 x10_1).f2).length c1040_2] 71 (0, 0)) (by (with_reducible repeat (first | refine blk_drewN ?_ _ | refine blk_drew ?_ | refine blk_alloc ?_ _)); exact BK1041.out)) : gb1041 ≠ gb1044)); have n9_ := Aside0.mk ((by rw [hg]; exact Nat.ne_of_gt (blk_lt (g := gb1041) (o := .cells #[.bool ((rd_T71 l0_0 x10_1).f0), .int .i64 ((rd_T71 l0_0 x10_1).f1), .slice (some ad1043) ((rd_T71 l0_0 x10_1).f2).length c1040_2] 71 (0, 0)) (by (with_reducible repeat (first | refine blk_drewN ?_ _ | refine blk_drew ?_ | refine blk_alloc ?_ _)); exact BK1041.out)) : gb1044 ≠ gb1041)); clear BK1038; clear BK1041; clear HB; have BK1038 := n0_; have BK1041 := n1_; have HB := n2_; have BK1044 := n3_; have GW1044 := n4_; have GE1044 := n5_; have NB1038_1044 := n6_; have NB1044_1038 := n7_; have NB1041_1044 := n8_; have NB1044_1041 := n9_; clear n0_ n1_ n2_ n3_ n4_ n5_ n6_ n7_ n8_ n9_; clear hb hbox hg; have hnb48 := NB1044_1038.out; have hnc48 := NB1038_1044.out; have hnb49 := NB1044_1041.out; have hnc49 := NB1041_1044.out; have hcz50_0 : w47.cell? ⟨gb1044, 0, none⟩ = some (.int .i64 0) := (blk_cell BK1044.out 0).trans rfl; have hcz50_1 : w47.cell? ⟨gb1044, 1, none⟩ = some (.string (⟨#[]⟩ : ByteArray)) := (blk_cell BK1044.out 1).trans rfl; have hfz50_0 := blk_frozen BK1044.out 0; have hfz50_1 := blk_frozen BK1044.out 1) | ((with_reducible refine gate_callee (f := 150) rfl ?_); refine goesL_ (some 33) rfl rfl Try.func150 (by kernel_rfl) rfl #[.agg #[.int .i64 ((rd_T142 ((rd_T71 l0_0 x10_1).f2) x27_3).f0), .string ((rd_T142 ((rd_T71 l0_0 x10_1).f2) x27_3).f1)]] rfl (by (try simp only [List.map_toArray, List.map_cons, List.map_nil]); first | done | rfl | (simp only [List.length_drop, List.length_take]; rfl)) ?_; (with_reducible refine (impl_leafOk.calls ((rd_T142 ((rd_T71 l0_0 x10_1).f2) x27_3).f0) ((rd_T142 ((rd_T71 l0_0 x10_1).f2) x27_3).f1) true _ A23.out).mono ?_); rintro e w51 ⟨rfl, hb⟩; refine ⟨_, rfl, ?_⟩; have n0_ := Aside0.mk (blk_below (g := gb1038) (o := .cells #[.slice (some ad1040) l0_0.length c0_0] 63 (0, 0)) (by (with_reducible repeat (first | refine blk_drewN ?_ _ | refine blk_drew ?_ | refine blk_alloc ?_ _)); refine blk_far ?_ NB1038_1044.out _; (with_reducible repeat (first | refine blk_drewN ?_ _ | refine blk_drew ?_ | refine blk_alloc ?_ _)); refine blk_far ?_ NB1038_1044.out _; (with_reducible repeat (first | refine blk_drewN ?_ _ | refine blk_drew ?_ | refine blk_alloc ?_ _)); exact BK1038.out) hb); have n1_ := Aside0.mk (blk_below (g := gb1041) (o := .cells #[.bool ((rd_T71 l0_0 x10_1).f0), .int .i64 ((rd_T71 l0_0 x10_1).f1), .slice (some ad1043) ((rd_T71 l0_0 x10_1).f2).length c1040_2] 71 (0, 0)) (by (with_reducible repeat (first | refine blk_drewN ?_ _ | refine blk_drew ?_ | refine blk_alloc ?_ _)); refine blk_far ?_ NB1041_1044.out _; (with_reducible repeat (first | refine blk_drewN ?_ _ | refine blk_drew ?_ | refine blk_alloc ?_ _)); refine blk_far ?_ NB1041_1044.out _; (with_reducible repeat (first | refine blk_drewN ?_ _ | refine blk_drew ?_ | refine blk_alloc ?_ _)); exact BK1041.out) hb); have n2_ := Aside0.mk (blk_below (g := gb1044) (o := .cells #[.int .i64 ((rd_T142 ((rd_T71 l0_0 x10_1).f2) x27_3).f0), .string ((rd_T142 ((rd_T71 l0_0 x10_1).f2) x27_3).f1)] 142 (0, 0)) (by (with_reducible repeat (first | refine blk_drewN ?_ _ | refine blk_drew ?_ | refine blk_alloc ?_ _)); refine blk_put (cs := #[.int .i64 ((rd_T142 ((rd_T71 l0_0 x10_1).f2) x27_3).f0), .string (⟨#[]⟩ : ByteArray)]) ?_ 1 _ rfl; (with_reducible repeat (first | refine blk_drewN ?_ _ | refine blk_drew ?_ | refine blk_alloc ?_ _)); refine blk_put (cs := #[.int .i64 0, .string (⟨#[]⟩ : ByteArray)]) ?_ 0 _ rfl; (with_reducible repeat (first | refine blk_drewN ?_ _ | refine blk_drew ?_ | refine blk_alloc ?_ _)); exact BK1044.out) hb); have n3_ := Aside0.mk (below_step (by repeat (first | (with_reducible first | exact HB.out | apply below_alloc | apply pw_below_drewN | apply below_drew1 | refine below_set ?_ GE1038.out | refine below_set ?_ GE1041.out | refine below_set ?_ GE1044.out) | exact HB.out)) hb); clear BK1038; clear BK1041; clear BK1044; clear HB; have BK1038 := n0_; have BK1041 := n1_; have BK1044 := n2_; have HB := n3_; clear n0_ n1_ n2_ n3_; (try clear hb); (try clear hb2); (try clear hk); (try clear hi); have hnb52 := NB1041_1038.out; have hnc52 := NB1038_1041.out; have hcz53_0 : w51.cell? ⟨gb1041, 0, none⟩ = some (.bool ((rd_T71 l0_0 x10_1).f0)) := (blk_cell BK1041.out 0).trans rfl; have hcz53_1 : w51.cell? ⟨gb1041, 1, none⟩ = some (.int .i64 ((rd_T71 l0_0 x10_1).f1)) := (blk_cell BK1041.out 1).trans rfl; have hcz53_2 : w51.cell? ⟨gb1041, 2, none⟩ = some (.slice (some ad1043) ((rd_T71 l0_0 x10_1).f2).length c1040_2) := (blk_cell BK1041.out 2).trans rfl; have hfz53_0 := blk_frozen BK1041.out 0; have hfz53_1 := blk_frozen BK1041.out 1; have hfz53_2 := blk_frozen BK1041.out 2; have p1046 : 0 ≤ ((ji26) : Int) := of_decide_eq_true (by first | (with_reducible assumption) | assumption); have q1046 : (ji26) < (((rd_T71 l0_0 x10_1).f2).length : Int) := of_decide_eq_true (by first | (with_reducible assumption) | assumption); obtain ⟨ad1046, e1046, hx1046_0, hx1046_1⟩ := at_T142 HR1040_2.out (ji26) p1046 q1046; obtain rfl : ad1043 = ad1046 := (by injection e1046); replace hx1046_0 := (HB.out.cell (World.block_lt_of_cell? w _ hx1046_0)).trans hx1046_0; replace hx1046_1 := (HB.out.cell (World.block_lt_of_cell? w _ hx1046_1)).trans hx1046_1; replace p1046 := eq_true p1046; replace q1046 := eq_true q1046))
                                      go_roundg k3
                                      case measure => have := HK1.out; have := HJ6.out; have := HK3.out; omega
                                      case rel => exact ⟨(wrap64 (x27_3 + 1)), (by first | rfl | (simp; done) | (simp [*]; done)), H', ⟨by have := HK1.out; have := HJ6.out; have := HK3.out; omega⟩, ⟨by (with_reducible repeat (first | refine blk_drewN ?_ _ | refine blk_drew ?_ | refine blk_alloc ?_ _)); exact BK1038.out⟩, ⟨by (with_reducible repeat (first | refine blk_drewN ?_ _ | refine blk_drew ?_ | refine blk_alloc ?_ _)); exact BK1041.out⟩, ⟨by repeat (first | (with_reducible first | exact HB.out | apply below_alloc | apply pw_below_drewN | apply below_drew1 | refine below_set ?_ GE1038.out | refine below_set ?_ GE1041.out | refine below_set ?_ GE1044.out) | exact HB.out)⟩⟩
                                  · rw [if_neg c28] at H
                                    exact absurd H (by simp)
                                · rw [if_neg c27] at H
                                  exact absurd H (by simp)
                              · rw [if_neg c25] at H
                                have c25b0 : decide (0 < x27_3) = false := decide_eq_false c25
                                clear c25
                                have H' := Aside0.mk H
                                clear H
                                have p1043 : 0 ≤ (x27_3 : Int) := of_decide_eq_true (by first | (with_reducible assumption) | assumption)
                                have q1043 : x27_3 < (((rd_T71 l0_0 x10_1).f2).length : Int) := of_decide_eq_true (by first | (with_reducible assumption) | assumption)
                                obtain ⟨ad1043, e1043, hx1043_0, hx1043_1⟩ := at_T142 HR1040_2.out x27_3 p1043 q1043
                                cases e1043
                                replace hx1043_0 := (HB.out.cell (World.block_lt_of_cell? w _ hx1043_0)).trans hx1043_0
                                replace hx1043_1 := (HB.out.cell (World.block_lt_of_cell? w _ hx1043_1)).trans hx1043_1
                                replace p1043 := eq_true p1043
                                replace q1043 := eq_true q1043
                                go_wp2_with (first | ((with_reducible refine gate_dst (N := 6) rfl ?_); refine box_event ?hg (N := 6) ?hd (cs := #[.int .i64 0, .string (⟨#[]⟩ : ByteArray)]) (t := 142) ?hr ?_; (case hd => rfl); (case hg => rfl); (case hr => first | (go_simp; done) | (go_simp; rfl)); intro gb1044 hg w54 hbox hb; have n0_ := Aside0.mk (blk_below (g := gb1038) (o := .cells #[.slice (some ad1040) l0_0.length c0_0] 63 (0, 0)) (by (with_reducible repeat (first | refine blk_drewN ?_ _ | refine blk_drew ?_ | refine blk_alloc ?_ _)); exact BK1038.out) hb); have n1_ := Aside0.mk (blk_below (g := gb1041) (o := .cells #[.bool ((rd_T71 l0_0 x10_1).f0), .int .i64 ((rd_T71 l0_0 x10_1).f1), .slice (some ad1043) ((rd_T71 l0_0 x10_1).f2).length c1040_2] 71 (0, 0)) (by (with_reducible repeat (first | refine blk_drewN ?_ _ | refine blk_drew ?_ | refine blk_alloc ?_ _)); exact BK1041.out) hb); have n2_ := Aside0.mk (below_step (by repeat (first | (with_reducible first | exact HB.out | apply below_alloc | apply pw_below_drewN | apply below_drew1 | refine below_set ?_ GE1038.out | refine below_set ?_ GE1041.out) | exact HB.out)) hb); have n3_ := Aside0.mk (hbox); have n4_ := Aside0.mk ((by rw [hg]; exact (below_size (by repeat (first | (with_reducible first | exact HB.out | apply below_alloc | apply pw_below_drewN | apply below_drew1 | refine below_set ?_ GE1038.out | refine below_set ?_ GE1041.out) | exact HB.out))) : w.heap.size ≤ gb1044)); have n5_ := Aside0.mk ((by rw [hg]; exact (below_size (by repeat (first | (with_reducible first | exact HB.out | apply below_alloc | apply pw_below_drewN | apply below_drew1 | refine below_set ?_ GE1038.out | refine below_set ?_ GE1041.out) | exact HB.out))) : w.heap.size ≤ gb1044)); have n6_ := Aside0.mk ((by rw [hg]; exact Nat.ne_of_lt (blk_lt (g := gb1038) (o := .cells #[.slice (some ad1040) l0_0.length c0_0] 63 (0, 0)) (by (with_reducible repeat (first | refine blk_drewN ?_ _ | refine blk_drew ?_ | refine blk_alloc ?_ _)); exact BK1038.out)) : gb1038 ≠ gb1044)); have n7_ := Aside0.mk ((by rw [hg]; exact Nat.ne_of_gt (blk_lt (g := gb1038) (o := .cells #[.slice (some ad1040) l0_0.length c0_0] 63 (0, 0)) (by (with_reducible repeat (first | refine blk_drewN ?_ _ | refine blk_drew ?_ | refine blk_alloc ?_ _)); exact BK1038.out)) : gb1044 ≠ gb1038)); have n8_ := Aside0.mk ((by rw [hg]; exact Nat.ne_of_lt (blk_lt (g := gb1041) (o := .cells #[.bool ((rd_T71 l0_0 x10_1).f0), .int .i64 ((rd_T71 l0_0 x10_1).f1), .slice (some ad1043) ((rd_T71 l0_0 x10_1).f2).length c1040_2] 71 (0, 0)) (by (with_reducible repeat (first | refine blk_drewN ?_ _ | refine blk_drew ?_ | refine blk_alloc ?_ _)); exact BK1041.out)) : gb1041 ≠ gb1044)); have n9_ := Aside0.mk ((by rw [hg]; exact Nat.ne_of_gt (blk_lt (g := gb1041) (o := .cells #[.bool ((rd_T71 l0_0 x10_1).f0), .int .i64 ((rd_T71 l0_0 x10_1).f1), .slice (some ad1043) ((rd_T71 l0_0 x10_1).f2).length c1040_2] 71 (0, 0)) (by (with_reducible repeat (first | refine blk_drewN ?_ _ | refine blk_drew ?_ | refine blk_alloc ?_ _)); exact BK1041.out)) : gb1044 ≠ gb1041)); clear BK1038; clear BK1041; clear HB; have BK1038 := n0_; have BK1041 := n1_; have HB := n2_; have BK1044 := n3_; have GW1044 := n4_; have GE1044 := n5_; have NB1038_1044 := n6_; have NB1044_1038 := n7_; have NB1041_1044 := n8_; have NB1044_1041 := n9_; clear n0_ n1_ n2_ n3_ n4_ n5_ n6_ n7_ n8_ n9_; clear hb hbox hg; have hnb55 := NB1044_1038.out; have hnc55 := NB1038_1044.out; have hnb56 := NB1044_1041.out; have hnc56 := NB1041_1044.out; have hcz57_0 : w54.cell? ⟨gb1044, 0, none⟩ = some (.int .i64 0) := (blk_cell BK1044.out 0).trans rfl; have hcz57_1 : w54.cell? ⟨gb1044, 1, none⟩ = some (.string (⟨#[]⟩ : ByteArray)) := (blk_cell BK1044.out 1).trans rfl; have hfz57_0 := blk_frozen BK1044.out 0; have hfz57_1 := blk_frozen BK1044.out 1) | ((with_reducible refine gate_callee (f := 150) rfl ?_); refine goesL_ (some 33) rfl rfl Try.func150 (by kernel_rfl) rfl #[.agg #[.int .i64 ((rd_T142 ((rd_T71 l0_0 x10_1).f2) x27_3).f0), .string ((rd_T142 ((rd_T71 l0_0 x10_1).f2) x27_3).f1)]] rfl (by (try simp only [List.map_toArray, List.map_cons, List.map_nil]); first | done | rfl | (simp only [List.length_drop, List.length_take]; rfl)) ?_; (with_reducible refine (impl_leafOk.calls ((rd_T142 ((rd_T71 l0_0 x10_1).f2) x27_3).f0) ((rd_T142 ((rd_T71 l0_0 x10_1).f2) x27_3).f1) true _ A23.out).mono ?_); rintro e w58 ⟨rfl, hb⟩; refine ⟨_, rfl, ?_⟩; have n0_ := Aside0.mk (blk_below (g := gb1038) (o := .cells #[.slice (some ad1040) l0_0.length c0_0] 63 (0, 0)) (by (with_reducible repeat (first | refine blk_drewN ?_ _ | refine blk_drew ?_ | refine blk_alloc ?_ _)); refine blk_far ?_ NB1038_1044.out _; (with_reducible repeat (first | refine blk_drewN ?_ _ | refine blk_drew ?_ | refine blk_alloc ?_ _)); refine blk_far ?_ NB1038_1044.out _; (with_reducible repeat (first | refine blk_drewN ?_ _ | refine blk_drew ?_ | refine blk_alloc ?_ _)); exact BK1038.out) hb); have n1_ := Aside0.mk (blk_below (g := gb1041) (o := .cells #[.bool ((rd_T71 l0_0 x10_1).f0), .int .i64 ((rd_T71 l0_0 x10_1).f1), .slice (some ad1043) ((rd_T71 l0_0 x10_1).f2).length c1040_2] 71 (0, 0)) (by (with_reducible repeat (first | refine blk_drewN ?_ _ | refine blk_drew ?_ | refine blk_alloc ?_ _)); refine blk_far ?_ NB1041_1044.out _; (with_reducible repeat (first | refine blk_drewN ?_ _ | refine blk_drew ?_ | refine blk_alloc ?_ _)); refine blk_far ?_ NB1041_1044.out _; (with_reducible repeat (first | refine blk_drewN ?_ _ | refine blk_drew ?_ | refine blk_alloc ?_ _)); exact BK1041.out) hb); have n2_ := Aside0.mk (blk_below (g := gb1044) (o := .cells #[.int .i64 ((rd_T142 ((rd_T71 l0_0 x10_1).f2) x27_3).f0), .string ((rd_T142 ((rd_T71 l0_0 x10_1).f2) x27_3).f1)] 142 (0, 0)) (by (with_reducible repeat (first | refine blk_drewN ?_ _ | refine blk_drew ?_ | refine blk_alloc ?_ _)); refine blk_put (cs := #[.int .i64 ((rd_T142 ((rd_T71 l0_0 x10_1).f2) x27_3).f0), .string (⟨#[]⟩ : ByteArray)]) ?_ 1 _ rfl; (with_reducible repeat (first | refine blk_drewN ?_ _ | refine blk_drew ?_ | refine blk_alloc ?_ _)); refine blk_put (cs := #[.int .i64 0, .string (⟨#[]⟩ : ByteArray)]) ?_ 0 _ rfl; (with_reducible repeat (first | refine blk_drewN ?_ _ | refine blk_drew ?_ | refine blk_alloc ?_ _)); exact BK1044.out) hb); have n3_ := Aside0.mk (below_step (by repeat (first | (with_reducible first | exact HB.out | apply below_alloc | apply pw_below_drewN | apply below_drew1 | refine below_set ?_ GE1038.out | refine below_set ?_ GE1041.out | refine below_set ?_ GE1044.out) | exact HB.out)) hb); clear BK1038; clear BK1041; clear BK1044; clear HB; have BK1038 := n0_; have BK1041 := n1_; have BK1044 := n2_; have HB := n3_; clear n0_ n1_ n2_ n3_; (try clear hb); (try clear hb2); (try clear hk); (try clear hi)))
                                go_roundg k3
                                case measure => have := HK1.out; have := HJ6.out; have := HK3.out; omega
                                case rel => exact ⟨(wrap64 (x27_3 + 1)), (by first | rfl | (simp; done) | (simp [*]; done)), H', ⟨by have := HK1.out; have := HJ6.out; have := HK3.out; omega⟩, ⟨by (with_reducible repeat (first | refine blk_drewN ?_ _ | refine blk_drew ?_ | refine blk_alloc ?_ _)); exact BK1038.out⟩, ⟨by (with_reducible repeat (first | refine blk_drewN ?_ _ | refine blk_drew ?_ | refine blk_alloc ?_ _)); exact BK1041.out⟩, ⟨by repeat (first | (with_reducible first | exact HB.out | apply below_alloc | apply pw_below_drewN | apply below_drew1 | refine below_set ?_ GE1038.out | refine below_set ?_ GE1041.out | refine below_set ?_ GE1044.out) | exact HB.out)⟩⟩
                            · replace c24 := Bool.eq_false_iff.mpr c24
                              subst c24
                              have H1 : (some false) = some r := by rw [if_neg (show ¬ (false = true) by decide)] at H; exact H
                              clear H
                              have H := H1
                              clear H1
                              obtain rfl := Option.some.inj H
                              have p1043 : 0 ≤ (x27_3 : Int) := of_decide_eq_true (by first | (with_reducible assumption) | assumption)
                              have q1043 : x27_3 < (((rd_T71 l0_0 x10_1).f2).length : Int) := of_decide_eq_true (by first | (with_reducible assumption) | assumption)
                              obtain ⟨ad1043, e1043, hx1043_0, hx1043_1⟩ := at_T142 HR1040_2.out x27_3 p1043 q1043
                              cases e1043
                              replace hx1043_0 := (HB.out.cell (World.block_lt_of_cell? w _ hx1043_0)).trans hx1043_0
                              replace hx1043_1 := (HB.out.cell (World.block_lt_of_cell? w _ hx1043_1)).trans hx1043_1
                              replace p1043 := eq_true p1043
                              replace q1043 := eq_true q1043
                              go_wp2_with (first | ((with_reducible refine gate_dst (N := 6) rfl ?_); refine box_event ?hg (N := 6) ?hd (cs := #[.int .i64 0, .string (⟨#[]⟩ : ByteArray)]) (t := 142) ?hr ?_; (case hd => rfl); (case hg => rfl); (case hr => first | (go_simp; done) | (go_simp; rfl)); intro gb1044 hg w59 hbox hb; have n0_ := Aside0.mk (blk_below (g := gb1038) (o := .cells #[.slice (some ad1040) l0_0.length c0_0] 63 (0, 0)) (by (with_reducible repeat (first | refine blk_drewN ?_ _ | refine blk_drew ?_ | refine blk_alloc ?_ _)); exact BK1038.out) hb); have n1_ := Aside0.mk (blk_below (g := gb1041) (o := .cells #[.bool ((rd_T71 l0_0 x10_1).f0), .int .i64 ((rd_T71 l0_0 x10_1).f1), .slice (some ad1043) ((rd_T71 l0_0 x10_1).f2).length c1040_2] 71 (0, 0)) (by (with_reducible repeat (first | refine blk_drewN ?_ _ | refine blk_drew ?_ | refine blk_alloc ?_ _)); exact BK1041.out) hb); have n2_ := Aside0.mk (below_step (by repeat (first | (with_reducible first | exact HB.out | apply below_alloc | apply pw_below_drewN | apply below_drew1 | refine below_set ?_ GE1038.out | refine below_set ?_ GE1041.out) | exact HB.out)) hb); have n3_ := Aside0.mk (hbox); have n4_ := Aside0.mk ((by rw [hg]; exact (below_size (by repeat (first | (with_reducible first | exact HB.out | apply below_alloc | apply pw_below_drewN | apply below_drew1 | refine below_set ?_ GE1038.out | refine below_set ?_ GE1041.out) | exact HB.out))) : w.heap.size ≤ gb1044)); have n5_ := Aside0.mk ((by rw [hg]; exact (below_size (by repeat (first | (with_reducible first | exact HB.out | apply below_alloc | apply pw_below_drewN | apply below_drew1 | refine below_set ?_ GE1038.out | refine below_set ?_ GE1041.out) | exact HB.out))) : w.heap.size ≤ gb1044)); have n6_ := Aside0.mk ((by rw [hg]; exact Nat.ne_of_lt (blk_lt (g := gb1038) (o := .cells #[.slice (some ad1040) l0_0.length c0_0] 63 (0, 0)) (by (with_reducible repeat (first | refine blk_drewN ?_ _ | refine blk_drew ?_ | refine blk_alloc ?_ _)); exact BK1038.out)) : gb1038 ≠ gb1044)); have n7_ := Aside0.mk ((by rw [hg]; exact Nat.ne_of_gt (blk_lt (g := gb1038) (o := .cells #[.slice (some ad1040) l0_0.length c0_0] 63 (0, 0)) (by (with_reducible repeat (first | refine blk_drewN ?_ _ | refine blk_drew ?_ | refine blk_alloc ?_ _)); exact BK1038.out)) : gb1044 ≠ gb1038)); have n8_ := Aside0.mk ((by rw [hg]; exact Nat.ne_of_lt (blk_lt (g := gb1041) (o := .cells #[.bool ((rd_T71 l0_0 x10_1).f0), .int .i64 ((rd_T71 l0_0 x10_1).f1), .slice (some ad1043) ((rd_T71 l0_0 x10_1).f2).length c1040_2] 71 (0, 0)) (by (with_reducible repeat (first | refine blk_drewN ?_ _ | refine blk_drew ?_ | refine blk_alloc ?_ _)); exact BK1041.out)) : gb1041 ≠ gb1044)); have n9_ := Aside0.mk ((by rw [hg]; exact Nat.ne_of_gt (blk_lt (g := gb1041) (o := .cells #[.bool ((rd_T71 l0_0 x10_1).f0), .int .i64 ((rd_T71 l0_0 x10_1).f1), .slice (some ad1043) ((rd_T71 l0_0 x10_1).f2).length c1040_2] 71 (0, 0)) (by (with_reducible repeat (first | refine blk_drewN ?_ _ | refine blk_drew ?_ | refine blk_alloc ?_ _)); exact BK1041.out)) : gb1044 ≠ gb1041)); clear BK1038; clear BK1041; clear HB; have BK1038 := n0_; have BK1041 := n1_; have HB := n2_; have BK1044 := n3_; have GW1044 := n4_; have GE1044 := n5_; have NB1038_1044 := n6_; have NB1044_1038 := n7_; have NB1041_1044 := n8_; have NB1044_1041 := n9_; clear n0_ n1_ n2_ n3_ n4_ n5_ n6_ n7_ n8_ n9_; clear hb hbox hg; have hnb60 := NB1044_1038.out; have hnc60 := NB1038_1044.out; have hnb61 := NB1044_1041.out; have hnc61 := NB1041_1044.out; have hcz62_0 : w59.cell? ⟨gb1044, 0, none⟩ = some (.int .i64 0) := (blk_cell BK1044.out 0).trans rfl; have hcz62_1 : w59.cell? ⟨gb1044, 1, none⟩ = some (.string (⟨#[]⟩ : ByteArray)) := (blk_cell BK1044.out 1).trans rfl; have hfz62_0 := blk_frozen BK1044.out 0; have hfz62_1 := blk_frozen BK1044.out 1) | ((with_reducible refine gate_callee (f := 150) rfl ?_); refine goesL_ (some 33) rfl rfl Try.func150 (by kernel_rfl) rfl #[.agg #[.int .i64 ((rd_T142 ((rd_T71 l0_0 x10_1).f2) x27_3).f0), .string ((rd_T142 ((rd_T71 l0_0 x10_1).f2) x27_3).f1)]] rfl (by (try simp only [List.map_toArray, List.map_cons, List.map_nil]); first | done | rfl | (simp only [List.length_drop, List.length_take]; rfl)) ?_; (with_reducible refine (impl_leafOk.calls ((rd_T142 ((rd_T71 l0_0 x10_1).f2) x27_3).f0) ((rd_T142 ((rd_T71 l0_0 x10_1).f2) x27_3).f1) false _ A23.out).mono ?_); rintro e w63 ⟨rfl, hb⟩; refine ⟨_, rfl, ?_⟩; have n0_ := Aside0.mk (blk_below (g := gb1038) (o := .cells #[.slice (some ad1040) l0_0.length c0_0] 63 (0, 0)) (by (with_reducible repeat (first | refine blk_drewN ?_ _ | refine blk_drew ?_ | refine blk_alloc ?_ _)); refine blk_far ?_ NB1038_1044.out _; (with_reducible repeat (first | refine blk_drewN ?_ _ | refine blk_drew ?_ | refine blk_alloc ?_ _)); refine blk_far ?_ NB1038_1044.out _; (with_reducible repeat (first | refine blk_drewN ?_ _ | refine blk_drew ?_ | refine blk_alloc ?_ _)); exact BK1038.out) hb); have n1_ := Aside0.mk (blk_below (g := gb1041) (o := .cells #[.bool ((rd_T71 l0_0 x10_1).f0), .int .i64 ((rd_T71 l0_0 x10_1).f1), .slice (some ad1043) ((rd_T71 l0_0 x10_1).f2).length c1040_2] 71 (0, 0)) (by (with_reducible repeat (first | refine blk_drewN ?_ _ | refine blk_drew ?_ | refine blk_alloc ?_ _)); refine blk_far ?_ NB1041_1044.out _; (with_reducible repeat (first | refine blk_drewN ?_ _ | refine blk_drew ?_ | refine blk_alloc ?_ _)); refine blk_far ?_ NB1041_1044.out _; (with_reducible repeat (first | refine blk_drewN ?_ _ | refine blk_drew ?_ | refine blk_alloc ?_ _)); exact BK1041.out) hb); have n2_ := Aside0.mk (blk_below (g := gb1044) (o := .cells #[.int .i64 ((rd_T142 ((rd_T71 l0_0 x10_1).f2) x27_3).f0), .string ((rd_T142 ((rd_T71 l0_0 x10_1).f2) x27_3).f1)] 142 (0, 0)) (by (with_reducible repeat (first | refine blk_drewN ?_ _ | refine blk_drew ?_ | refine blk_alloc ?_ _)); refine blk_put (cs := #[.int .i64 ((rd_T142 ((rd_T71 l0_0 x10_1).f2) x27_3).f0), .string (⟨#[]⟩ : ByteArray)]) ?_ 1 _ rfl; (with_reducible repeat (first | refine blk_drewN ?_ _ | refine blk_drew ?_ | refine blk_alloc ?_ _)); refine blk_put (cs := #[.int .i64 0, .string (⟨#[]⟩ : ByteArray)]) ?_ 0 _ rfl; (with_reducible repeat (first | refine blk_drewN ?_ _ | refine blk_drew ?_ | refine blk_alloc ?_ _)); exact BK1044.out) hb); have n3_ := Aside0.mk (below_step (by repeat (first | (with_reducible first | exact HB.out | apply below_alloc | apply pw_below_drewN | apply below_drew1 | refine below_set ?_ GE1038.out | refine below_set ?_ GE1041.out | refine below_set ?_ GE1044.out) | exact HB.out)) hb); clear BK1038; clear BK1041; clear BK1044; clear HB; have BK1038 := n0_; have BK1041 := n1_; have BK1044 := n2_; have HB := n3_; clear n0_ n1_ n2_ n3_; (try clear hb); (try clear hb2); (try clear hk); (try clear hi)))
                              go_ret
                              exact ⟨by first | rfl | (simp [errW_none, errW_some] <;> rfl) | (simp [*, errW_none, errW_some] <;> rfl), by repeat (first | (with_reducible first | exact HB.out | apply below_alloc | apply pw_below_drewN | apply below_drew1 | refine below_set ?_ GE1038.out | refine below_set ?_ GE1041.out | refine below_set ?_ GE1044.out) | exact HB.out)⟩
                          · rw [if_neg c22] at H
                            exact absurd H (by simp)
                        · rw [if_neg c21] at H
                          exact absurd H (by simp)
                      · rw [if_neg c20] at H
                        have c20b0 : decide (x27_3 < (((rd_T71 l0_0 x10_1).f2).length : Int)) = false := decide_eq_false c20
                        clear c20
                        have H' := Aside0.mk H
                        clear H
                        go_wp2
                        go_roundg k3
                        case measure => have := HK1.out; have := HJ6.out; have := HK3.out; omega
                        case rel => exact ⟨(wrap64 (x10_1 + 1)), (by first | rfl | (simp; done) | (simp [*]; done)), H', ⟨by have := HK1.out; have := HJ6.out; have := HK3.out; omega⟩, ⟨by (with_reducible repeat (first | refine blk_drewN ?_ _ | refine blk_drew ?_ | refine blk_alloc ?_ _)); exact BK1038.out⟩, ⟨by repeat (first | (with_reducible first | exact HB.out | apply below_alloc | apply pw_below_drewN | apply below_drew1 | refine below_set ?_ GE1038.out | refine below_set ?_ GE1041.out) | exact HB.out)⟩⟩
          · rw [if_neg c6] at H
            exact absurd H (by simp)
        · rw [if_neg c5] at H
          exact absurd H (by simp)
      · rw [if_neg c4] at H
        have c4b0 : decide (x10_1 < (l0_0.length : Int)) = false := decide_eq_false c4
        clear c4
        replace H := Option.bind_eq_some_iff.mp H
        obtain ⟨t1039, A640, H⟩ := H
        replace H : (some t1039) = some r := H
        have A64 := Aside0.mk A640
        clear A640
        obtain rfl := Option.some.inj H
        have hcz65_0 : wr.cell? ⟨gb1038, 0, none⟩ = some (.slice A0_0 l0_0.length c0_0) := (blk_cell BK1038.out 0).trans rfl
        have hfz65_0 := blk_frozen BK1038.out 0
        go_wp2_with (first | ((with_reducible refine gate_callee (f := 84) rfl ?_); refine goesL_ (some 59) rfl rfl Try.func84 (by kernel_rfl) rfl #[.int .i64 (l0_0.length : Int), .int .i64 3, .int .i64 10] rfl (by (try simp only [List.map_toArray, List.map_cons, List.map_nil]); first | done | rfl | (simp only [List.length_drop, List.length_take]; rfl)) ?_; (with_reducible refine (impl_in.calls (l0_0.length : Int) 3 10 t1039 _ A64.out).mono ?_); rintro e w' ⟨rfl, ⟨nd, rfl⟩⟩; refine ⟨_, rfl, ?_⟩))
        go_ret
        exact ⟨by first | rfl | (simp [errW_none, errW_some] <;> rfl) | (simp [*, errW_none, errW_some] <;> rfl), by repeat (first | (with_reducible first | exact HB.out | apply below_alloc | apply pw_below_drewN | apply below_drew1 | refine below_set ?_ GE1038.out) | exact HB.out)⟩

end Go.Proofs.Ytdolplcbokioaaa.PB

/- Functions of the translation as plain Lean functions, and for each that its call comes to just what its Lean function answers; its conditions stand in each theorem. Written by a program of this session. -/
namespace Go.Proofs.Ytdolplcbokioaaa.PB
open Go.RowKit Go.Proofs.YtdolplcbokioaaaW.PrintWords Go.Proofs.YtdolplcbokioaaaW.PrintLast Go.Proofs.YtdolplcbokioaaaW.PrintMore
attribute [local go_sem] max2_int min2_int max_two min_two max_three min_three max_four min_four   -- for this text's walks alone
set_option linter.unusedVariables false
set_option linter.unusedSimpArgs false

/-! ### impl_NextBlank: function 107 -/
def impl_NextBlank.l0 : Nat → List (S142) → Int → Int → Option (Int)
  | 0, _, _, _ => none
  | k + 1, x6, x7, x8 => if x8 < x7 then (if 0 ≤ x8 then (if x8 < (x6.length : Int) then (if ((rd_T142 x6 x8).f0) = 0 then (some x8) else (impl_NextBlank.l0 k x6 x7 (wrap64 (x8 + 1)))) else (none)) else (none)) else (some 4)
def impl_NextBlank.f (k : Nat) (a0_0 : Bool) (a0_1 : Int) (l0_2 : List (S142)) : Option (Int) := impl_NextBlank.l0 k l0_2 (l0_2.length : Int) 0
theorem impl_NextBlank.mono_l : ∀ k, (∀ y0 y1 y2, LeO (impl_NextBlank.l0 k y0 y1 y2) (impl_NextBlank.l0 (k + 1) y0 y1 y2))
  | 0 => fun _ _ _ r h => by simp [impl_NextBlank.l0] at h
  | k + 1 => by
    have ih0 := impl_NextBlank.mono_l k
    · intro y0 y1 y2
      unfold impl_NextBlank.l0
      repeat' first
      | (with_reducible exact ih0 _ _ _)
      | (with_reducible exact LeO.refl _)
      | (with_reducible exact LeO.none _)
      | (with_reducible refine LeO.ite ?_ ?_)
      | (with_reducible refine LeO.bind ?_ (fun _ => ?_))
      | exact ih0 _ _ _
      | exact LeO.none _
      | refine LeO.ite ?_ ?_
      | refine LeO.bind ?_ (fun _ => ?_)
theorem impl_NextBlank.mono : ∀ a0 a1 a2 k, LeO (impl_NextBlank.f k a0 a1 a2) (impl_NextBlank.f (k + 1) a0 a1 a2) := by
  intro a0 a1 a2 k
  have ih0 := impl_NextBlank.mono_l k
  unfold impl_NextBlank.f
  repeat' first
      | (with_reducible exact ih0 _ _ _)
      | (with_reducible exact LeO.refl _)
      | (with_reducible exact LeO.none _)
      | (with_reducible refine LeO.ite ?_ ?_)
      | (with_reducible refine LeO.bind ?_ (fun _ => ?_))
      | exact ih0 _ _ _
      | exact LeO.none _
      | refine LeO.ite ?_ ?_
      | refine LeO.bind ?_ (fun _ => ?_)
set_option maxHeartbeats 8000000 in
set_option maxRecDepth 100000 in
theorem impl_NextBlank.calls (k : Nat) (a0_0 : Bool) (a0_1 : Int) (A0_2 : Option Addr) (c0_2 : Nat) (l0_2 : List (S142)) (r : Int) (w : World) (hr0_2 : Kd.C k142 w A0_2 l0_2.length l0_2) (hc0_2 : l0_2.length ≤ c0_2) (h : impl_NextBlank.f k a0_0 a0_1 l0_2 = some r) :
    Calls Try.prog 107 #[.agg #[.bool a0_0, .int .i64 a0_1, .slice A0_2 l0_2.length c0_2]] w fun e w' => e = .returned (.int .i64 r) ∧ Below w.heap.size w w' := by
  have hu71 := Try.underlying71
  have hu142 := Try.underlying142
  have HR0_2 := Aside0.mk hr0_2
  have HC0_2 := Aside0.mk hc0_2
  clear hr0_2 hc0_2
  have HB := Aside0.mk (Below.refl w.heap.size w)
  have H : (impl_NextBlank.l0 k l0_2 (l0_2.length : Int) 0) = some r := h
  clear h
  have H' := Aside0.mk H
  clear H
  go_enter Try.func107, Try.ntmps107
  go_wp2_with (first | ((with_reducible refine gate_dst (N := 1) rfl ?_); refine box_event ?hg (N := 1) ?hd (cs := #[.bool a0_0, .int .i64 a0_1, .slice A0_2 l0_2.length c0_2]) (t := 71) ?hr ?_; (case hd => rfl); (case hg => rfl); (case hr => first | (go_simp; done) | (go_simp; rfl)); intro gb1047 hg w2 hbox hb; have n0_ := Aside0.mk (below_step (by repeat (first | (with_reducible first | exact HB.out | apply below_alloc | apply pw_below_drewN | apply below_drew1) | exact HB.out)) hb); have n1_ := Aside0.mk (hbox); have n2_ := Aside0.mk ((by rw [hg]; exact (below_size (by repeat (first | (with_reducible first | exact HB.out | apply below_alloc | apply pw_below_drewN | apply below_drew1) | exact HB.out))) : w.heap.size ≤ gb1047)); have n3_ := Aside0.mk ((by rw [hg]; exact (below_size (by repeat (first | (with_reducible first | exact HB.out | apply below_alloc | apply pw_below_drewN | apply below_drew1) | exact HB.out))) : w.heap.size ≤ gb1047)); clear HB; have HB := n0_; have BK1047 := n1_; have GW1047 := n2_; have GE1047 := n3_; clear n0_ n1_ n2_ n3_; clear hb hbox hg; have hcz3_0 : w2.cell? ⟨gb1047, 0, none⟩ = some (.bool a0_0) := (blk_cell BK1047.out 0).trans rfl; have hcz3_1 : w2.cell? ⟨gb1047, 1, none⟩ = some (.int .i64 a0_1) := (blk_cell BK1047.out 1).trans rfl; have hcz3_2 : w2.cell? ⟨gb1047, 2, none⟩ = some (.slice A0_2 l0_2.length c0_2) := (blk_cell BK1047.out 2).trans rfl; have hfz3_0 := blk_frozen BK1047.out 0; have hfz3_1 := blk_frozen BK1047.out 1; have hfz3_2 := blk_frozen BK1047.out 2))
  go_loopg [8] k (fun kq v8 w' => ∃ (x8_1 : Int), v8 = .int .i64 x8_1 ∧ Aside0 (impl_NextBlank.l0 kq l0_2 (l0_2.length : Int) x8_1 = some r) ∧ Aside0 (kq ≤ k) ∧ Aside0 (w'.heap[gb1047]? = some (.cells #[.bool a0_0, .int .i64 a0_1, (.slice A0_2 l0_2.length c0_2)] 71 (0, 0))) ∧ Aside0 (Below w.heap.size w w'))
  case atStart => exact ⟨(0), (by first | rfl | (simp; done) | (simp [*]; done)), H', ⟨Nat.le_refl _⟩, ⟨by (with_reducible repeat (first | refine blk_drewN ?_ _ | refine blk_drew ?_ | refine blk_alloc ?_ _)); exact BK1047.out⟩, ⟨by repeat (first | (with_reducible first | exact HB.out | apply below_alloc | apply pw_below_drewN | apply below_drew1 | refine below_set ?_ GE1047.out) | exact HB.out)⟩⟩
  case round =>
    clear H'
    try clear c1
    try clear p2
    try clear hcz3_0
    try clear hcz3_1
    try clear hcz3_2
    try clear hfz3_0
    try clear hfz3_1
    try clear hfz3_2
    obtain ⟨x8_1, rfl, HA, HK1, BK1047, HB⟩ := hrel
    cases gk with
    | zero => exact absurd HA.out (by simp [impl_NextBlank.l0])
    | succ k1 =>
      have H := HA.out
      clear HA
      simp only [impl_NextBlank.l0] at H
      by_cases c4 : x8_1 < (l0_2.length : Int)
      · rw [if_pos c4] at H
        have c4b0 : decide (x8_1 < (l0_2.length : Int)) = true := decide_eq_true c4
        clear c4
        by_cases c5 : 0 ≤ x8_1
        · rw [if_pos c5] at H
          have c5b0 : decide (0 ≤ x8_1) = true := decide_eq_true c5
          clear c5
          by_cases c6 : x8_1 < (l0_2.length : Int)
          · rw [if_pos c6] at H
            have c6b0 : decide (x8_1 < (l0_2.length : Int)) = true := decide_eq_true c6
            clear c6
            by_cases c7 : ((rd_T142 l0_2 x8_1).f0) = 0
            · rw [if_pos c7] at H
              have c7b0 : (((rd_T142 l0_2 x8_1).f0) == 0) = true := beq_iff_eq.mpr c7
              have c7b1 : (((rd_T142 l0_2 x8_1).f0) != 0) = false := bne_eq_false_iff_eq.mpr c7
              clear c7
              obtain rfl := Option.some.inj H
              have p1048 : 0 ≤ (x8_1 : Int) := of_decide_eq_true (by first | (with_reducible assumption) | assumption)
              have q1048 : x8_1 < (l0_2.length : Int) := of_decide_eq_true (by first | (with_reducible assumption) | assumption)
              obtain ⟨ad1048, e1048, hx1048_0, hx1048_1⟩ := at_T142 HR0_2.out x8_1 p1048 q1048
              cases e1048
              replace hx1048_0 := (HB.out.cell (World.block_lt_of_cell? w _ hx1048_0)).trans hx1048_0
              replace hx1048_1 := (HB.out.cell (World.block_lt_of_cell? w _ hx1048_1)).trans hx1048_1
              replace p1048 := eq_true p1048
              replace q1048 := eq_true q1048
              go_wp2_with (first | ((with_reducible refine gate_dst (N := 4) rfl ?_); refine box_event ?hg (N := 4) ?hd (cs := #[.int .i64 0, .string (⟨#[]⟩ : ByteArray)]) (t := 142) ?hr ?_; (case hd => rfl); (case hg => rfl); (case hr => first | (go_simp; done) | (go_simp; rfl)); intro gb1049 hg w8 hbox hb; have n0_ := Aside0.mk (blk_below (g := gb1047) (o := .cells #[.bool a0_0, .int .i64 a0_1, .slice (some ad1048) l0_2.length c0_2] 71 (0, 0)) (by (with_reducible repeat (first | refine blk_drewN ?_ _ | refine blk_drew ?_ | refine blk_alloc ?_ _)); exact BK1047.out) hb); have n1_ := Aside0.mk (below_step (by repeat (first | (with_reducible first | exact HB.out | apply below_alloc | apply pw_below_drewN | apply below_drew1 | refine below_set ?_ GE1047.out) | exact HB.out)) hb); have n2_ := Aside0.mk (hbox); have n3_ := Aside0.mk ((by rw [hg]; exact (below_size (by repeat (first | (with_reducible first | exact HB.out | apply below_alloc | apply pw_below_drewN | apply below_drew1 | refine below_set ?_ GE1047.out) | exact HB.out))) : w.heap.size ≤ gb1049)); have n4_ := Aside0.mk ((by rw [hg]; exact (below_size (by repeat (first | (with_reducible first | exact HB.out | apply below_alloc | apply pw_below_drewN | apply below_drew1 | refine below_set ?_ GE1047.out) | exact HB.out))) : w.heap.size ≤ gb1049)); have n5_ := Aside0.mk ((by rw [hg]; exact Nat.ne_of_lt (blk_lt (g := gb1047) (o := .cells #[.bool a0_0, .int .i64 a0_1, .slice (some ad1048) l0_2.length c0_2] 71 (0, 0)) (by (with_reducible repeat (first | refine blk_drewN ?_ _ | refine blk_drew ?_ | refine blk_alloc ?_ _)); exact BK1047.out)) : gb1047 ≠ gb1049)); have n6_ := Aside0.mk ((by rw [hg]; exact Nat.ne_of_gt (blk_lt (g := gb1047) (o := .cells #[.bool a0_0, .int .i64 a0_1, .slice (some ad1048) l0_2.length c0_2] 71 (0, 0)) (by (with_reducible repeat (first | refine blk_drewN ?_ _ | refine blk_drew ?_ | refine blk_alloc ?_ _)); exact BK1047.out)) : gb1049 ≠ gb1047)); clear BK1047; clear HB; have BK1047 := n0_; have HB := n1_; have BK1049 := n2_; have GW1049 := n3_; have GE1049 := n4_; have NB1047_1049 := n5_; have NB1049_1047 := n6_; clear n0_ n1_ n2_ n3_ n4_ n5_ n6_; clear hb hbox hg; have hnb9 := NB1049_1047.out; have hnc9 := NB1047_1049.out; have hcz10_0 : w8.cell? ⟨gb1049, 0, none⟩ = some (.int .i64 0) := (blk_cell BK1049.out 0).trans rfl; have hcz10_1 : w8.cell? ⟨gb1049, 1, none⟩ = some (.string (⟨#[]⟩ : ByteArray)) := (blk_cell BK1049.out 1).trans rfl; have hfz10_0 := blk_frozen BK1049.out 0; have hfz10_1 := blk_frozen BK1049.out 1))
              go_ret
              exact ⟨by first | rfl | (simp [errW_none, errW_some] <;> rfl) | (simp [*, errW_none, errW_some] <;> rfl), by repeat (first | (with_reducible first | exact HB.out | apply below_alloc | apply pw_below_drewN | apply below_drew1 | refine below_set ?_ GE1047.out | refine below_set ?_ GE1049.out) | exact HB.out)⟩
            · rw [if_neg c7] at H
              have c7b0 : (((rd_T142 l0_2 x8_1).f0) == 0) = false := beq_eq_false_iff_ne.mpr c7
              have c7b1 : (((rd_T142 l0_2 x8_1).f0) != 0) = true := bne_iff_ne.mpr c7
              have H' := Aside0.mk H
              clear H
              have p1048 : 0 ≤ (x8_1 : Int) := of_decide_eq_true (by first | (with_reducible assumption) | assumption)
              have q1048 : x8_1 < (l0_2.length : Int) := of_decide_eq_true (by first | (with_reducible assumption) | assumption)
              obtain ⟨ad1048, e1048, hx1048_0, hx1048_1⟩ := at_T142 HR0_2.out x8_1 p1048 q1048
              cases e1048
              replace hx1048_0 := (HB.out.cell (World.block_lt_of_cell? w _ hx1048_0)).trans hx1048_0
              replace hx1048_1 := (HB.out.cell (World.block_lt_of_cell? w _ hx1048_1)).trans hx1048_1
              replace p1048 := eq_true p1048
              replace q1048 := eq_true q1048
              go_wp2_with (first | ((with_reducible refine gate_dst (N := 4) rfl ?_); refine box_event ?hg (N := 4) ?hd (cs := #[.int .i64 0, .string (⟨#[]⟩ : ByteArray)]) (t := 142) ?hr ?_; (case hd => rfl); (case hg => rfl); (case hr => first | (go_simp; done) | (go_simp; rfl)); intro gb1049 hg w11 hbox hb; have n0_ := Aside0.mk (blk_below (g := gb1047) (o := .cells #[.bool a0_0, .int .i64 a0_1, .slice (some ad1048) l0_2.length c0_2] 71 (0, 0)) (by (with_reducible repeat (first | refine blk_drewN ?_ _ | refine blk_drew ?_ | refine blk_alloc ?_ _)); exact BK1047.out) hb); have n1_ := Aside0.mk (below_step (by repeat (first | (with_reducible first | exact HB.out | apply below_alloc | apply pw_below_drewN | apply below_drew1 | refine below_set ?_ GE1047.out) | exact HB.out)) hb); have n2_ := Aside0.mk (hbox); have n3_ := Aside0.mk ((by rw [hg]; exact (below_size (by repeat (first | (with_reducible first | exact HB.out | apply below_alloc | apply pw_below_drewN | apply below_drew1 | refine below_set ?_ GE1047.out) | exact HB.out))) : w.heap.size ≤ gb1049)); have n4_ := Aside0.mk ((by rw [hg]; exact (below_size (by repeat (first | (with_reducible first | exact HB.out | apply below_alloc | apply pw_below_drewN | apply below_drew1 | refine below_set ?_ GE1047.out) | exact HB.out))) : w.heap.size ≤ gb1049)); have n5_ := Aside0.mk ((by rw [hg]; exact Nat.ne_of_lt (blk_lt (g := gb1047) (o := .cells #[.bool a0_0, .int .i64 a0_1, .slice (some ad1048) l0_2.length c0_2] 71 (0, 0)) (by (with_reducible repeat (first | refine blk_drewN ?_ _ | refine blk_drew ?_ | refine blk_alloc ?_ _)); exact BK1047.out)) : gb1047 ≠ gb1049)); have n6_ := Aside0.mk ((by rw [hg]; exact Nat.ne_of_gt (blk_lt (g := gb1047) (o := .cells #[.bool a0_0, .int .i64 a0_1, .slice (some ad1048) l0_2.length c0_2] 71 (0, 0)) (by (with_reducible repeat (first | refine blk_drewN ?_ _ | refine blk_drew ?_ | refine blk_alloc ?_ _)); exact BK1047.out)) : gb1049 ≠ gb1047)); clear BK1047; clear HB; have BK1047 := n0_; have HB := n1_; have BK1049 := n2_; have GW1049 := n3_; have GE1049 := n4_; have NB1047_1049 := n5_; have NB1049_1047 := n6_; clear n0_ n1_ n2_ n3_ n4_ n5_ n6_; clear hb hbox hg; have hnb12 := NB1049_1047.out; have hnc12 := NB1047_1049.out; have hcz13_0 : w11.cell? ⟨gb1049, 0, none⟩ = some (.int .i64 0) := (blk_cell BK1049.out 0).trans rfl; have hcz13_1 : w11.cell? ⟨gb1049, 1, none⟩ = some (.string (⟨#[]⟩ : ByteArray)) := (blk_cell BK1049.out 1).trans rfl; have hfz13_0 := blk_frozen BK1049.out 0; have hfz13_1 := blk_frozen BK1049.out 1))
              go_roundg k1
              case measure => have := HK1.out; omega
              case rel => exact ⟨(wrap64 (x8_1 + 1)), (by first | rfl | (simp; done) | (simp [*]; done)), H', ⟨by have := HK1.out; omega⟩, ⟨by (with_reducible repeat (first | refine blk_drewN ?_ _ | refine blk_drew ?_ | refine blk_alloc ?_ _)); refine blk_far ?_ NB1047_1049.out _; (with_reducible repeat (first | refine blk_drewN ?_ _ | refine blk_drew ?_ | refine blk_alloc ?_ _)); refine blk_far ?_ NB1047_1049.out _; (with_reducible repeat (first | refine blk_drewN ?_ _ | refine blk_drew ?_ | refine blk_alloc ?_ _)); exact BK1047.out⟩, ⟨by repeat (first | (with_reducible first | exact HB.out | apply below_alloc | apply pw_below_drewN | apply below_drew1 | refine below_set ?_ GE1047.out | refine below_set ?_ GE1049.out) | exact HB.out)⟩⟩
          · rw [if_neg c6] at H
            exact absurd H (by simp)
        · rw [if_neg c5] at H
          exact absurd H (by simp)
      · rw [if_neg c4] at H
        have c4b0 : decide (x8_1 < (l0_2.length : Int)) = false := decide_eq_false c4
        clear c4
        obtain rfl := Option.some.inj H
        go_wp2
        go_ret
        exact ⟨by first | rfl | (simp [errW_none, errW_some] <;> rfl) | (simp [*, errW_none, errW_some] <;> rfl), by repeat (first | (with_reducible first | exact HB.out | apply below_alloc | apply pw_below_drewN | apply below_drew1 | refine below_set ?_ GE1047.out) | exact HB.out)⟩

end Go.Proofs.Ytdolplcbokioaaa.PB
