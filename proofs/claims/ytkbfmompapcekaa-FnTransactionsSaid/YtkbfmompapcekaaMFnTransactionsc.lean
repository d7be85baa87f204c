/- FnTransactions: functions of the translation as Lean functions with what their calls come to, plain lemmas on them, and, at the end, the row. Parts of one proof, merged by a program of this session; each part's own sentence stands at its head. -/
import Derived.Below
import Derived.Shelf.Sort.Plain
import Derived.Shelf.Slices.In.SortNone2
import Derived.Sort.OwnSortedInts
import Derived.IntWalk
import Derived.KernelRfl
import Derived.Test.YtkbfmompapcekaaMFnTransactionsb
/- Plain runs of functions: each is a plain Lean function, and keeps its contract. Written by a program of this session. -/
namespace Go.Proofs.Ytkbfmompapcekaa.M2
open Go Go.Proofs.Ytkbfmompapcekaa.PK
set_option linter.unusedVariables false
set_option linter.unusedSimpArgs false
set_option maxHeartbeats 4000000
/-! ### laws_big: function 4 -/
noncomputable def laws_big.sp : Nat → Option (Spec Ty) := fun r => none
noncomputable def laws_big.en : Option (Spec Ty) := none
noncomputable def laws_big.ctx (k : Nat) : Ctx Ty D := (fun _ _ _ _ => none)
noncomputable def laws_big.f (k : Nat) (a0 : List Int) : Option (Bool) := (some ((decide ((a0.length : Int) > 1048576))))
noncomputable def laws_big.e (r : Bool) : Res Ty D := (.sc (.bool r), [], [])
noncomputable abbrev laws_big.g (rec : List Item → St Ty D → R) (k : Nat) := go1 Try.f4 (laws_big.ctx k) laws_big.sp 0 laws_big.en rec
set_option maxRecDepth 100000 in
theorem laws_big.te (rec : List Item → St Ty D → R) (k : Nat) (a0 : List Int) : laws_big.g rec k [.code (body Try.f4)] (startSt [.row 0 .t5 a0] []) =
  some (laws_big.e ((decide ((a0.length : Int) > 1048576)))) := by kernel_rfl
set_option maxRecDepth 100000 in
theorem laws_big.oke (k : Nat) (a0 : List Int) : goF Try.f4 laws_big.ctx laws_big.sp 0 laws_big.en (k + 1) [.code (body Try.f4)] (startSt [.row 0 .t5 a0] []) = (laws_big.f k a0).map laws_big.e := by
  rw [laws_big.f]; exact (laws_big.te _ k a0).trans rfl
theorem laws_big.con (k : Nat) (a0 : List Int) (r) (h : laws_big.f k a0 = some r) : Contract Try.prog kit 4 [.row 0 .t5 a0] [] (laws_big.e r).1 (laws_big.e r).2.1 (laws_big.e r).2.2 :=
  con_okG kitOk mix (fun k => CtxOk.nil) (laws_big.oke k a0) h (by kernel_rfl) (by kernel_rfl) (by kernel_rfl) rfl (by kernel_rfl) rfl rfl
noncomputable def laws_big.x (k : Nat) : X := fun ins bs κ => match ins, bs with
  | [.row 0 .t5 a0], [] => (laws_big.f k a0).bind fun r => κ (laws_big.e r).1 (laws_big.e r).2.1 (laws_big.e r).2.2
  | _, _ => none
theorem laws_big.xok (k : Nat) : XOk 4 (laws_big.x k) := by
  intro ins bs κ res h
  unfold laws_big.x at h
  split at h
  · obtain ⟨r, hr, h⟩ := Option.bind_eq_some_iff.1 h
    exact ⟨_, _, _, laws_big.con k _ r hr, h⟩
  · cases h

/-! ### spec_l01New: function 12 -/
noncomputable def spec_l01New.sp : Nat → Option (Spec Ty) := fun r => bif Nat.beq r 3 then some ⟨[(0, .keep), (3, .keep), (4, .keep)], []⟩ else none
noncomputable def spec_l01New.en : Option (Spec Ty) := none
noncomputable def spec_l01New.s3 (x0 : List Int) (x3 : Int) (x4 : Int) : St Ty D := ⟨(Env.put (Env.put (Env.put E (some 0) (.row 1 .t5 x0)) (some 3) (.sc (.int .i64 x3))) (some 4) (.sc (.int .i64 x4))), H0, 1000⟩
noncomputable def spec_l01New.ctx (k : Nat) : Ctx Ty D := (fun _ _ _ _ => none)
noncomputable def spec_l01New.c3 : Nat → (List Int) → Int → Int → Option ((List Int) × Int × Int)
  | 0, _, _, _ => none
  | k + 1, x0, x3, x4 => (if x4 < (x0.length : Int) then (if x4 < 4000 then (if 0 ≤ x4 then (if x4 < (x0.length : Int) then (spec_l01New.c3 k x0 (Go.bits .and .i64 (w64 ((w64 ((w64 (x3 * 131)) + (w64 ((rd_T5 x0 x4))))) + 7)) 1073741823) (w64 (x4 + 1))) else none) else none) else (some (x0, 0, x3))) else (some (x0, 0, x3)))
noncomputable def spec_l01New.f (k : Nat) (a0 : List Int) : Option ((List Int) × Int × Int) := (spec_l01New.c3 k a0 (w64 (36501 + (a0.length : Int))) 0)
noncomputable def spec_l01New.e (r : (List Int) × Int × Int) : Res Ty D := (.pt 0 0 0, [], [.box [.row 1 .t5 r.1, .sc (.int .i64 r.2.1), .sc (.int .i64 r.2.2)]])
noncomputable abbrev spec_l01New.g (rec : List Item → St Ty D → R) (k : Nat) := go1 Try.f12 (spec_l01New.ctx k) spec_l01New.sp 0 spec_l01New.en rec
set_option maxRecDepth 100000 in
theorem spec_l01New.t3 (rec : List Item → St Ty D → R) (k : Nat) (x0 : List Int) (x3 : Int) (x4 : Int) : spec_l01New.g rec k (td Try.f12 3) (spec_l01New.s3 x0 x3 x4) =
  bif decide (x4 < (x0.length : Int)) then bif decide (x4 < 4000) then bif decide (0 ≤ x4) then bif decide (x4 < (x0.length : Int)) then rec (td Try.f12 3) (spec_l01New.s3 x0 (Go.bits .and .i64 (w64 ((w64 ((w64 (x3 * 131)) + (w64 ((rd_T5 x0 x4))))) + 7)) 1073741823) (w64 (x4 + 1))) else none else none else some (spec_l01New.e (x0, 0, x3)) else some (spec_l01New.e (x0, 0, x3)) := by kernel_rfl
set_option maxRecDepth 100000 in
theorem spec_l01New.te (rec : List Item → St Ty D → R) (k : Nat) (a0 : List Int) : spec_l01New.g rec k [.code (body Try.f12)] (startSt [.row 1 .t5 a0] []) =
  rec (td Try.f12 3) (spec_l01New.s3 a0 (w64 (36501 + (a0.length : Int))) 0) := by kernel_rfl
set_option maxRecDepth 100000 in
theorem spec_l01New.ok : ∀ k : Nat, (∀ (x0 : List Int) (x3 : Int) (x4 : Int), goF Try.f12 spec_l01New.ctx spec_l01New.sp 0 spec_l01New.en k (td Try.f12 3) (spec_l01New.s3 x0 x3 x4) = (spec_l01New.c3 k x0 x3 x4).map spec_l01New.e)
  | 0 => fun _ _ _ => rfl
  | k + 1 => by
    have ih := spec_l01New.ok k
    have i3 := ih
    intro x0 x3 x4; rw [spec_l01New.c3]; exact (spec_l01New.t3 _ k x0 x3 x4).trans (cd (cd (cd (cd (i3 _ _ _) rfl) rfl) rfl) rfl)
set_option maxRecDepth 100000 in
theorem spec_l01New.oke (k : Nat) (a0 : List Int) : goF Try.f12 spec_l01New.ctx spec_l01New.sp 0 spec_l01New.en (k + 1) [.code (body Try.f12)] (startSt [.row 1 .t5 a0] []) = (spec_l01New.f k a0).map spec_l01New.e := by
  have i3 := spec_l01New.ok k
  rw [spec_l01New.f]; exact (spec_l01New.te _ k a0).trans (i3 _ _ _)
theorem spec_l01New.con (k : Nat) (a0 : List Int) (r) (h : spec_l01New.f k a0 = some r) : Contract Try.prog kit 12 [.row 1 .t5 a0] [] (spec_l01New.e r).1 (spec_l01New.e r).2.1 (spec_l01New.e r).2.2 :=
  con_okG kitOk mix (fun k => CtxOk.nil) (spec_l01New.oke k a0) h (by kernel_rfl) (by kernel_rfl) (by kernel_rfl) rfl (by kernel_rfl) rfl rfl
noncomputable def spec_l01New.x (k : Nat) : X := fun ins bs κ => match ins, bs with
  | [.row 1 .t5 a0], [] => (spec_l01New.f k a0).bind fun r => κ (spec_l01New.e r).1 (spec_l01New.e r).2.1 (spec_l01New.e r).2.2
  | _, _ => none
theorem spec_l01New.xok (k : Nat) : XOk 12 (spec_l01New.x k) := by
  intro ins bs κ res h
  unfold spec_l01New.x at h
  split at h
  · obtain ⟨r, hr, h⟩ := Option.bind_eq_some_iff.1 h
    exact ⟨_, _, _, spec_l01New.con k _ r hr, h⟩
  · cases h

/-! ### spec_l01Byte: function 16 -/
noncomputable def spec_l01Byte.sp : Nat → Option (Spec Ty) := fun r => none
noncomputable def spec_l01Byte.en : Option (Spec Ty) := none
noncomputable def spec_l01Byte.ctx (k : Nat) : Ctx Ty D := (fun _ _ _ _ => none)
noncomputable def spec_l01Byte.f (k : Nat) (a0_0 : List Int) (a0_1 : Int) (a0_2 : Int) : Option (Int × (List Int) × Int × Int) := (if a0_1 < (a0_0.length : Int) then (if 0 ≤ a0_1 then (if a0_1 < (a0_0.length : Int) then (some ((Go.bits .and .i64 (w64 ((Go.bits .and .i64 (Go.bits .xor .i64 (Int.fdiv (w64 ((w64 (a0_2 * 6364136223846793005)) + 1442695040888963407)) 8589934592) (Int.fdiv (w64 ((w64 (a0_2 * 6364136223846793005)) + 1442695040888963407)) 35184372088832)) 255) + (w64 ((rd_T5 a0_0 a0_1))))) 255), a0_0, (w64 (a0_1 + 1)), (w64 ((w64 (a0_2 * 6364136223846793005)) + 1442695040888963407)))) else none) else none) else (some ((Go.bits .and .i64 (Go.bits .xor .i64 (Int.fdiv (w64 ((w64 (a0_2 * 6364136223846793005)) + 1442695040888963407)) 8589934592) (Int.fdiv (w64 ((w64 (a0_2 * 6364136223846793005)) + 1442695040888963407)) 35184372088832)) 255), a0_0, a0_1, (w64 ((w64 (a0_2 * 6364136223846793005)) + 1442695040888963407)))))
noncomputable def spec_l01Byte.e (r : Int × (List Int) × Int × Int) : Res Ty D := (.sc (.int .i64 r.1), [some (.box [.row 1 .t5 r.2.1, .sc (.int .i64 r.2.2.1), .sc (.int .i64 r.2.2.2)])], [])
noncomputable abbrev spec_l01Byte.g (rec : List Item → St Ty D → R) (k : Nat) := go1 Try.f16 (spec_l01Byte.ctx k) spec_l01Byte.sp 1 spec_l01Byte.en rec
set_option maxRecDepth 100000 in
theorem spec_l01Byte.te (rec : List Item → St Ty D → R) (k : Nat) (a0_0 : List Int) (a0_1 : Int) (a0_2 : Int) : spec_l01Byte.g rec k [.code (body Try.f16)] (startSt [.pt 0 0 0] [.box [.row 1 .t5 a0_0, .sc (.int .i64 a0_1), .sc (.int .i64 a0_2)]]) =
  bif decide (a0_1 < (a0_0.length : Int)) then bif decide (0 ≤ a0_1) then bif decide (a0_1 < (a0_0.length : Int)) then some (spec_l01Byte.e ((Go.bits .and .i64 (w64 ((Go.bits .and .i64 (Go.bits .xor .i64 (Int.fdiv (w64 ((w64 (a0_2 * 6364136223846793005)) + 1442695040888963407)) 8589934592) (Int.fdiv (w64 ((w64 (a0_2 * 6364136223846793005)) + 1442695040888963407)) 35184372088832)) 255) + (w64 ((rd_T5 a0_0 a0_1))))) 255), a0_0, (w64 (a0_1 + 1)), (w64 ((w64 (a0_2 * 6364136223846793005)) + 1442695040888963407)))) else none else none else some (spec_l01Byte.e ((Go.bits .and .i64 (Go.bits .xor .i64 (Int.fdiv (w64 ((w64 (a0_2 * 6364136223846793005)) + 1442695040888963407)) 8589934592) (Int.fdiv (w64 ((w64 (a0_2 * 6364136223846793005)) + 1442695040888963407)) 35184372088832)) 255), a0_0, a0_1, (w64 ((w64 (a0_2 * 6364136223846793005)) + 1442695040888963407)))) := by kernel_rfl
set_option maxRecDepth 100000 in
theorem spec_l01Byte.oke (k : Nat) (a0_0 : List Int) (a0_1 : Int) (a0_2 : Int) : goF Try.f16 spec_l01Byte.ctx spec_l01Byte.sp 1 spec_l01Byte.en (k + 1) [.code (body Try.f16)] (startSt [.pt 0 0 0] [.box [.row 1 .t5 a0_0, .sc (.int .i64 a0_1), .sc (.int .i64 a0_2)]]) = (spec_l01Byte.f k a0_0 a0_1 a0_2).map spec_l01Byte.e := by
  rw [spec_l01Byte.f]; exact (spec_l01Byte.te _ k a0_0 a0_1 a0_2).trans (cd (cd (cd rfl rfl) rfl) rfl)
theorem spec_l01Byte.con (k : Nat) (a0_0 : List Int) (a0_1 : Int) (a0_2 : Int) (r) (h : spec_l01Byte.f k a0_0 a0_1 a0_2 = some r) : Contract Try.prog kit 16 [.pt 0 0 0] [.box [.row 1 .t5 a0_0, .sc (.int .i64 a0_1), .sc (.int .i64 a0_2)]] (spec_l01Byte.e r).1 (spec_l01Byte.e r).2.1 (spec_l01Byte.e r).2.2 :=
  con_okG kitOk mix (fun k => CtxOk.nil) (spec_l01Byte.oke k a0_0 a0_1 a0_2) h (by kernel_rfl) (by kernel_rfl) (by kernel_rfl) rfl (by kernel_rfl) rfl rfl
noncomputable def spec_l01Byte.x (k : Nat) : X := fun ins bs κ => match ins, bs with
  | [.pt 0 0 0], [.box [.row 1 .t5 a0_0, .sc (.int .i64 a0_1), .sc (.int .i64 a0_2)]] => (spec_l01Byte.f k a0_0 a0_1 a0_2).bind fun r => κ (spec_l01Byte.e r).1 (spec_l01Byte.e r).2.1 (spec_l01Byte.e r).2.2
  | _, _ => none
theorem spec_l01Byte.xok (k : Nat) : XOk 16 (spec_l01Byte.x k) := by
  intro ins bs κ res h
  unfold spec_l01Byte.x at h
  split at h
  · obtain ⟨r, hr, h⟩ := Option.bind_eq_some_iff.1 h
    exact ⟨_, _, _, spec_l01Byte.con k _ _ _ r hr, h⟩
  · cases h

/-! ### spec_l01Below: function 15 -/
noncomputable def spec_l01Below.sp : Nat → Option (Spec Ty) := fun r => none
noncomputable def spec_l01Below.en : Option (Spec Ty) := none
noncomputable def spec_l01Below.ctx (k : Nat) : Ctx Ty D := (cons 16 (spec_l01Byte.x k) (fun _ _ _ _ => none))
noncomputable def spec_l01Below.f (k : Nat) (a1 : Int) (a0_0 : List Int) (a0_1 : Int) (a0_2 : Int) : Option (Int × (List Int) × Int × Int) := (if a1 ≤ 0 then (some (0, a0_0, a0_1, a0_2)) else (if a1 ≤ 256 then ((spec_l01Byte.f k a0_0 a0_1 a0_2).bind fun t1 => (if a1 = 0 then none else (some ((Int.tmod t1.1 a1), t1.2.1, t1.2.2.1, t1.2.2.2)))) else ((spec_l01Byte.f k a0_0 a0_1 a0_2).bind fun t2 => ((spec_l01Byte.f k t2.2.1 t2.2.2.1 t2.2.2.2).bind fun t3 => ((spec_l01Byte.f k t3.2.1 t3.2.2.1 t3.2.2.2).bind fun t4 => ((spec_l01Byte.f k t4.2.1 t4.2.2.1 t4.2.2.2).bind fun t5 => (if a1 = 0 then none else (some ((Int.tmod (w64 ((w64 ((w64 ((w64 (t2.1 * 16777216)) + (w64 (t3.1 * 65536)))) + (w64 (t4.1 * 256)))) + t5.1)) a1), t5.2.1, t5.2.2.1, t5.2.2.2)))))))))
noncomputable def spec_l01Below.e (r : Int × (List Int) × Int × Int) : Res Ty D := (.sc (.int .i64 r.1), [some (.box [.row 1 .t5 r.2.1, .sc (.int .i64 r.2.2.1), .sc (.int .i64 r.2.2.2)])], [])
noncomputable abbrev spec_l01Below.g (rec : List Item → St Ty D → R) (k : Nat) := go1 Try.f15 (spec_l01Below.ctx k) spec_l01Below.sp 1 spec_l01Below.en rec
set_option maxRecDepth 100000 in
theorem spec_l01Below.te (rec : List Item → St Ty D → R) (k : Nat) (a1 : Int) (a0_0 : List Int) (a0_1 : Int) (a0_2 : Int) : spec_l01Below.g rec k [.code (body Try.f15)] (startSt [.pt 0 0 0, .sc (.int .i64 a1)] [.box [.row 1 .t5 a0_0, .sc (.int .i64 a0_1), .sc (.int .i64 a0_2)]]) =
  bif decide (a1 ≤ 0) then some (spec_l01Below.e (0, a0_0, a0_1, a0_2)) else bif decide (a1 ≤ 256) then (spec_l01Byte.f k a0_0 a0_1 a0_2).bind fun t1 => bif !decide (a1 = 0) then some (spec_l01Below.e ((Int.tmod t1.1 a1), t1.2.1, t1.2.2.1, t1.2.2.2)) else none else (spec_l01Byte.f k a0_0 a0_1 a0_2).bind fun t2 => (spec_l01Byte.f k t2.2.1 t2.2.2.1 t2.2.2.2).bind fun t3 => (spec_l01Byte.f k t3.2.1 t3.2.2.1 t3.2.2.2).bind fun t4 => (spec_l01Byte.f k t4.2.1 t4.2.2.1 t4.2.2.2).bind fun t5 => bif !decide (a1 = 0) then some (spec_l01Below.e ((Int.tmod (w64 ((w64 ((w64 ((w64 (t2.1 * 16777216)) + (w64 (t3.1 * 65536)))) + (w64 (t4.1 * 256)))) + t5.1)) a1), t5.2.1, t5.2.2.1, t5.2.2.2)) else none := by kernel_rfl
set_option maxRecDepth 100000 in
theorem spec_l01Below.oke (k : Nat) (a1 : Int) (a0_0 : List Int) (a0_1 : Int) (a0_2 : Int) : goF Try.f15 spec_l01Below.ctx spec_l01Below.sp 1 spec_l01Below.en (k + 1) [.code (body Try.f15)] (startSt [.pt 0 0 0, .sc (.int .i64 a1)] [.box [.row 1 .t5 a0_0, .sc (.int .i64 a0_1), .sc (.int .i64 a0_2)]]) = (spec_l01Below.f k a1 a0_0 a0_1 a0_2).map spec_l01Below.e := by
  rw [spec_l01Below.f]; exact (spec_l01Below.te _ k a1 a0_0 a0_1 a0_2).trans (cd rfl (cd (bn (fun t1 => (nd rfl rfl))) (bn (fun t2 => (bn (fun t3 => (bn (fun t4 => (bn (fun t5 => (nd rfl rfl)))))))))))
theorem spec_l01Below.con (k : Nat) (a1 : Int) (a0_0 : List Int) (a0_1 : Int) (a0_2 : Int) (r) (h : spec_l01Below.f k a1 a0_0 a0_1 a0_2 = some r) : Contract Try.prog kit 15 [.pt 0 0 0, .sc (.int .i64 a1)] [.box [.row 1 .t5 a0_0, .sc (.int .i64 a0_1), .sc (.int .i64 a0_2)]] (spec_l01Below.e r).1 (spec_l01Below.e r).2.1 (spec_l01Below.e r).2.2 :=
  con_okG kitOk mix (fun k => (CtxOk.cons (spec_l01Byte.xok k) CtxOk.nil)) (spec_l01Below.oke k a1 a0_0 a0_1 a0_2) h (by kernel_rfl) (by kernel_rfl) (by kernel_rfl) rfl (by kernel_rfl) rfl rfl
noncomputable def spec_l01Below.x (k : Nat) : X := fun ins bs κ => match ins, bs with
  | [.pt 0 0 0, .sc (.int .i64 a1)], [.box [.row 1 .t5 a0_0, .sc (.int .i64 a0_1), .sc (.int .i64 a0_2)]] => (spec_l01Below.f k a1 a0_0 a0_1 a0_2).bind fun r => κ (spec_l01Below.e r).1 (spec_l01Below.e r).2.1 (spec_l01Below.e r).2.2
  | _, _ => none
theorem spec_l01Below.xok (k : Nat) : XOk 15 (spec_l01Below.x k) := by
  intro ins bs κ res h
  unfold spec_l01Below.x at h
  split at h
  · obtain ⟨r, hr, h⟩ := Option.bind_eq_some_iff.1 h
    exact ⟨_, _, _, spec_l01Below.con k _ _ _ _ r hr, h⟩
  · cases h

/-! ### spec_l01PickInt: function 33 -/
noncomputable def spec_l01PickInt.sp : Nat → Option (Spec Ty) := fun r => none
noncomputable def spec_l01PickInt.en : Option (Spec Ty) := none
noncomputable def spec_l01PickInt.ctx (k : Nat) : Ctx Ty D := (cons 15 (spec_l01Below.x k) (fun _ _ _ _ => none))
noncomputable def spec_l01PickInt.f (k : Nat) (a1 : List Int) (a0_0 : List Int) (a0_1 : Int) (a0_2 : Int) : Option (Int × (List Int) × Int × Int) := ((spec_l01Below.f k (a1.length : Int) a0_0 a0_1 a0_2).bind fun t1 => (if 0 ≤ t1.1 then (if t1.1 < (a1.length : Int) then (some ((rd_T3 a1 t1.1), t1.2.1, t1.2.2.1, t1.2.2.2)) else none) else none))
noncomputable def spec_l01PickInt.e (r : Int × (List Int) × Int × Int) : Res Ty D := (.sc (.int .i64 r.1), [some (.box [.row 1 .t5 r.2.1, .sc (.int .i64 r.2.2.1), .sc (.int .i64 r.2.2.2)])], [])
noncomputable abbrev spec_l01PickInt.g (rec : List Item → St Ty D → R) (k : Nat) := go1 Try.f33 (spec_l01PickInt.ctx k) spec_l01PickInt.sp 1 spec_l01PickInt.en rec
set_option maxRecDepth 100000 in
theorem spec_l01PickInt.te (rec : List Item → St Ty D → R) (k : Nat) (a1 : List Int) (a0_0 : List Int) (a0_1 : Int) (a0_2 : Int) : spec_l01PickInt.g rec k [.code (body Try.f33)] (startSt [.pt 0 0 0, .row 0 .t3 a1] [.box [.row 1 .t5 a0_0, .sc (.int .i64 a0_1), .sc (.int .i64 a0_2)]]) =
  (spec_l01Below.f k (a1.length : Int) a0_0 a0_1 a0_2).bind fun t1 => bif decide (0 ≤ t1.1) then bif decide (t1.1 < (a1.length : Int)) then some (spec_l01PickInt.e ((rd_T3 a1 t1.1), t1.2.1, t1.2.2.1, t1.2.2.2)) else none else none := by kernel_rfl
set_option maxRecDepth 100000 in
theorem spec_l01PickInt.oke (k : Nat) (a1 : List Int) (a0_0 : List Int) (a0_1 : Int) (a0_2 : Int) : goF Try.f33 spec_l01PickInt.ctx spec_l01PickInt.sp 1 spec_l01PickInt.en (k + 1) [.code (body Try.f33)] (startSt [.pt 0 0 0, .row 0 .t3 a1] [.box [.row 1 .t5 a0_0, .sc (.int .i64 a0_1), .sc (.int .i64 a0_2)]]) = (spec_l01PickInt.f k a1 a0_0 a0_1 a0_2).map spec_l01PickInt.e := by
  rw [spec_l01PickInt.f]; exact (spec_l01PickInt.te _ k a1 a0_0 a0_1 a0_2).trans (bn (fun t1 => (cd (cd rfl rfl) rfl)))
theorem spec_l01PickInt.con (k : Nat) (a1 : List Int) (a0_0 : List Int) (a0_1 : Int) (a0_2 : Int) (r) (h : spec_l01PickInt.f k a1 a0_0 a0_1 a0_2 = some r) : Contract Try.prog kit 33 [.pt 0 0 0, .row 0 .t3 a1] [.box [.row 1 .t5 a0_0, .sc (.int .i64 a0_1), .sc (.int .i64 a0_2)]] (spec_l01PickInt.e r).1 (spec_l01PickInt.e r).2.1 (spec_l01PickInt.e r).2.2 :=
  con_okG kitOk mix (fun k => (CtxOk.cons (spec_l01Below.xok k) CtxOk.nil)) (spec_l01PickInt.oke k a1 a0_0 a0_1 a0_2) h (by kernel_rfl) (by kernel_rfl) (by kernel_rfl) rfl (by kernel_rfl) rfl rfl
noncomputable def spec_l01PickInt.x (k : Nat) : X := fun ins bs κ => match ins, bs with
  | [.pt 0 0 0, .row 0 .t3 a1], [.box [.row 1 .t5 a0_0, .sc (.int .i64 a0_1), .sc (.int .i64 a0_2)]] => (spec_l01PickInt.f k a1 a0_0 a0_1 a0_2).bind fun r => κ (spec_l01PickInt.e r).1 (spec_l01PickInt.e r).2.1 (spec_l01PickInt.e r).2.2
  | _, _ => none
theorem spec_l01PickInt.xok (k : Nat) : XOk 33 (spec_l01PickInt.x k) := by
  intro ins bs κ res h
  unfold spec_l01PickInt.x at h
  split at h
  · obtain ⟨r, hr, h⟩ := Option.bind_eq_some_iff.1 h
    exact ⟨_, _, _, spec_l01PickInt.con k _ _ _ _ r hr, h⟩
  · cases h

/-! ### spec_l09Rec: function 24 -/
noncomputable def spec_l09Rec.sp : Nat → Option (Spec Ty) := fun r => none
noncomputable def spec_l09Rec.en : Option (Spec Ty) := none
noncomputable def spec_l09Rec.ctx (k : Nat) : Ctx Ty D := (cons 15 (spec_l01Below.x k) (cons 33 (spec_l01PickInt.x k) (fun _ _ _ _ => none)))
noncomputable def spec_l09Rec.f (k : Nat) (a0_0 : List Int) (a0_1 : Int) (a0_2 : Int) : Option (Int × Int × Int × Int × (List Int) × Int × Int) := ((spec_l01PickInt.f k ([2, 2, 3, 4, 4, 4, 4, 4, 5] : List Int) a0_0 a0_1 a0_2).bind fun t1 => ((spec_l01Below.f k 3 t1.2.1 t1.2.2.1 t1.2.2.2).bind fun t2 => (if t1.1 = 2 then ((spec_l01PickInt.f k ([0, 0, 1, 2] : List Int) t2.2.1 t2.2.2.1 t2.2.2.2).bind fun t3 => (some (t1.1, (w64 (1 + t2.1)), t3.1, 0, t3.2.1, t3.2.2.1, t3.2.2.2))) else (if t1.1 = 4 then ((spec_l01Below.f k 16 t2.2.1 t2.2.2.1 t2.2.2.2).bind fun t4 => ((spec_l01Below.f k 9 t4.2.1 t4.2.2.1 t4.2.2.2).bind fun t5 => (some (t1.1, (w64 (1 + t2.1)), t4.1, (w64 (1 + t5.1)), t5.2.1, t5.2.2.1, t5.2.2.2)))) else (if t1.1 = 5 then ((spec_l01Below.f k 16 t2.2.1 t2.2.2.1 t2.2.2.2).bind fun t6 => (some (t1.1, (w64 (1 + t2.1)), t6.1, 0, t6.2.1, t6.2.2.1, t6.2.2.2))) else (some (t1.1, (w64 (1 + t2.1)), 0, 0, t2.2.1, t2.2.2.1, t2.2.2.2)))))))
noncomputable def spec_l09Rec.e (r : Int × Int × Int × Int × (List Int) × Int × Int) : Res Ty D := (.ag [.sc (.int .i64 r.1), .sc (.int .i64 r.2.1), .sc (.int .i64 r.2.2.1), .sc (.int .i64 r.2.2.2.1)], [some (.box [.row 1 .t5 r.2.2.2.2.1, .sc (.int .i64 r.2.2.2.2.2.1), .sc (.int .i64 r.2.2.2.2.2.2)])], [])
noncomputable abbrev spec_l09Rec.g (rec : List Item → St Ty D → R) (k : Nat) := go1 Try.f24 (spec_l09Rec.ctx k) spec_l09Rec.sp 1 spec_l09Rec.en rec
set_option maxRecDepth 100000 in
theorem spec_l09Rec.te (rec : List Item → St Ty D → R) (k : Nat) (a0_0 : List Int) (a0_1 : Int) (a0_2 : Int) : spec_l09Rec.g rec k [.code (body Try.f24)] (startSt [.pt 0 0 0] [.box [.row 1 .t5 a0_0, .sc (.int .i64 a0_1), .sc (.int .i64 a0_2)]]) =
  (spec_l01PickInt.f k ([2, 2, 3, 4, 4, 4, 4, 4, 5] : List Int) a0_0 a0_1 a0_2).bind fun t1 => (spec_l01Below.f k 3 t1.2.1 t1.2.2.1 t1.2.2.2).bind fun t2 => bif decide (t1.1 = 2) then (spec_l01PickInt.f k ([0, 0, 1, 2] : List Int) t2.2.1 t2.2.2.1 t2.2.2.2).bind fun t3 => some (spec_l09Rec.e (t1.1, (w64 (1 + t2.1)), t3.1, 0, t3.2.1, t3.2.2.1, t3.2.2.2)) else bif decide (t1.1 = 4) then (spec_l01Below.f k 16 t2.2.1 t2.2.2.1 t2.2.2.2).bind fun t4 => (spec_l01Below.f k 9 t4.2.1 t4.2.2.1 t4.2.2.2).bind fun t5 => some (spec_l09Rec.e (t1.1, (w64 (1 + t2.1)), t4.1, (w64 (1 + t5.1)), t5.2.1, t5.2.2.1, t5.2.2.2)) else bif decide (t1.1 = 5) then (spec_l01Below.f k 16 t2.2.1 t2.2.2.1 t2.2.2.2).bind fun t6 => some (spec_l09Rec.e (t1.1, (w64 (1 + t2.1)), t6.1, 0, t6.2.1, t6.2.2.1, t6.2.2.2)) else some (spec_l09Rec.e (t1.1, (w64 (1 + t2.1)), 0, 0, t2.2.1, t2.2.2.1, t2.2.2.2)) := by kernel_rfl
set_option maxRecDepth 100000 in
theorem spec_l09Rec.oke (k : Nat) (a0_0 : List Int) (a0_1 : Int) (a0_2 : Int) : goF Try.f24 spec_l09Rec.ctx spec_l09Rec.sp 1 spec_l09Rec.en (k + 1) [.code (body Try.f24)] (startSt [.pt 0 0 0] [.box [.row 1 .t5 a0_0, .sc (.int .i64 a0_1), .sc (.int .i64 a0_2)]]) = (spec_l09Rec.f k a0_0 a0_1 a0_2).map spec_l09Rec.e := by
  rw [spec_l09Rec.f]; exact (spec_l09Rec.te _ k a0_0 a0_1 a0_2).trans (bn (fun t1 => (bn (fun t2 => (cd (bn (fun t3 => rfl)) (cd (bn (fun t4 => (bn (fun t5 => rfl)))) (cd (bn (fun t6 => rfl)) rfl)))))))
theorem spec_l09Rec.con (k : Nat) (a0_0 : List Int) (a0_1 : Int) (a0_2 : Int) (r) (h : spec_l09Rec.f k a0_0 a0_1 a0_2 = some r) : Contract Try.prog kit 24 [.pt 0 0 0] [.box [.row 1 .t5 a0_0, .sc (.int .i64 a0_1), .sc (.int .i64 a0_2)]] (spec_l09Rec.e r).1 (spec_l09Rec.e r).2.1 (spec_l09Rec.e r).2.2 :=
  con_okG kitOk mix (fun k => (CtxOk.cons (spec_l01Below.xok k) (CtxOk.cons (spec_l01PickInt.xok k) CtxOk.nil))) (spec_l09Rec.oke k a0_0 a0_1 a0_2) h (by kernel_rfl) (by kernel_rfl) (by kernel_rfl) rfl (by kernel_rfl) rfl rfl
noncomputable def spec_l09Rec.x (k : Nat) : X := fun ins bs κ => match ins, bs with
  | [.pt 0 0 0], [.box [.row 1 .t5 a0_0, .sc (.int .i64 a0_1), .sc (.int .i64 a0_2)]] => (spec_l09Rec.f k a0_0 a0_1 a0_2).bind fun r => κ (spec_l09Rec.e r).1 (spec_l09Rec.e r).2.1 (spec_l09Rec.e r).2.2
  | _, _ => none
theorem spec_l09Rec.xok (k : Nat) : XOk 24 (spec_l09Rec.x k) := by
  intro ins bs κ res h
  unfold spec_l09Rec.x at h
  split at h
  · obtain ⟨r, hr, h⟩ := Option.bind_eq_some_iff.1 h
    exact ⟨_, _, _, spec_l09Rec.con k _ _ _ r hr, h⟩
  · cases h

/-! ### spec_l09Recs: function 13 -/
noncomputable def spec_l09Recs.sp : Nat → Option (Spec Ty) := fun r => bif Nat.beq r 3 then some ⟨[(0, .box [.keep, .keep, .keep]), (3, .own .t48), (4, .keep)], [(0, some [.keep, .keep, .keep])]⟩ else none
noncomputable def spec_l09Recs.en : Option (Spec Ty) := some ⟨[(2, .own .t48)], [(0, some [.keep, .keep, .keep])]⟩
noncomputable def spec_l09Recs.s3 (x4 : Int) (h0_0 : List Int) (h0_1 : Int) (h0_2 : Int) (h64 : List S48) : St Ty D := ⟨(Env.put (Env.put (Env.put E (some 0) (.pt 0 0 0)) (some 3) (.sl 64 none)) (some 4) (.sc (.int .i64 x4))), Heap.put H0 [(0, some (.box [.row 1 .t5 h0_0, .sc (.int .i64 h0_1), .sc (.int .i64 h0_2)])), (64, some (.rowb .t48 h64 0))], 1000⟩
noncomputable def spec_l09Recs.ctx (k : Nat) : Ctx Ty D := (cons 15 (spec_l01Below.x k) (cons 24 (spec_l09Rec.x k) (fun _ _ _ _ => none)))
noncomputable def spec_l09Recs.c3 : Nat → Int → (List Int) → Int → Int → (List S48) → Option ((List S48) × (List Int) × Int × Int)
  | 0, _, _, _, _, _ => none
  | k + 1, x4, h0_0, h0_1, h0_2, h64 => ((spec_l01Below.f k 9 h0_0 h0_1 h0_2).bind fun t1 => (if x4 < t1.1 then ((spec_l09Rec.f k t1.2.1 t1.2.2.1 t1.2.2.2).bind fun t2 => (if h64.length + ([(S48.mk t2.1 t2.2.1 t2.2.2.1 t2.2.2.2.1)] : List S48).length ≤ 4398046511104 then (spec_l09Recs.c3 k (w64 (x4 + 1)) t2.2.2.2.2.1 t2.2.2.2.2.2.1 t2.2.2.2.2.2.2 (h64 ++ ([(S48.mk t2.1 t2.2.1 t2.2.2.1 t2.2.2.2.1)] : List S48))) else none)) else (some (h64, t1.2.1, t1.2.2.1, t1.2.2.2))))
noncomputable def spec_l09Recs.f (k : Nat) (a0_0 : List Int) (a0_1 : Int) (a0_2 : Int) : Option ((List S48) × (List Int) × Int × Int) := (spec_l09Recs.c3 k 0 a0_0 a0_1 a0_2 ([] : List S48))
noncomputable def spec_l09Recs.e (r : (List S48) × (List Int) × Int × Int) : Res Ty D := (.sl 1 none, [some (.box [.row 1 .t5 r.2.1, .sc (.int .i64 r.2.2.1), .sc (.int .i64 r.2.2.2)])], [.rowb .t48 r.1 0])
noncomputable abbrev spec_l09Recs.g (rec : List Item → St Ty D → R) (k : Nat) := go1 Try.f13 (spec_l09Recs.ctx k) spec_l09Recs.sp 1 spec_l09Recs.en rec
set_option maxRecDepth 100000 in
theorem spec_l09Recs.t3 (rec : List Item → St Ty D → R) (k : Nat) (x4 : Int) (h0_0 : List Int) (h0_1 : Int) (h0_2 : Int) (h64 : List S48) : spec_l09Recs.g rec k (td Try.f13 3) (spec_l09Recs.s3 x4 h0_0 h0_1 h0_2 h64) =
  (spec_l01Below.f k 9 h0_0 h0_1 h0_2).bind fun t1 => bif decide (x4 < t1.1) then (spec_l09Rec.f k t1.2.1 t1.2.2.1 t1.2.2.2).bind fun t2 => bif decide (h64.length + ([(S48.mk t2.1 t2.2.1 t2.2.2.1 t2.2.2.2.1)] : List S48).length ≤ 4398046511104) then rec (td Try.f13 3) (spec_l09Recs.s3 (w64 (x4 + 1)) t2.2.2.2.2.1 t2.2.2.2.2.2.1 t2.2.2.2.2.2.2 (h64 ++ ([(S48.mk t2.1 t2.2.1 t2.2.2.1 t2.2.2.2.1)] : List S48))) else none else some (spec_l09Recs.e (h64, t1.2.1, t1.2.2.1, t1.2.2.2)) := by kernel_rfl
set_option maxRecDepth 100000 in
theorem spec_l09Recs.te (rec : List Item → St Ty D → R) (k : Nat) (a0_0 : List Int) (a0_1 : Int) (a0_2 : Int) : spec_l09Recs.g rec k [.code (body Try.f13)] (startSt [.pt 0 0 0] [.box [.row 1 .t5 a0_0, .sc (.int .i64 a0_1), .sc (.int .i64 a0_2)]]) =
  rec (td Try.f13 3) (spec_l09Recs.s3 0 a0_0 a0_1 a0_2 ([] : List S48)) := by kernel_rfl
set_option maxRecDepth 100000 in
theorem spec_l09Recs.ok : ∀ k : Nat, (∀ (x4 : Int) (h0_0 : List Int) (h0_1 : Int) (h0_2 : Int) (h64 : List S48), goF Try.f13 spec_l09Recs.ctx spec_l09Recs.sp 1 spec_l09Recs.en k (td Try.f13 3) (spec_l09Recs.s3 x4 h0_0 h0_1 h0_2 h64) = (spec_l09Recs.c3 k x4 h0_0 h0_1 h0_2 h64).map spec_l09Recs.e)
  | 0 => fun _ _ _ _ _ => rfl
  | k + 1 => by
    have ih := spec_l09Recs.ok k
    have i3 := ih
    intro x4 h0_0 h0_1 h0_2 h64; rw [spec_l09Recs.c3]; exact (spec_l09Recs.t3 _ k x4 h0_0 h0_1 h0_2 h64).trans (bn (fun t1 => (cd (bn (fun t2 => (cd (i3 _ _ _ _ _) rfl))) rfl)))
set_option maxRecDepth 100000 in
theorem spec_l09Recs.oke (k : Nat) (a0_0 : List Int) (a0_1 : Int) (a0_2 : Int) : goF Try.f13 spec_l09Recs.ctx spec_l09Recs.sp 1 spec_l09Recs.en (k + 1) [.code (body Try.f13)] (startSt [.pt 0 0 0] [.box [.row 1 .t5 a0_0, .sc (.int .i64 a0_1), .sc (.int .i64 a0_2)]]) = (spec_l09Recs.f k a0_0 a0_1 a0_2).map spec_l09Recs.e := by
  have i3 := spec_l09Recs.ok k
  rw [spec_l09Recs.f]; exact (spec_l09Recs.te _ k a0_0 a0_1 a0_2).trans (i3 _ _ _ _ _)
theorem spec_l09Recs.con (k : Nat) (a0_0 : List Int) (a0_1 : Int) (a0_2 : Int) (r) (h : spec_l09Recs.f k a0_0 a0_1 a0_2 = some r) : Contract Try.prog kit 13 [.pt 0 0 0] [.box [.row 1 .t5 a0_0, .sc (.int .i64 a0_1), .sc (.int .i64 a0_2)]] (spec_l09Recs.e r).1 (spec_l09Recs.e r).2.1 (spec_l09Recs.e r).2.2 :=
  con_okG kitOk mix (fun k => (CtxOk.cons (spec_l01Below.xok k) (CtxOk.cons (spec_l09Rec.xok k) CtxOk.nil))) (spec_l09Recs.oke k a0_0 a0_1 a0_2) h (by kernel_rfl) (by kernel_rfl) (by kernel_rfl) rfl (by kernel_rfl) rfl rfl
noncomputable def spec_l09Recs.x (k : Nat) : X := fun ins bs κ => match ins, bs with
  | [.pt 0 0 0], [.box [.row 1 .t5 a0_0, .sc (.int .i64 a0_1), .sc (.int .i64 a0_2)]] => (spec_l09Recs.f k a0_0 a0_1 a0_2).bind fun r => κ (spec_l09Recs.e r).1 (spec_l09Recs.e r).2.1 (spec_l09Recs.e r).2.2
  | _, _ => none
theorem spec_l09Recs.xok (k : Nat) : XOk 13 (spec_l09Recs.x k) := by
  intro ins bs κ res h
  unfold spec_l09Recs.x at h
  split at h
  · obtain ⟨r, hr, h⟩ := Option.bind_eq_some_iff.1 h
    exact ⟨_, _, _, spec_l09Recs.con k _ _ _ r hr, h⟩
  · cases h

/-! ### spec_l01Once: function 14 -/
noncomputable def spec_l01Once.sp : Nat → Option (Spec Ty) := fun r => none
noncomputable def spec_l01Once.en : Option (Spec Ty) := none
noncomputable def spec_l01Once.ctx (k : Nat) : Ctx Ty D := (cons 15 (spec_l01Below.x k) (fun _ _ _ _ => none))
noncomputable def spec_l01Once.f (k : Nat) (a1 : Int) (a0_0 : List Int) (a0_1 : Int) (a0_2 : Int) : Option (Bool × (List Int) × Int × Int) := ((spec_l01Below.f k a1 a0_0 a0_1 a0_2).bind fun t1 => (some ((decide (t1.1 = 0)), t1.2.1, t1.2.2.1, t1.2.2.2)))
noncomputable def spec_l01Once.e (r : Bool × (List Int) × Int × Int) : Res Ty D := (.sc (.bool r.1), [some (.box [.row 1 .t5 r.2.1, .sc (.int .i64 r.2.2.1), .sc (.int .i64 r.2.2.2)])], [])
noncomputable abbrev spec_l01Once.g (rec : List Item → St Ty D → R) (k : Nat) := go1 Try.f14 (spec_l01Once.ctx k) spec_l01Once.sp 1 spec_l01Once.en rec
set_option maxRecDepth 100000 in
theorem spec_l01Once.te (rec : List Item → St Ty D → R) (k : Nat) (a1 : Int) (a0_0 : List Int) (a0_1 : Int) (a0_2 : Int) : spec_l01Once.g rec k [.code (body Try.f14)] (startSt [.pt 0 0 0, .sc (.int .i64 a1)] [.box [.row 1 .t5 a0_0, .sc (.int .i64 a0_1), .sc (.int .i64 a0_2)]]) =
  (spec_l01Below.f k a1 a0_0 a0_1 a0_2).bind fun t1 => some (spec_l01Once.e ((decide (t1.1 = 0)), t1.2.1, t1.2.2.1, t1.2.2.2)) := by kernel_rfl
set_option maxRecDepth 100000 in
theorem spec_l01Once.oke (k : Nat) (a1 : Int) (a0_0 : List Int) (a0_1 : Int) (a0_2 : Int) : goF Try.f14 spec_l01Once.ctx spec_l01Once.sp 1 spec_l01Once.en (k + 1) [.code (body Try.f14)] (startSt [.pt 0 0 0, .sc (.int .i64 a1)] [.box [.row 1 .t5 a0_0, .sc (.int .i64 a0_1), .sc (.int .i64 a0_2)]]) = (spec_l01Once.f k a1 a0_0 a0_1 a0_2).map spec_l01Once.e := by
  rw [spec_l01Once.f]; exact (spec_l01Once.te _ k a1 a0_0 a0_1 a0_2).trans (bn (fun t1 => rfl))
theorem spec_l01Once.con (k : Nat) (a1 : Int) (a0_0 : List Int) (a0_1 : Int) (a0_2 : Int) (r) (h : spec_l01Once.f k a1 a0_0 a0_1 a0_2 = some r) : Contract Try.prog kit 14 [.pt 0 0 0, .sc (.int .i64 a1)] [.box [.row 1 .t5 a0_0, .sc (.int .i64 a0_1), .sc (.int .i64 a0_2)]] (spec_l01Once.e r).1 (spec_l01Once.e r).2.1 (spec_l01Once.e r).2.2 :=
  con_okG kitOk mix (fun k => (CtxOk.cons (spec_l01Below.xok k) CtxOk.nil)) (spec_l01Once.oke k a1 a0_0 a0_1 a0_2) h (by kernel_rfl) (by kernel_rfl) (by kernel_rfl) rfl (by kernel_rfl) rfl rfl
noncomputable def spec_l01Once.x (k : Nat) : X := fun ins bs κ => match ins, bs with
  | [.pt 0 0 0, .sc (.int .i64 a1)], [.box [.row 1 .t5 a0_0, .sc (.int .i64 a0_1), .sc (.int .i64 a0_2)]] => (spec_l01Once.f k a1 a0_0 a0_1 a0_2).bind fun r => κ (spec_l01Once.e r).1 (spec_l01Once.e r).2.1 (spec_l01Once.e r).2.2
  | _, _ => none
theorem spec_l01Once.xok (k : Nat) : XOk 14 (spec_l01Once.x k) := by
  intro ins bs κ res h
  unfold spec_l01Once.x at h
  split at h
  · obtain ⟨r, hr, h⟩ := Option.bind_eq_some_iff.1 h
    exact ⟨_, _, _, spec_l01Once.con k _ _ _ _ r hr, h⟩
  · cases h

/-! ### spec_DrawManyRecords: function 5 -/
noncomputable def spec_DrawManyRecords.sp : Nat → Option (Spec Ty) := fun r => bif Nat.beq r 4 then some ⟨[(3, .box [.keep, .keep, .keep]), (4, .own .t48)], []⟩ else none
noncomputable def spec_DrawManyRecords.en : Option (Spec Ty) := some ⟨[(2, .own .t48)], []⟩
noncomputable def spec_DrawManyRecords.s4 (h64_0 : List Int) (h64_1 : Int) (h64_2 : Int) (h65 : List S48) : St Ty D := ⟨(Env.put (Env.put E (some 3) (.pt 64 0 0)) (some 4) (.sl 65 none)), Heap.put H0 [(64, some (.box [.row 0 .t5 h64_0, .sc (.int .i64 h64_1), .sc (.int .i64 h64_2)])), (65, some (.rowb .t48 h65 0))], 1000⟩
noncomputable def spec_DrawManyRecords.ctx (k : Nat) : Ctx Ty D := (cons 12 (spec_l01New.x k) (cons 13 (spec_l09Recs.x k) (cons 14 (spec_l01Once.x k) (cons 15 (spec_l01Below.x k) (fun _ _ _ _ => none)))))
noncomputable def spec_DrawManyRecords.c4 : Nat → (List Int) → Int → Int → (List S48) → Option ((List S48))
  | 0, _, _, _, _ => none
  | k + 1, h64_0, h64_1, h64_2, h65 => ((spec_l01Below.f k 90 h64_0 h64_1 h64_2).bind fun t4 => (if (h65.length : Int) < (w64 (30 + t4.1)) then (if h65.length + ([(S48.mk 4 (w64 (1 + (Int.tmod (h65.length : Int) 3))) (Int.tmod (h65.length : Int) 16) (w64 (100 + (h65.length : Int))))] : List S48).length ≤ 4398046511104 then (spec_DrawManyRecords.c4 k t4.2.1 t4.2.2.1 t4.2.2.2 (h65 ++ ([(S48.mk 4 (w64 (1 + (Int.tmod (h65.length : Int) 3))) (Int.tmod (h65.length : Int) 16) (w64 (100 + (h65.length : Int))))] : List S48))) else none) else (some (h65))))
noncomputable def spec_DrawManyRecords.f (k : Nat) (a0 : List Int) : Option ((List S48)) := ((spec_l01New.f k a0).bind fun t1 => ((spec_l09Recs.f k t1.1 t1.2.1 t1.2.2).bind fun t2 => ((spec_l01Once.f k 2 t2.2.1 t2.2.2.1 t2.2.2.2).bind fun t3 => (if t3.1 = true then (spec_DrawManyRecords.c4 k t3.2.1 t3.2.2.1 t3.2.2.2 t2.1) else (some (t2.1))))))
noncomputable def spec_DrawManyRecords.e (r : (List S48)) : Res Ty D := (.sl 0 none, [], [.rowb .t48 r 0])
noncomputable abbrev spec_DrawManyRecords.g (rec : List Item → St Ty D → R) (k : Nat) := go1 Try.f5 (spec_DrawManyRecords.ctx k) spec_DrawManyRecords.sp 0 spec_DrawManyRecords.en rec
set_option maxRecDepth 100000 in
theorem spec_DrawManyRecords.t4 (rec : List Item → St Ty D → R) (k : Nat) (h64_0 : List Int) (h64_1 : Int) (h64_2 : Int) (h65 : List S48) : spec_DrawManyRecords.g rec k (td Try.f5 4) (spec_DrawManyRecords.s4 h64_0 h64_1 h64_2 h65) =
  (spec_l01Below.f k 90 h64_0 h64_1 h64_2).bind fun t4 => bif decide ((h65.length : Int) < (w64 (30 + t4.1))) then bif decide (h65.length + ([(S48.mk 4 (w64 (1 + (Int.tmod (h65.length : Int) 3))) (Int.tmod (h65.length : Int) 16) (w64 (100 + (h65.length : Int))))] : List S48).length ≤ 4398046511104) then rec (td Try.f5 4) (spec_DrawManyRecords.s4 t4.2.1 t4.2.2.1 t4.2.2.2 (h65 ++ ([(S48.mk 4 (w64 (1 + (Int.tmod (h65.length : Int) 3))) (Int.tmod (h65.length : Int) 16) (w64 (100 + (h65.length : Int))))] : List S48))) else none else some (spec_DrawManyRecords.e (h65)) := by kernel_rfl
set_option maxRecDepth 100000 in
theorem spec_DrawManyRecords.te (rec : List Item → St Ty D → R) (k : Nat) (a0 : List Int) : spec_DrawManyRecords.g rec k [.code (body Try.f5)] (startSt [.row 0 .t5 a0] []) =
  (spec_l01New.f k a0).bind fun t1 => (spec_l09Recs.f k t1.1 t1.2.1 t1.2.2).bind fun t2 => (spec_l01Once.f k 2 t2.2.1 t2.2.2.1 t2.2.2.2).bind fun t3 => bif t3.1 then rec (td Try.f5 4) (spec_DrawManyRecords.s4 t3.2.1 t3.2.2.1 t3.2.2.2 t2.1) else some (spec_DrawManyRecords.e (t2.1)) := by kernel_rfl
set_option maxRecDepth 100000 in
theorem spec_DrawManyRecords.ok : ∀ k : Nat, (∀ (h64_0 : List Int) (h64_1 : Int) (h64_2 : Int) (h65 : List S48), goF Try.f5 spec_DrawManyRecords.ctx spec_DrawManyRecords.sp 0 spec_DrawManyRecords.en k (td Try.f5 4) (spec_DrawManyRecords.s4 h64_0 h64_1 h64_2 h65) = (spec_DrawManyRecords.c4 k h64_0 h64_1 h64_2 h65).map spec_DrawManyRecords.e)
  | 0 => fun _ _ _ _ => rfl
  | k + 1 => by
    have ih := spec_DrawManyRecords.ok k
    have i4 := ih
    intro h64_0 h64_1 h64_2 h65; rw [spec_DrawManyRecords.c4]; exact (spec_DrawManyRecords.t4 _ k h64_0 h64_1 h64_2 h65).trans (bn (fun t4 => (cd (cd (i4 _ _ _ _) rfl) rfl)))
set_option maxRecDepth 100000 in
theorem spec_DrawManyRecords.oke (k : Nat) (a0 : List Int) : goF Try.f5 spec_DrawManyRecords.ctx spec_DrawManyRecords.sp 0 spec_DrawManyRecords.en (k + 1) [.code (body Try.f5)] (startSt [.row 0 .t5 a0] []) = (spec_DrawManyRecords.f k a0).map spec_DrawManyRecords.e := by
  have i4 := spec_DrawManyRecords.ok k
  rw [spec_DrawManyRecords.f]; exact (spec_DrawManyRecords.te _ k a0).trans (bn (fun t1 => (bn (fun t2 => (bn (fun t3 => (cb (i4 _ _ _ _) rfl)))))))
theorem spec_DrawManyRecords.con (k : Nat) (a0 : List Int) (r) (h : spec_DrawManyRecords.f k a0 = some r) : Contract Try.prog kit 5 [.row 0 .t5 a0] [] (spec_DrawManyRecords.e r).1 (spec_DrawManyRecords.e r).2.1 (spec_DrawManyRecords.e r).2.2 :=
  con_okG kitOk mix (fun k => (CtxOk.cons (spec_l01New.xok k) (CtxOk.cons (spec_l09Recs.xok k) (CtxOk.cons (spec_l01Once.xok k) (CtxOk.cons (spec_l01Below.xok k) CtxOk.nil))))) (spec_DrawManyRecords.oke k a0) h (by kernel_rfl) (by kernel_rfl) (by kernel_rfl) rfl (by kernel_rfl) rfl rfl
noncomputable def spec_DrawManyRecords.x (k : Nat) : X := fun ins bs κ => match ins, bs with
  | [.row 0 .t5 a0], [] => (spec_DrawManyRecords.f k a0).bind fun r => κ (spec_DrawManyRecords.e r).1 (spec_DrawManyRecords.e r).2.1 (spec_DrawManyRecords.e r).2.2
  | _, _ => none
theorem spec_DrawManyRecords.xok (k : Nat) : XOk 5 (spec_DrawManyRecords.x k) := by
  intro ins bs κ res h
  unfold spec_DrawManyRecords.x at h
  split at h
  · obtain ⟨r, hr, h⟩ := Option.bind_eq_some_iff.1 h
    exact ⟨_, _, _, spec_DrawManyRecords.con k _ r hr, h⟩
  · cases h

/-! ### spec_DrawPlaces: function 6 -/
noncomputable def spec_DrawPlaces.sp : Nat → Option (Spec Ty) := fun r => bif Nat.beq r 5 then some ⟨[(3, .box [.keep, .keep, .keep]), (4, .own .t3), (5, .keep)], []⟩ else none
noncomputable def spec_DrawPlaces.en : Option (Spec Ty) := some ⟨[(2, .own .t3)], []⟩
noncomputable def spec_DrawPlaces.s5 (x5 : Int) (h64_0 : List Int) (h64_1 : Int) (h64_2 : Int) (h65 : List Int) : St Ty D := ⟨(Env.put (Env.put (Env.put E (some 3) (.pt 64 0 0)) (some 4) (.sl 65 none)) (some 5) (.sc (.int .i64 x5))), Heap.put H0 [(64, some (.box [.row 0 .t5 h64_0, .sc (.int .i64 h64_1), .sc (.int .i64 h64_2)])), (65, some (.rowb .t3 h65 0))], 1000⟩
noncomputable def spec_DrawPlaces.ctx (k : Nat) : Ctx Ty D := (cons 12 (spec_l01New.x k) (cons 15 (spec_l01Below.x k) (cons 16 (spec_l01Byte.x k) (fun _ _ _ _ => none))))
noncomputable def spec_DrawPlaces.c5 : Nat → Int → (List Int) → Int → Int → (List Int) → Option ((List Int))
  | 0, _, _, _, _, _ => none
  | k + 1, x5, h64_0, h64_1, h64_2, h65 => (if x5 < 12 then ((spec_l01Below.f k 10000 h64_0 h64_1 h64_2).bind fun t3 => (if h65.length + ([t3.1] : List Int).length ≤ 17592186044416 then (spec_DrawPlaces.c5 k (w64 (x5 + 1)) t3.2.1 t3.2.2.1 t3.2.2.2 (h65 ++ ([t3.1] : List Int))) else none)) else (some (h65)))
noncomputable def spec_DrawPlaces.f (k : Nat) (a0 : List Int) : Option ((List Int)) := ((spec_l01New.f k a0).bind fun t1 => ((spec_l01Byte.f k t1.1 t1.2.1 t1.2.2).bind fun t2 => (spec_DrawPlaces.c5 k 0 t2.2.1 t2.2.2.1 t2.2.2.2 ([] : List Int))))
noncomputable def spec_DrawPlaces.e (r : (List Int)) : Res Ty D := (.sl 0 none, [], [.rowb .t3 r 0])
noncomputable abbrev spec_DrawPlaces.g (rec : List Item → St Ty D → R) (k : Nat) := go1 Try.f6 (spec_DrawPlaces.ctx k) spec_DrawPlaces.sp 0 spec_DrawPlaces.en rec
set_option maxRecDepth 100000 in
theorem spec_DrawPlaces.t5 (rec : List Item → St Ty D → R) (k : Nat) (x5 : Int) (h64_0 : List Int) (h64_1 : Int) (h64_2 : Int) (h65 : List Int) : spec_DrawPlaces.g rec k (td Try.f6 5) (spec_DrawPlaces.s5 x5 h64_0 h64_1 h64_2 h65) =
  bif decide (x5 < 12) then (spec_l01Below.f k 10000 h64_0 h64_1 h64_2).bind fun t3 => bif decide (h65.length + ([t3.1] : List Int).length ≤ 17592186044416) then rec (td Try.f6 5) (spec_DrawPlaces.s5 (w64 (x5 + 1)) t3.2.1 t3.2.2.1 t3.2.2.2 (h65 ++ ([t3.1] : List Int))) else none else some (spec_DrawPlaces.e (h65)) := by kernel_rfl
set_option maxRecDepth 100000 in
theorem spec_DrawPlaces.te (rec : List Item → St Ty D → R) (k : Nat) (a0 : List Int) : spec_DrawPlaces.g rec k [.code (body Try.f6)] (startSt [.row 0 .t5 a0] []) =
  (spec_l01New.f k a0).bind fun t1 => (spec_l01Byte.f k t1.1 t1.2.1 t1.2.2).bind fun t2 => rec (td Try.f6 5) (spec_DrawPlaces.s5 0 t2.2.1 t2.2.2.1 t2.2.2.2 ([] : List Int)) := by kernel_rfl
set_option maxRecDepth 100000 in
theorem spec_DrawPlaces.ok : ∀ k : Nat, (∀ (x5 : Int) (h64_0 : List Int) (h64_1 : Int) (h64_2 : Int) (h65 : List Int), goF Try.f6 spec_DrawPlaces.ctx spec_DrawPlaces.sp 0 spec_DrawPlaces.en k (td Try.f6 5) (spec_DrawPlaces.s5 x5 h64_0 h64_1 h64_2 h65) = (spec_DrawPlaces.c5 k x5 h64_0 h64_1 h64_2 h65).map spec_DrawPlaces.e)
  | 0 => fun _ _ _ _ _ => rfl
  | k + 1 => by
    have ih := spec_DrawPlaces.ok k
    have i5 := ih
    intro x5 h64_0 h64_1 h64_2 h65; rw [spec_DrawPlaces.c5]; exact (spec_DrawPlaces.t5 _ k x5 h64_0 h64_1 h64_2 h65).trans (cd (bn (fun t3 => (cd (i5 _ _ _ _ _) rfl))) rfl)
set_option maxRecDepth 100000 in
theorem spec_DrawPlaces.oke (k : Nat) (a0 : List Int) : goF Try.f6 spec_DrawPlaces.ctx spec_DrawPlaces.sp 0 spec_DrawPlaces.en (k + 1) [.code (body Try.f6)] (startSt [.row 0 .t5 a0] []) = (spec_DrawPlaces.f k a0).map spec_DrawPlaces.e := by
  have i5 := spec_DrawPlaces.ok k
  rw [spec_DrawPlaces.f]; exact (spec_DrawPlaces.te _ k a0).trans (bn (fun t1 => (bn (fun t2 => (i5 _ _ _ _ _)))))
theorem spec_DrawPlaces.con (k : Nat) (a0 : List Int) (r) (h : spec_DrawPlaces.f k a0 = some r) : Contract Try.prog kit 6 [.row 0 .t5 a0] [] (spec_DrawPlaces.e r).1 (spec_DrawPlaces.e r).2.1 (spec_DrawPlaces.e r).2.2 :=
  con_okG kitOk mix (fun k => (CtxOk.cons (spec_l01New.xok k) (CtxOk.cons (spec_l01Below.xok k) (CtxOk.cons (spec_l01Byte.xok k) CtxOk.nil)))) (spec_DrawPlaces.oke k a0) h (by kernel_rfl) (by kernel_rfl) (by kernel_rfl) rfl (by kernel_rfl) rfl rfl
noncomputable def spec_DrawPlaces.x (k : Nat) : X := fun ins bs κ => match ins, bs with
  | [.row 0 .t5 a0], [] => (spec_DrawPlaces.f k a0).bind fun r => κ (spec_DrawPlaces.e r).1 (spec_DrawPlaces.e r).2.1 (spec_DrawPlaces.e r).2.2
  | _, _ => none
theorem spec_DrawPlaces.xok (k : Nat) : XOk 6 (spec_DrawPlaces.x k) := by
  intro ins bs κ res h
  unfold spec_DrawPlaces.x at h
  split at h
  · obtain ⟨r, hr, h⟩ := Option.bind_eq_some_iff.1 h
    exact ⟨_, _, _, spec_DrawPlaces.con k _ r hr, h⟩
  · cases h
end Go.Proofs.Ytkbfmompapcekaa.M2

/- Plain runs of functions: each is a plain Lean function, and keeps its contract. Written by a program of this session. -/
namespace Go.Proofs.Ytkbfmompapcekaa.M2
open Go Go.Proofs.Ytkbfmompapcekaa.PK
set_option linter.unusedVariables false
set_option linter.unusedSimpArgs false
set_option maxHeartbeats 4000000
/-! ### impl_in: function 18 -/
noncomputable def impl_in.sp : Nat → Option (Spec Ty) := fun r => none
noncomputable def impl_in.en : Option (Spec Ty) := none
noncomputable def impl_in.ctx (k : Nat) : Ctx Ty D := (fun _ _ _ _ => none)
noncomputable def impl_in.f (k : Nat) (a0 : Int) (a1 : Int) (a2 : Int) : Option (Bool) := (if a0 ≥ a1 then (some ((decide (a0 ≤ a2)))) else (some (false)))
noncomputable def impl_in.e (r : Bool) : Res Ty D := (.sc (.bool r), [], [])
noncomputable abbrev impl_in.g (rec : List Item → St Ty D → R) (k : Nat) := go1 Try.f18 (impl_in.ctx k) impl_in.sp 0 impl_in.en rec
set_option maxRecDepth 100000 in
theorem impl_in.te (rec : List Item → St Ty D → R) (k : Nat) (a0 : Int) (a1 : Int) (a2 : Int) : impl_in.g rec k [.code (body Try.f18)] (startSt [.sc (.int .i64 a0), .sc (.int .i64 a1), .sc (.int .i64 a2)] []) =
  bif decide (a0 ≥ a1) then some (impl_in.e ((decide (a0 ≤ a2)))) else some (impl_in.e (false)) := by kernel_rfl
set_option maxRecDepth 100000 in
theorem impl_in.oke (k : Nat) (a0 : Int) (a1 : Int) (a2 : Int) : goF Try.f18 impl_in.ctx impl_in.sp 0 impl_in.en (k + 1) [.code (body Try.f18)] (startSt [.sc (.int .i64 a0), .sc (.int .i64 a1), .sc (.int .i64 a2)] []) = (impl_in.f k a0 a1 a2).map impl_in.e := by
  rw [impl_in.f]; exact (impl_in.te _ k a0 a1 a2).trans (cd rfl rfl)
theorem impl_in.con (k : Nat) (a0 : Int) (a1 : Int) (a2 : Int) (r) (h : impl_in.f k a0 a1 a2 = some r) : Contract Try.prog kit 18 [.sc (.int .i64 a0), .sc (.int .i64 a1), .sc (.int .i64 a2)] [] (impl_in.e r).1 (impl_in.e r).2.1 (impl_in.e r).2.2 :=
  con_okG kitOk mix (fun k => CtxOk.nil) (impl_in.oke k a0 a1 a2) h (by kernel_rfl) (by kernel_rfl) (by kernel_rfl) rfl (by kernel_rfl) rfl rfl
noncomputable def impl_in.x (k : Nat) : X := fun ins bs κ => match ins, bs with
  | [.sc (.int .i64 a0), .sc (.int .i64 a1), .sc (.int .i64 a2)], [] => (impl_in.f k a0 a1 a2).bind fun r => κ (impl_in.e r).1 (impl_in.e r).2.1 (impl_in.e r).2.2
  | _, _ => none
theorem impl_in.xok (k : Nat) : XOk 18 (impl_in.x k) := by
  intro ins bs κ res h
  unfold impl_in.x at h
  split at h
  · obtain ⟨r, hr, h⟩ := Option.bind_eq_some_iff.1 h
    exact ⟨_, _, _, impl_in.con k _ _ _ r hr, h⟩
  · cases h

/-! ### impl_RecOk: function 25 -/
noncomputable def impl_RecOk.sp : Nat → Option (Spec Ty) := fun r => none
noncomputable def impl_RecOk.en : Option (Spec Ty) := none
noncomputable def impl_RecOk.ctx (k : Nat) : Ctx Ty D := (cons 18 (impl_in.x k) (fun _ _ _ _ => none))
noncomputable def impl_RecOk.f (k : Nat) (a0_0 : Int) (a0_1 : Int) (a0_2 : Int) (a0_3 : Int) : Option (Bool) := (if a0_0 = 1 then (if a0_1 = 0 then ((impl_in.f k a0_2 0 1000000000).bind fun t1 => (if t1 = true then (some ((decide (a0_3 = 0)))) else (some (false)))) else (some (false))) else ((impl_in.f k a0_1 1 9).bind fun t2 => (if t2 = true then (if a0_0 = 4 then (if a0_0 = 2 then ((impl_in.f k a0_2 0 9).bind fun t7 => (some (t7))) else (if a0_0 = 3 then (some ((decide (a0_2 = 0)))) else (if a0_0 = 4 then ((impl_in.f k a0_2 0 15).bind fun t8 => (if t8 = true then ((impl_in.f k a0_3 1 1000000000).bind fun t9 => (some (t9))) else (some (false)))) else (if a0_0 = 5 then ((impl_in.f k a0_2 0 15).bind fun t10 => (some (t10))) else (some (false)))))) else (if a0_3 = 0 then (if a0_0 = 2 then ((impl_in.f k a0_2 0 9).bind fun t3 => (some (t3))) else (if a0_0 = 3 then (some ((decide (a0_2 = 0)))) else (if a0_0 = 4 then ((impl_in.f k a0_2 0 15).bind fun t4 => (if t4 = true then ((impl_in.f k a0_3 1 1000000000).bind fun t5 => (some (t5))) else (some (false)))) else (if a0_0 = 5 then ((impl_in.f k a0_2 0 15).bind fun t6 => (some (t6))) else (some (false)))))) else (some (false)))) else (some (false)))))
noncomputable def impl_RecOk.e (r : Bool) : Res Ty D := (.sc (.bool r), [], [])
noncomputable abbrev impl_RecOk.g (rec : List Item → St Ty D → R) (k : Nat) := go1 Try.f25 (impl_RecOk.ctx k) impl_RecOk.sp 0 impl_RecOk.en rec
set_option maxRecDepth 100000 in
theorem impl_RecOk.te (rec : List Item → St Ty D → R) (k : Nat) (a0_0 : Int) (a0_1 : Int) (a0_2 : Int) (a0_3 : Int) : impl_RecOk.g rec k [.code (body Try.f25)] (startSt [.ag [.sc (.int .i64 a0_0), .sc (.int .i64 a0_1), .sc (.int .i64 a0_2), .sc (.int .i64 a0_3)]] []) =
  bif decide (a0_0 = 1) then bif decide (a0_1 = 0) then (impl_in.f k a0_2 0 1000000000).bind fun t1 => bif t1 then some (impl_RecOk.e ((decide (a0_3 = 0)))) else some (impl_RecOk.e (false)) else some (impl_RecOk.e (false)) else (impl_in.f k a0_1 1 9).bind fun t2 => bif !t2 then some (impl_RecOk.e (false)) else bif !decide (a0_0 = 4) then bif !decide (a0_3 = 0) then some (impl_RecOk.e (false)) else bif decide (a0_0 = 2) then (impl_in.f k a0_2 0 9).bind fun t3 => some (impl_RecOk.e (t3)) else bif decide (a0_0 = 3) then some (impl_RecOk.e ((decide (a0_2 = 0)))) else bif decide (a0_0 = 4) then (impl_in.f k a0_2 0 15).bind fun t4 => bif t4 then (impl_in.f k a0_3 1 1000000000).bind fun t5 => some (impl_RecOk.e (t5)) else some (impl_RecOk.e (false)) else bif decide (a0_0 = 5) then (impl_in.f k a0_2 0 15).bind fun t6 => some (impl_RecOk.e (t6)) else some (impl_RecOk.e (false)) else bif decide (a0_0 = 2) then (impl_in.f k a0_2 0 9).bind fun t7 => some (impl_RecOk.e (t7)) else bif decide (a0_0 = 3) then some (impl_RecOk.e ((decide (a0_2 = 0)))) else bif decide (a0_0 = 4) then (impl_in.f k a0_2 0 15).bind fun t8 => bif t8 then (impl_in.f k a0_3 1 1000000000).bind fun t9 => some (impl_RecOk.e (t9)) else some (impl_RecOk.e (false)) else bif decide (a0_0 = 5) then (impl_in.f k a0_2 0 15).bind fun t10 => some (impl_RecOk.e (t10)) else some (impl_RecOk.e (false)) := by kernel_rfl
set_option maxRecDepth 100000 in
theorem impl_RecOk.oke (k : Nat) (a0_0 : Int) (a0_1 : Int) (a0_2 : Int) (a0_3 : Int) : goF Try.f25 impl_RecOk.ctx impl_RecOk.sp 0 impl_RecOk.en (k + 1) [.code (body Try.f25)] (startSt [.ag [.sc (.int .i64 a0_0), .sc (.int .i64 a0_1), .sc (.int .i64 a0_2), .sc (.int .i64 a0_3)]] []) = (impl_RecOk.f k a0_0 a0_1 a0_2 a0_3).map impl_RecOk.e := by
  rw [impl_RecOk.f]; exact (impl_RecOk.te _ k a0_0 a0_1 a0_2 a0_3).trans (cd (cd (bn (fun t1 => (cb rfl rfl))) rfl) (bn (fun t2 => (nb rfl (nd (nd rfl (cd (bn (fun t3 => rfl)) (cd rfl (cd (bn (fun t4 => (cb (bn (fun t5 => rfl)) rfl))) (cd (bn (fun t6 => rfl)) rfl))))) (cd (bn (fun t7 => rfl)) (cd rfl (cd (bn (fun t8 => (cb (bn (fun t9 => rfl)) rfl))) (cd (bn (fun t10 => rfl)) rfl)))))))))
theorem impl_RecOk.con (k : Nat) (a0_0 : Int) (a0_1 : Int) (a0_2 : Int) (a0_3 : Int) (r) (h : impl_RecOk.f k a0_0 a0_1 a0_2 a0_3 = some r) : Contract Try.prog kit 25 [.ag [.sc (.int .i64 a0_0), .sc (.int .i64 a0_1), .sc (.int .i64 a0_2), .sc (.int .i64 a0_3)]] [] (impl_RecOk.e r).1 (impl_RecOk.e r).2.1 (impl_RecOk.e r).2.2 :=
  con_okG kitOk mix (fun k => (CtxOk.cons (impl_in.xok k) CtxOk.nil)) (impl_RecOk.oke k a0_0 a0_1 a0_2 a0_3) h (by kernel_rfl) (by kernel_rfl) (by kernel_rfl) rfl (by kernel_rfl) rfl rfl
noncomputable def impl_RecOk.x (k : Nat) : X := fun ins bs κ => match ins, bs with
  | [.ag [.sc (.int .i64 a0_0), .sc (.int .i64 a0_1), .sc (.int .i64 a0_2), .sc (.int .i64 a0_3)]], [] => (impl_RecOk.f k a0_0 a0_1 a0_2 a0_3).bind fun r => κ (impl_RecOk.e r).1 (impl_RecOk.e r).2.1 (impl_RecOk.e r).2.2
  | _, _ => none
theorem impl_RecOk.xok (k : Nat) : XOk 25 (impl_RecOk.x k) := by
  intro ins bs κ res h
  unfold impl_RecOk.x at h
  split at h
  · obtain ⟨r, hr, h⟩ := Option.bind_eq_some_iff.1 h
    exact ⟨_, _, _, impl_RecOk.con k _ _ _ _ r hr, h⟩
  · cases h

/-! ### impl_VarText: function 34 -/
noncomputable def impl_VarText.sp : Nat → Option (Spec Ty) := fun r => bif Nat.beq r 4 then some ⟨[(0, .keep), (4, .own .t5)], []⟩ else none
noncomputable def impl_VarText.en : Option (Spec Ty) := none
noncomputable def impl_VarText.s4 (x0 : Int) (h64 : List Int) : St Ty D := ⟨(Env.put (Env.put E (some 0) (.sc (.int .i64 x0))) (some 4) (.sl 64 none)), Heap.put H0 [(64, some (.rowb .t5 h64 0))], 1000⟩
noncomputable def impl_VarText.ctx (k : Nat) : Ctx Ty D := (cons 18 (impl_in.x k) (fun _ _ _ _ => none))
noncomputable def impl_VarText.c4 : Nat → Int → (List Int) → Option (ByteArray × Bool)
  | 0, _, _ => none
  | k + 1, x0, h64 => (if x0 > 127 then (if h64.length + ([(Go.IntKind.wrap .u8 ((w64 ((Int.tmod x0 128) + 128))))] : List Int).length ≤ 140737488355328 then (impl_VarText.c4 k (w64 (Int.tdiv x0 128)) (h64 ++ ([(Go.IntKind.wrap .u8 ((w64 ((Int.tmod x0 128) + 128))))] : List Int))) else none) else (if h64.length + ([(Go.IntKind.wrap .u8 (x0))] : List Int).length ≤ 140737488355328 then (some ((strOfNums (h64 ++ ([(Go.IntKind.wrap .u8 (x0))] : List Int))), true)) else none))
noncomputable def impl_VarText.f (k : Nat) (a0 : Int) : Option (ByteArray × Bool) := ((impl_in.f k a0 0 1000000000).bind fun t1 => (if t1 = true then (impl_VarText.c4 k a0 ([] : List Int)) else (some ((⟨#[]⟩ : ByteArray), false))))
noncomputable def impl_VarText.e (r : ByteArray × Bool) : Res Ty D := (.tu [.sc (.string r.1), .sc (.bool r.2)], [], [])
noncomputable abbrev impl_VarText.g (rec : List Item → St Ty D → R) (k : Nat) := go1 Try.f34 (impl_VarText.ctx k) impl_VarText.sp 0 impl_VarText.en rec
set_option maxRecDepth 100000 in
theorem impl_VarText.t4 (rec : List Item → St Ty D → R) (k : Nat) (x0 : Int) (h64 : List Int) : impl_VarText.g rec k (td Try.f34 4) (impl_VarText.s4 x0 h64) =
  bif decide (x0 > 127) then bif decide (h64.length + ([(Go.IntKind.wrap .u8 ((w64 ((Int.tmod x0 128) + 128))))] : List Int).length ≤ 140737488355328) then rec (td Try.f34 4) (impl_VarText.s4 (w64 (Int.tdiv x0 128)) (h64 ++ ([(Go.IntKind.wrap .u8 ((w64 ((Int.tmod x0 128) + 128))))] : List Int))) else none else bif decide (h64.length + ([(Go.IntKind.wrap .u8 (x0))] : List Int).length ≤ 140737488355328) then some (impl_VarText.e ((strOfNums (h64 ++ ([(Go.IntKind.wrap .u8 (x0))] : List Int))), true)) else none := by kernel_rfl
set_option maxRecDepth 100000 in
theorem impl_VarText.te (rec : List Item → St Ty D → R) (k : Nat) (a0 : Int) : impl_VarText.g rec k [.code (body Try.f34)] (startSt [.sc (.int .i64 a0)] []) =
  (impl_in.f k a0 0 1000000000).bind fun t1 => bif !t1 then some (impl_VarText.e ((⟨#[]⟩ : ByteArray), false)) else rec (td Try.f34 4) (impl_VarText.s4 a0 ([] : List Int)) := by kernel_rfl
set_option maxRecDepth 100000 in
theorem impl_VarText.ok : ∀ k : Nat, (∀ (x0 : Int) (h64 : List Int), goF Try.f34 impl_VarText.ctx impl_VarText.sp 0 impl_VarText.en k (td Try.f34 4) (impl_VarText.s4 x0 h64) = (impl_VarText.c4 k x0 h64).map impl_VarText.e)
  | 0 => fun _ _ => rfl
  | k + 1 => by
    have ih := impl_VarText.ok k
    have i4 := ih
    intro x0 h64; rw [impl_VarText.c4]; exact (impl_VarText.t4 _ k x0 h64).trans (cd (cd (i4 _ _) rfl) (cd rfl rfl))
set_option maxRecDepth 100000 in
theorem impl_VarText.oke (k : Nat) (a0 : Int) : goF Try.f34 impl_VarText.ctx impl_VarText.sp 0 impl_VarText.en (k + 1) [.code (body Try.f34)] (startSt [.sc (.int .i64 a0)] []) = (impl_VarText.f k a0).map impl_VarText.e := by
  have i4 := impl_VarText.ok k
  rw [impl_VarText.f]; exact (impl_VarText.te _ k a0).trans (bn (fun t1 => (nb rfl (i4 _ _))))
theorem impl_VarText.con (k : Nat) (a0 : Int) (r) (h : impl_VarText.f k a0 = some r) : Contract Try.prog kit 34 [.sc (.int .i64 a0)] [] (impl_VarText.e r).1 (impl_VarText.e r).2.1 (impl_VarText.e r).2.2 :=
  con_okG kitOk mix (fun k => (CtxOk.cons (impl_in.xok k) CtxOk.nil)) (impl_VarText.oke k a0) h (by kernel_rfl) (by kernel_rfl) (by kernel_rfl) rfl (by kernel_rfl) rfl rfl
noncomputable def impl_VarText.x (k : Nat) : X := fun ins bs κ => match ins, bs with
  | [.sc (.int .i64 a0)], [] => (impl_VarText.f k a0).bind fun r => κ (impl_VarText.e r).1 (impl_VarText.e r).2.1 (impl_VarText.e r).2.2
  | _, _ => none
theorem impl_VarText.xok (k : Nat) : XOk 34 (impl_VarText.x k) := by
  intro ins bs κ res h
  unfold impl_VarText.x at h
  split at h
  · obtain ⟨r, hr, h⟩ := Option.bind_eq_some_iff.1 h
    exact ⟨_, _, _, impl_VarText.con k _ r hr, h⟩
  · cases h

/-! ### impl_varOf: function 26 -/
noncomputable def impl_varOf.sp : Nat → Option (Spec Ty) := fun r => none
noncomputable def impl_varOf.en : Option (Spec Ty) := none
noncomputable def impl_varOf.ctx (k : Nat) : Ctx Ty D := (cons 34 (impl_VarText.x k) (fun _ _ _ _ => none))
noncomputable def impl_varOf.f (k : Nat) (a0 : Int) : Option (ByteArray) := ((impl_VarText.f k a0).bind fun t1 => (some (t1.1)))
noncomputable def impl_varOf.e (r : ByteArray) : Res Ty D := (.sc (.string r), [], [])
noncomputable abbrev impl_varOf.g (rec : List Item → St Ty D → R) (k : Nat) := go1 Try.f26 (impl_varOf.ctx k) impl_varOf.sp 0 impl_varOf.en rec
set_option maxRecDepth 100000 in
theorem impl_varOf.te (rec : List Item → St Ty D → R) (k : Nat) (a0 : Int) : impl_varOf.g rec k [.code (body Try.f26)] (startSt [.sc (.int .i64 a0)] []) =
  (impl_VarText.f k a0).bind fun t1 => some (impl_varOf.e (t1.1)) := by kernel_rfl
set_option maxRecDepth 100000 in
theorem impl_varOf.oke (k : Nat) (a0 : Int) : goF Try.f26 impl_varOf.ctx impl_varOf.sp 0 impl_varOf.en (k + 1) [.code (body Try.f26)] (startSt [.sc (.int .i64 a0)] []) = (impl_varOf.f k a0).map impl_varOf.e := by
  rw [impl_varOf.f]; exact (impl_varOf.te _ k a0).trans (bn (fun t1 => rfl))
theorem impl_varOf.con (k : Nat) (a0 : Int) (r) (h : impl_varOf.f k a0 = some r) : Contract Try.prog kit 26 [.sc (.int .i64 a0)] [] (impl_varOf.e r).1 (impl_varOf.e r).2.1 (impl_varOf.e r).2.2 :=
  con_okG kitOk mix (fun k => (CtxOk.cons (impl_VarText.xok k) CtxOk.nil)) (impl_varOf.oke k a0) h (by kernel_rfl) (by kernel_rfl) (by kernel_rfl) rfl (by kernel_rfl) rfl rfl
noncomputable def impl_varOf.x (k : Nat) : X := fun ins bs κ => match ins, bs with
  | [.sc (.int .i64 a0)], [] => (impl_varOf.f k a0).bind fun r => κ (impl_varOf.e r).1 (impl_varOf.e r).2.1 (impl_varOf.e r).2.2
  | _, _ => none
theorem impl_varOf.xok (k : Nat) : XOk 26 (impl_varOf.x k) := by
  intro ins bs κ res h
  unfold impl_varOf.x at h
  split at h
  · obtain ⟨r, hr, h⟩ := Option.bind_eq_some_iff.1 h
    exact ⟨_, _, _, impl_varOf.con k _ r hr, h⟩
  · cases h

/-! ### impl_RecText: function 17 -/
noncomputable def impl_RecText.sp : Nat → Option (Spec Ty) := fun r => none
noncomputable def impl_RecText.en : Option (Spec Ty) := none
noncomputable def impl_RecText.ctx (k : Nat) : Ctx Ty D := (cons 25 (impl_RecOk.x k) (cons 26 (impl_varOf.x k) (fun _ _ _ _ => none)))
noncomputable def impl_RecText.f (k : Nat) (a0_0 : Int) (a0_1 : Int) (a0_2 : Int) (a0_3 : Int) : Option (ByteArray × Bool) := ((impl_RecOk.f k a0_0 a0_1 a0_2 a0_3).bind fun t1 => (if t1 = true then ((impl_varOf.f k a0_2).bind fun t2 => (if (strOfNums ([(Go.IntKind.wrap .u8 ((w64 ((w64 (16 * a0_0)) + a0_1))))] : List Int)).size + t2.size ≤ 9223372036854775807 then ((impl_varOf.f k a0_3).bind fun t3 => (if ((strOfNums ([(Go.IntKind.wrap .u8 ((w64 ((w64 (16 * a0_0)) + a0_1))))] : List Int)) ++ t2).size + t3.size ≤ 9223372036854775807 then (some ((((strOfNums ([(Go.IntKind.wrap .u8 ((w64 ((w64 (16 * a0_0)) + a0_1))))] : List Int)) ++ t2) ++ t3), true)) else none)) else none)) else (some ((⟨#[]⟩ : ByteArray), false))))
noncomputable def impl_RecText.e (r : ByteArray × Bool) : Res Ty D := (.tu [.sc (.string r.1), .sc (.bool r.2)], [], [])
noncomputable abbrev impl_RecText.g (rec : List Item → St Ty D → R) (k : Nat) := go1 Try.f17 (impl_RecText.ctx k) impl_RecText.sp 0 impl_RecText.en rec
set_option maxRecDepth 100000 in
theorem impl_RecText.te (rec : List Item → St Ty D → R) (k : Nat) (a0_0 : Int) (a0_1 : Int) (a0_2 : Int) (a0_3 : Int) : impl_RecText.g rec k [.code (body Try.f17)] (startSt [.ag [.sc (.int .i64 a0_0), .sc (.int .i64 a0_1), .sc (.int .i64 a0_2), .sc (.int .i64 a0_3)]] []) =
  (impl_RecOk.f k a0_0 a0_1 a0_2 a0_3).bind fun t1 => bif !t1 then some (impl_RecText.e ((⟨#[]⟩ : ByteArray), false)) else (impl_varOf.f k a0_2).bind fun t2 => bif decide ((strOfNums ([(Go.IntKind.wrap .u8 ((w64 ((w64 (16 * a0_0)) + a0_1))))] : List Int)).size + t2.size ≤ 9223372036854775807) then (impl_varOf.f k a0_3).bind fun t3 => bif decide (((strOfNums ([(Go.IntKind.wrap .u8 ((w64 ((w64 (16 * a0_0)) + a0_1))))] : List Int)) ++ t2).size + t3.size ≤ 9223372036854775807) then some (impl_RecText.e ((((strOfNums ([(Go.IntKind.wrap .u8 ((w64 ((w64 (16 * a0_0)) + a0_1))))] : List Int)) ++ t2) ++ t3), true)) else none else none := by kernel_rfl
set_option maxRecDepth 100000 in
theorem impl_RecText.oke (k : Nat) (a0_0 : Int) (a0_1 : Int) (a0_2 : Int) (a0_3 : Int) : goF Try.f17 impl_RecText.ctx impl_RecText.sp 0 impl_RecText.en (k + 1) [.code (body Try.f17)] (startSt [.ag [.sc (.int .i64 a0_0), .sc (.int .i64 a0_1), .sc (.int .i64 a0_2), .sc (.int .i64 a0_3)]] []) = (impl_RecText.f k a0_0 a0_1 a0_2 a0_3).map impl_RecText.e := by
  rw [impl_RecText.f]; exact (impl_RecText.te _ k a0_0 a0_1 a0_2 a0_3).trans (bn (fun t1 => (nb rfl (bn (fun t2 => (cd (bn (fun t3 => (cd rfl rfl))) rfl))))))
theorem impl_RecText.con (k : Nat) (a0_0 : Int) (a0_1 : Int) (a0_2 : Int) (a0_3 : Int) (r) (h : impl_RecText.f k a0_0 a0_1 a0_2 a0_3 = some r) : Contract Try.prog kit 17 [.ag [.sc (.int .i64 a0_0), .sc (.int .i64 a0_1), .sc (.int .i64 a0_2), .sc (.int .i64 a0_3)]] [] (impl_RecText.e r).1 (impl_RecText.e r).2.1 (impl_RecText.e r).2.2 :=
  con_okG kitOk mix (fun k => (CtxOk.cons (impl_RecOk.xok k) (CtxOk.cons (impl_varOf.xok k) CtxOk.nil))) (impl_RecText.oke k a0_0 a0_1 a0_2 a0_3) h (by kernel_rfl) (by kernel_rfl) (by kernel_rfl) rfl (by kernel_rfl) rfl rfl
noncomputable def impl_RecText.x (k : Nat) : X := fun ins bs κ => match ins, bs with
  | [.ag [.sc (.int .i64 a0_0), .sc (.int .i64 a0_1), .sc (.int .i64 a0_2), .sc (.int .i64 a0_3)]], [] => (impl_RecText.f k a0_0 a0_1 a0_2 a0_3).bind fun r => κ (impl_RecText.e r).1 (impl_RecText.e r).2.1 (impl_RecText.e r).2.2
  | _, _ => none
theorem impl_RecText.xok (k : Nat) : XOk 17 (impl_RecText.x k) := by
  intro ins bs κ res h
  unfold impl_RecText.x at h
  split at h
  · obtain ⟨r, hr, h⟩ := Option.bind_eq_some_iff.1 h
    exact ⟨_, _, _, impl_RecText.con k _ _ _ _ r hr, h⟩
  · cases h

/-! ### impl_TxPages: function 7 -/
noncomputable def impl_TxPages.sp : Nat → Option (Spec Ty) := fun r => bif Nat.beq r 3 then some ⟨[(0, .keep), (1, .keep), (8, .own .t9), (19, .keep), (20, .keep), (21, .keep)], []⟩ else bif Nat.beq r 19 then some ⟨[(0, .keep), (1, .keep), (14, .keep), (15, .own .t33), (74, .own .t9), (75, .keep), (76, .keep)], []⟩ else none
noncomputable def impl_TxPages.en : Option (Spec Ty) := some ⟨[(6, .own .t33), (7, .keep)], []⟩
noncomputable def impl_TxPages.s3 (x0 : Int) (x1 : Int) (x19 : List S48) (x20 : Int) (x21 : Int) (h64 : List ByteArray) : St Ty D := ⟨(Env.put (Env.put (Env.put (Env.put (Env.put (Env.put E (some 0) (.sc (.int .i64 x0))) (some 1) (.sc (.int .i64 x1))) (some 8) (.sl 64 none)) (some 19) (.row 0 .t48 x19)) (some 20) (.sc (.int .i64 x20))) (some 21) (.sc (.int .i64 x21))), Heap.put H0 [(64, some (.rowb .t9 h64 0))], 1000⟩
noncomputable def impl_TxPages.s19 (x0 : Int) (x1 : Int) (x14 : Int) (x75 : Int) (x76 : Int) (h64 : List S33) (h65 : List ByteArray) : St Ty D := ⟨(Env.put (Env.put (Env.put (Env.put (Env.put (Env.put (Env.put E (some 0) (.sc (.int .i64 x0))) (some 1) (.sc (.int .i64 x1))) (some 14) (.sc (.int .i64 x14))) (some 15) (.sl 64 none)) (some 74) (.sl 65 none)) (some 75) (.sc (.int .i64 x75))) (some 76) (.sc (.int .i64 x76))), Heap.put H0 [(64, some (.rowb .t33 h64 0)), (65, some (.rowb .t9 h65 0))], 1000⟩
noncomputable def impl_TxPages.ctx (k : Nat) : Ctx Ty D := (cons 17 (impl_RecText.x k) (cons 18 (impl_in.x k) (fun _ _ _ _ => none)))
mutual
noncomputable def impl_TxPages.c3 : Nat → Int → Int → (List S48) → Int → Int → (List ByteArray) → Option ((List S33) × Bool)
  | 0, _, _, _, _, _, _ => none
  | k + 1, x0, x1, x19, x20, x21, h64 => (if x21 < x20 then (if 0 ≤ x21 then (if x21 < (x19.length : Int) then ((impl_RecText.f k ((rd_T48 x19 x21).f0) ((rd_T48 x19 x21).f1) ((rd_T48 x19 x21).f2) ((rd_T48 x19 x21).f3)).bind fun t1 => (if t1.2 = true then (if 0 ≤ (w64 ((h64.length : Int) - 1)) then (if (w64 ((h64.length : Int) - 1)) < (h64.length : Int) then (if (w64 (((rd_T9 h64 (w64 ((h64.length : Int) - 1))).size : Int) + (t1.1.size : Int))) > 90 then (if h64.length + ([(⟨#[]⟩ : ByteArray)] : List ByteArray).length ≤ 8796093022208 then (if 0 ≤ (w64 ((w64 ((h64.length : Int) - 1)) + 1)) then (if (w64 ((w64 ((h64.length : Int) - 1)) + 1)) < ((h64 ++ ([(⟨#[]⟩ : ByteArray)] : List ByteArray)).length : Int) then (if (rd_T9 (h64 ++ ([(⟨#[]⟩ : ByteArray)] : List ByteArray)) (w64 ((w64 ((h64.length : Int) - 1)) + 1))).size + t1.1.size ≤ 9223372036854775807 then (if 0 ≤ (w64 ((w64 ((h64.length : Int) - 1)) + 1)) then (if (w64 ((w64 ((h64.length : Int) - 1)) + 1)) < ((h64 ++ ([(⟨#[]⟩ : ByteArray)] : List ByteArray)).length : Int) then (impl_TxPages.c3 k x0 x1 x19 x20 (w64 (x21 + 1)) ((h64 ++ ([(⟨#[]⟩ : ByteArray)] : List ByteArray)).set ((w64 ((w64 ((h64.length : Int) - 1)) + 1)).toNat) ((rd_T9 (h64 ++ ([(⟨#[]⟩ : ByteArray)] : List ByteArray)) (w64 ((w64 ((h64.length : Int) - 1)) + 1))) ++ t1.1))) else none) else none) else none) else none) else none) else none) else (if 0 ≤ (w64 ((h64.length : Int) - 1)) then (if (w64 ((h64.length : Int) - 1)) < (h64.length : Int) then (if (rd_T9 h64 (w64 ((h64.length : Int) - 1))).size + t1.1.size ≤ 9223372036854775807 then (if 0 ≤ (w64 ((h64.length : Int) - 1)) then (if (w64 ((h64.length : Int) - 1)) < (h64.length : Int) then (impl_TxPages.c3 k x0 x1 x19 x20 (w64 (x21 + 1)) (h64.set ((w64 ((h64.length : Int) - 1)).toNat) ((rd_T9 h64 (w64 ((h64.length : Int) - 1))) ++ t1.1))) else none) else none) else none) else none) else none)) else none) else none) else (some (([] : List S33), false)))) else none) else none) else (if (h64.length : Int) > 9 then (some (([] : List S33), false)) else ((impl_in.f k x0 1 (w64 ((w64 (1000000000 - (h64.length : Int))) + 1))).bind fun t2 => (if t2 = true then ((impl_in.f k x1 1 1000000000).bind fun t3 => (if t3 = true then (impl_TxPages.c19 k x0 x1 (h64.length : Int) (h64.length : Int) 0 ([] : List S33) h64) else (some (([] : List S33), false)))) else (some (([] : List S33), false))))))
noncomputable def impl_TxPages.c19 : Nat → Int → Int → Int → Int → Int → (List S33) → (List ByteArray) → Option ((List S33) × Bool)
  | 0, _, _, _, _, _, _, _ => none
  | k + 1, x0, x1, x14, x75, x76, h64, h65 => (if x76 < x75 then (if 0 ≤ x76 then (if x76 < (h65.length : Int) then (if h64.length + ([(S33.mk 2 (w64 (x0 + x76)) x1 x76 x14 (rd_T9 h65 x76))] : List S33).length ≤ 2513169434916 then (impl_TxPages.c19 k x0 x1 x14 x75 (w64 (x76 + 1)) (h64 ++ ([(S33.mk 2 (w64 (x0 + x76)) x1 x76 x14 (rd_T9 h65 x76))] : List S33)) h65) else none) else none) else none) else (some (h64, true)))
end
noncomputable def impl_TxPages.f (k : Nat) (a0 : Int) (a1 : Int) (a2 : List S48) : Option ((List S33) × Bool) := (impl_TxPages.c3 k a0 a1 a2 (a2.length : Int) 0 ([(⟨#[]⟩ : ByteArray)] : List ByteArray))
noncomputable def impl_TxPages.e (r : (List S33) × Bool) : Res Ty D := (.tu [.sl 0 none, .sc (.bool r.2)], [], [.rowb .t33 r.1 0])
noncomputable abbrev impl_TxPages.g (rec : List Item → St Ty D → R) (k : Nat) := go1 Try.f7 (impl_TxPages.ctx k) impl_TxPages.sp 0 impl_TxPages.en rec
set_option maxRecDepth 100000 in
theorem impl_TxPages.t3 (rec : List Item → St Ty D → R) (k : Nat) (x0 : Int) (x1 : Int) (x19 : List S48) (x20 : Int) (x21 : Int) (h64 : List ByteArray) : impl_TxPages.g rec k (td Try.f7 3) (impl_TxPages.s3 x0 x1 x19 x20 x21 h64) =
  bif decide (x21 < x20) then bif decide (0 ≤ x21) then bif decide (x21 < (x19.length : Int)) then (impl_RecText.f k ((rd_T48 x19 x21).f0) ((rd_T48 x19 x21).f1) ((rd_T48 x19 x21).f2) ((rd_T48 x19 x21).f3)).bind fun t1 => bif !t1.2 then some (impl_TxPages.e (([] : List S33), false)) else bif decide (0 ≤ (w64 ((h64.length : Int) - 1))) then bif decide ((w64 ((h64.length : Int) - 1)) < (h64.length : Int)) then bif decide ((w64 (((rd_T9 h64 (w64 ((h64.length : Int) - 1))).size : Int) + (t1.1.size : Int))) > 90) then bif decide (h64.length + ([(⟨#[]⟩ : ByteArray)] : List ByteArray).length ≤ 8796093022208) then bif decide (0 ≤ (w64 ((w64 ((h64.length : Int) - 1)) + 1))) then bif decide ((w64 ((w64 ((h64.length : Int) - 1)) + 1)) < ((h64 ++ ([(⟨#[]⟩ : ByteArray)] : List ByteArray)).length : Int)) then bif decide ((rd_T9 (h64 ++ ([(⟨#[]⟩ : ByteArray)] : List ByteArray)) (w64 ((w64 ((h64.length : Int) - 1)) + 1))).size + t1.1.size ≤ 9223372036854775807) then bif decide (0 ≤ (w64 ((w64 ((h64.length : Int) - 1)) + 1))) then bif decide ((w64 ((w64 ((h64.length : Int) - 1)) + 1)) < ((h64 ++ ([(⟨#[]⟩ : ByteArray)] : List ByteArray)).length : Int)) then rec (td Try.f7 3) (impl_TxPages.s3 x0 x1 x19 x20 (w64 (x21 + 1)) ((h64 ++ ([(⟨#[]⟩ : ByteArray)] : List ByteArray)).set ((w64 ((w64 ((h64.length : Int) - 1)) + 1)).toNat) ((rd_T9 (h64 ++ ([(⟨#[]⟩ : ByteArray)] : List ByteArray)) (w64 ((w64 ((h64.length : Int) - 1)) + 1))) ++ t1.1))) else none else none else none else none else none else none else bif decide (0 ≤ (w64 ((h64.length : Int) - 1))) then bif decide ((w64 ((h64.length : Int) - 1)) < (h64.length : Int)) then bif decide ((rd_T9 h64 (w64 ((h64.length : Int) - 1))).size + t1.1.size ≤ 9223372036854775807) then bif decide (0 ≤ (w64 ((h64.length : Int) - 1))) then bif decide ((w64 ((h64.length : Int) - 1)) < (h64.length : Int)) then rec (td Try.f7 3) (impl_TxPages.s3 x0 x1 x19 x20 (w64 (x21 + 1)) (h64.set ((w64 ((h64.length : Int) - 1)).toNat) ((rd_T9 h64 (w64 ((h64.length : Int) - 1))) ++ t1.1))) else none else none else none else none else none else none else none else none else none else bif decide ((h64.length : Int) > 9) then some (impl_TxPages.e (([] : List S33), false)) else (impl_in.f k x0 1 (w64 ((w64 (1000000000 - (h64.length : Int))) + 1))).bind fun t2 => bif !t2 then some (impl_TxPages.e (([] : List S33), false)) else (impl_in.f k x1 1 1000000000).bind fun t3 => bif !t3 then some (impl_TxPages.e (([] : List S33), false)) else rec (td Try.f7 19) (impl_TxPages.s19 x0 x1 (h64.length : Int) (h64.length : Int) 0 ([] : List S33) h64) := by kernel_rfl
set_option maxRecDepth 100000 in
theorem impl_TxPages.t19 (rec : List Item → St Ty D → R) (k : Nat) (x0 : Int) (x1 : Int) (x14 : Int) (x75 : Int) (x76 : Int) (h64 : List S33) (h65 : List ByteArray) : impl_TxPages.g rec k (td Try.f7 19) (impl_TxPages.s19 x0 x1 x14 x75 x76 h64 h65) =
  bif decide (x76 < x75) then bif decide (0 ≤ x76) then bif decide (x76 < (h65.length : Int)) then bif decide (h64.length + ([(S33.mk 2 (w64 (x0 + x76)) x1 x76 x14 (rd_T9 h65 x76))] : List S33).length ≤ 2513169434916) then rec (td Try.f7 19) (impl_TxPages.s19 x0 x1 x14 x75 (w64 (x76 + 1)) (h64 ++ ([(S33.mk 2 (w64 (x0 + x76)) x1 x76 x14 (rd_T9 h65 x76))] : List S33)) h65) else none else none else none else some (impl_TxPages.e (h64, true)) := by kernel_rfl
set_option maxRecDepth 100000 in
theorem impl_TxPages.te (rec : List Item → St Ty D → R) (k : Nat) (a0 : Int) (a1 : Int) (a2 : List S48) : impl_TxPages.g rec k [.code (body Try.f7)] (startSt [.sc (.int .i64 a0), .sc (.int .i64 a1), .row 0 .t48 a2] []) =
  rec (td Try.f7 3) (impl_TxPages.s3 a0 a1 a2 (a2.length : Int) 0 ([(⟨#[]⟩ : ByteArray)] : List ByteArray)) := by kernel_rfl
set_option maxRecDepth 100000 in
theorem impl_TxPages.ok : ∀ k : Nat, (∀ (x0 : Int) (x1 : Int) (x19 : List S48) (x20 : Int) (x21 : Int) (h64 : List ByteArray), goF Try.f7 impl_TxPages.ctx impl_TxPages.sp 0 impl_TxPages.en k (td Try.f7 3) (impl_TxPages.s3 x0 x1 x19 x20 x21 h64) = (impl_TxPages.c3 k x0 x1 x19 x20 x21 h64).map impl_TxPages.e) ∧ (∀ (x0 : Int) (x1 : Int) (x14 : Int) (x75 : Int) (x76 : Int) (h64 : List S33) (h65 : List ByteArray), goF Try.f7 impl_TxPages.ctx impl_TxPages.sp 0 impl_TxPages.en k (td Try.f7 19) (impl_TxPages.s19 x0 x1 x14 x75 x76 h64 h65) = (impl_TxPages.c19 k x0 x1 x14 x75 x76 h64 h65).map impl_TxPages.e)
  | 0 => ⟨fun _ _ _ _ _ _ => rfl, fun _ _ _ _ _ _ _ => rfl⟩
  | k + 1 => by
    have ih := impl_TxPages.ok k
    obtain ⟨i3, i19⟩ := ih
    refine ⟨?_, ?_⟩
    · intro x0 x1 x19 x20 x21 h64; rw [impl_TxPages.c3]; exact (impl_TxPages.t3 _ k x0 x1 x19 x20 x21 h64).trans (cd (cd (cd (bn (fun t1 => (nb rfl (cd (cd (cd (cd (cd (cd (cd (cd (cd (i3 _ _ _ _ _ _) rfl) rfl) rfl) rfl) rfl) rfl) (cd (cd (cd (cd (cd (i3 _ _ _ _ _ _) rfl) rfl) rfl) rfl) rfl)) rfl) rfl)))) rfl) rfl) (cd rfl (bn (fun t2 => (nb rfl (bn (fun t3 => (nb rfl (i19 _ _ _ _ _ _ _)))))))))
    · intro x0 x1 x14 x75 x76 h64 h65; rw [impl_TxPages.c19]; exact (impl_TxPages.t19 _ k x0 x1 x14 x75 x76 h64 h65).trans (cd (cd (cd (cd (i19 _ _ _ _ _ _ _) rfl) rfl) rfl) rfl)
set_option maxRecDepth 100000 in
theorem impl_TxPages.oke (k : Nat) (a0 : Int) (a1 : Int) (a2 : List S48) : goF Try.f7 impl_TxPages.ctx impl_TxPages.sp 0 impl_TxPages.en (k + 1) [.code (body Try.f7)] (startSt [.sc (.int .i64 a0), .sc (.int .i64 a1), .row 0 .t48 a2] []) = (impl_TxPages.f k a0 a1 a2).map impl_TxPages.e := by
  obtain ⟨i3, i19⟩ := impl_TxPages.ok k
  rw [impl_TxPages.f]; exact (impl_TxPages.te _ k a0 a1 a2).trans (i3 _ _ _ _ _ _)
theorem impl_TxPages.con (k : Nat) (a0 : Int) (a1 : Int) (a2 : List S48) (r) (h : impl_TxPages.f k a0 a1 a2 = some r) : Contract Try.prog kit 7 [.sc (.int .i64 a0), .sc (.int .i64 a1), .row 0 .t48 a2] [] (impl_TxPages.e r).1 (impl_TxPages.e r).2.1 (impl_TxPages.e r).2.2 :=
  con_okG kitOk mix (fun k => (CtxOk.cons (impl_RecText.xok k) (CtxOk.cons (impl_in.xok k) CtxOk.nil))) (impl_TxPages.oke k a0 a1 a2) h (by kernel_rfl) (by kernel_rfl) (by kernel_rfl) rfl (by kernel_rfl) rfl rfl
noncomputable def impl_TxPages.x (k : Nat) : X := fun ins bs κ => match ins, bs with
  | [.sc (.int .i64 a0), .sc (.int .i64 a1), .row 0 .t48 a2], [] => (impl_TxPages.f k a0 a1 a2).bind fun r => κ (impl_TxPages.e r).1 (impl_TxPages.e r).2.1 (impl_TxPages.e r).2.2
  | _, _ => none
theorem impl_TxPages.xok (k : Nat) : XOk 7 (impl_TxPages.x k) := by
  intro ins bs κ res h
  unfold impl_TxPages.x at h
  split at h
  · obtain ⟨r, hr, h⟩ := Option.bind_eq_some_iff.1 h
    exact ⟨_, _, _, impl_TxPages.con k _ _ _ r hr, h⟩
  · cases h

/-! ### spec_l01In: function 20 -/
noncomputable def spec_l01In.sp : Nat → Option (Spec Ty) := fun r => none
noncomputable def spec_l01In.en : Option (Spec Ty) := none
noncomputable def spec_l01In.ctx (k : Nat) : Ctx Ty D := (fun _ _ _ _ => none)
noncomputable def spec_l01In.f (k : Nat) (a0 : Int) (a1 : Int) (a2 : Int) : Option (Bool) := (if a0 ≥ a1 then (some ((decide (a0 ≤ a2)))) else (some (false)))
noncomputable def spec_l01In.e (r : Bool) : Res Ty D := (.sc (.bool r), [], [])
noncomputable abbrev spec_l01In.g (rec : List Item → St Ty D → R) (k : Nat) := go1 Try.f20 (spec_l01In.ctx k) spec_l01In.sp 0 spec_l01In.en rec
set_option maxRecDepth 100000 in
theorem spec_l01In.te (rec : List Item → St Ty D → R) (k : Nat) (a0 : Int) (a1 : Int) (a2 : Int) : spec_l01In.g rec k [.code (body Try.f20)] (startSt [.sc (.int .i64 a0), .sc (.int .i64 a1), .sc (.int .i64 a2)] []) =
  bif decide (a0 ≥ a1) then some (spec_l01In.e ((decide (a0 ≤ a2)))) else some (spec_l01In.e (false)) := by kernel_rfl
set_option maxRecDepth 100000 in
theorem spec_l01In.oke (k : Nat) (a0 : Int) (a1 : Int) (a2 : Int) : goF Try.f20 spec_l01In.ctx spec_l01In.sp 0 spec_l01In.en (k + 1) [.code (body Try.f20)] (startSt [.sc (.int .i64 a0), .sc (.int .i64 a1), .sc (.int .i64 a2)] []) = (spec_l01In.f k a0 a1 a2).map spec_l01In.e := by
  rw [spec_l01In.f]; exact (spec_l01In.te _ k a0 a1 a2).trans (cd rfl rfl)
theorem spec_l01In.con (k : Nat) (a0 : Int) (a1 : Int) (a2 : Int) (r) (h : spec_l01In.f k a0 a1 a2 = some r) : Contract Try.prog kit 20 [.sc (.int .i64 a0), .sc (.int .i64 a1), .sc (.int .i64 a2)] [] (spec_l01In.e r).1 (spec_l01In.e r).2.1 (spec_l01In.e r).2.2 :=
  con_okG kitOk mix (fun k => CtxOk.nil) (spec_l01In.oke k a0 a1 a2) h (by kernel_rfl) (by kernel_rfl) (by kernel_rfl) rfl (by kernel_rfl) rfl rfl
noncomputable def spec_l01In.x (k : Nat) : X := fun ins bs κ => match ins, bs with
  | [.sc (.int .i64 a0), .sc (.int .i64 a1), .sc (.int .i64 a2)], [] => (spec_l01In.f k a0 a1 a2).bind fun r => κ (spec_l01In.e r).1 (spec_l01In.e r).2.1 (spec_l01In.e r).2.2
  | _, _ => none
theorem spec_l01In.xok (k : Nat) : XOk 20 (spec_l01In.x k) := by
  intro ins bs κ res h
  unfold spec_l01In.x at h
  split at h
  · obtain ⟨r, hr, h⟩ := Option.bind_eq_some_iff.1 h
    exact ⟨_, _, _, spec_l01In.con k _ _ _ r hr, h⟩
  · cases h

/-! ### spec_RecOk: function 27 -/
noncomputable def spec_RecOk.sp : Nat → Option (Spec Ty) := fun r => none
noncomputable def spec_RecOk.en : Option (Spec Ty) := none
noncomputable def spec_RecOk.ctx (k : Nat) : Ctx Ty D := (cons 20 (spec_l01In.x k) (fun _ _ _ _ => none))
noncomputable def spec_RecOk.f (k : Nat) (a0_0 : Int) (a0_1 : Int) (a0_2 : Int) (a0_3 : Int) : Option (Bool) := ((spec_l01In.f k a0_2 0 1000000000).bind fun t1 => (if t1 = true then (if a0_0 = 1 then (if a0_1 = 0 then (some ((decide (a0_3 = 0)))) else (some (false))) else ((spec_l01In.f k a0_0 2 5).bind fun t2 => (if t2 = true then ((spec_l01In.f k a0_1 1 9).bind fun t3 => (if t3 = true then (if a0_0 = 4 then (if a0_0 = 2 then (some ((decide (a0_2 ≤ 9)))) else (if a0_0 = 3 then (some ((decide (a0_2 = 0)))) else (if a0_0 = 4 then (if a0_2 < 16 then ((spec_l01In.f k a0_3 1 1000000000).bind fun t5 => (some (t5))) else (some (false))) else (some ((decide (a0_2 < 16))))))) else (if a0_3 = 0 then (if a0_0 = 2 then (some ((decide (a0_2 ≤ 9)))) else (if a0_0 = 3 then (some ((decide (a0_2 = 0)))) else (if a0_0 = 4 then (if a0_2 < 16 then ((spec_l01In.f k a0_3 1 1000000000).bind fun t4 => (some (t4))) else (some (false))) else (some ((decide (a0_2 < 16))))))) else (some (false)))) else (some (false)))) else (some (false))))) else (some (false))))
noncomputable def spec_RecOk.e (r : Bool) : Res Ty D := (.sc (.bool r), [], [])
noncomputable abbrev spec_RecOk.g (rec : List Item → St Ty D → R) (k : Nat) := go1 Try.f27 (spec_RecOk.ctx k) spec_RecOk.sp 0 spec_RecOk.en rec
set_option maxRecDepth 100000 in
theorem spec_RecOk.te (rec : List Item → St Ty D → R) (k : Nat) (a0_0 : Int) (a0_1 : Int) (a0_2 : Int) (a0_3 : Int) : spec_RecOk.g rec k [.code (body Try.f27)] (startSt [.ag [.sc (.int .i64 a0_0), .sc (.int .i64 a0_1), .sc (.int .i64 a0_2), .sc (.int .i64 a0_3)]] []) =
  (spec_l01In.f k a0_2 0 1000000000).bind fun t1 => bif !t1 then some (spec_RecOk.e (false)) else bif decide (a0_0 = 1) then bif decide (a0_1 = 0) then some (spec_RecOk.e ((decide (a0_3 = 0)))) else some (spec_RecOk.e (false)) else (spec_l01In.f k a0_0 2 5).bind fun t2 => bif !t2 then some (spec_RecOk.e (false)) else (spec_l01In.f k a0_1 1 9).bind fun t3 => bif !t3 then some (spec_RecOk.e (false)) else bif !decide (a0_0 = 4) then bif !decide (a0_3 = 0) then some (spec_RecOk.e (false)) else bif decide (a0_0 = 2) then some (spec_RecOk.e ((decide (a0_2 ≤ 9)))) else bif decide (a0_0 = 3) then some (spec_RecOk.e ((decide (a0_2 = 0)))) else bif decide (a0_0 = 4) then bif decide (a0_2 < 16) then (spec_l01In.f k a0_3 1 1000000000).bind fun t4 => some (spec_RecOk.e (t4)) else some (spec_RecOk.e (false)) else some (spec_RecOk.e ((decide (a0_2 < 16)))) else bif decide (a0_0 = 2) then some (spec_RecOk.e ((decide (a0_2 ≤ 9)))) else bif decide (a0_0 = 3) then some (spec_RecOk.e ((decide (a0_2 = 0)))) else bif decide (a0_0 = 4) then bif decide (a0_2 < 16) then (spec_l01In.f k a0_3 1 1000000000).bind fun t5 => some (spec_RecOk.e (t5)) else some (spec_RecOk.e (false)) else some (spec_RecOk.e ((decide (a0_2 < 16)))) := by kernel_rfl
set_option maxRecDepth 100000 in
theorem spec_RecOk.oke (k : Nat) (a0_0 : Int) (a0_1 : Int) (a0_2 : Int) (a0_3 : Int) : goF Try.f27 spec_RecOk.ctx spec_RecOk.sp 0 spec_RecOk.en (k + 1) [.code (body Try.f27)] (startSt [.ag [.sc (.int .i64 a0_0), .sc (.int .i64 a0_1), .sc (.int .i64 a0_2), .sc (.int .i64 a0_3)]] []) = (spec_RecOk.f k a0_0 a0_1 a0_2 a0_3).map spec_RecOk.e := by
  rw [spec_RecOk.f]; exact (spec_RecOk.te _ k a0_0 a0_1 a0_2 a0_3).trans (bn (fun t1 => (nb rfl (cd (cd rfl rfl) (bn (fun t2 => (nb rfl (bn (fun t3 => (nb rfl (nd (nd rfl (cd rfl (cd rfl (cd (cd (bn (fun t4 => rfl)) rfl) rfl)))) (cd rfl (cd rfl (cd (cd (bn (fun t5 => rfl)) rfl) rfl))))))))))))))
theorem spec_RecOk.con (k : Nat) (a0_0 : Int) (a0_1 : Int) (a0_2 : Int) (a0_3 : Int) (r) (h : spec_RecOk.f k a0_0 a0_1 a0_2 a0_3 = some r) : Contract Try.prog kit 27 [.ag [.sc (.int .i64 a0_0), .sc (.int .i64 a0_1), .sc (.int .i64 a0_2), .sc (.int .i64 a0_3)]] [] (spec_RecOk.e r).1 (spec_RecOk.e r).2.1 (spec_RecOk.e r).2.2 :=
  con_okG kitOk mix (fun k => (CtxOk.cons (spec_l01In.xok k) CtxOk.nil)) (spec_RecOk.oke k a0_0 a0_1 a0_2 a0_3) h (by kernel_rfl) (by kernel_rfl) (by kernel_rfl) rfl (by kernel_rfl) rfl rfl
noncomputable def spec_RecOk.x (k : Nat) : X := fun ins bs κ => match ins, bs with
  | [.ag [.sc (.int .i64 a0_0), .sc (.int .i64 a0_1), .sc (.int .i64 a0_2), .sc (.int .i64 a0_3)]], [] => (spec_RecOk.f k a0_0 a0_1 a0_2 a0_3).bind fun r => κ (spec_RecOk.e r).1 (spec_RecOk.e r).2.1 (spec_RecOk.e r).2.2
  | _, _ => none
theorem spec_RecOk.xok (k : Nat) : XOk 27 (spec_RecOk.x k) := by
  intro ins bs κ res h
  unfold spec_RecOk.x at h
  split at h
  · obtain ⟨r, hr, h⟩ := Option.bind_eq_some_iff.1 h
    exact ⟨_, _, _, spec_RecOk.con k _ _ _ _ r hr, h⟩
  · cases h

/-! ### spec_l06Byte: function 28 -/
noncomputable def spec_l06Byte.sp : Nat → Option (Spec Ty) := fun r => none
noncomputable def spec_l06Byte.en : Option (Spec Ty) := none
noncomputable def spec_l06Byte.ctx (k : Nat) : Ctx Ty D := (fun _ _ _ _ => none)
noncomputable def spec_l06Byte.f (k : Nat) (a0 : Int) : Option (ByteArray) := (some ((strOfNums ([(Go.IntKind.wrap .u8 (a0))] : List Int))))
noncomputable def spec_l06Byte.e (r : ByteArray) : Res Ty D := (.sc (.string r), [], [])
noncomputable abbrev spec_l06Byte.g (rec : List Item → St Ty D → R) (k : Nat) := go1 Try.f28 (spec_l06Byte.ctx k) spec_l06Byte.sp 0 spec_l06Byte.en rec
set_option maxRecDepth 100000 in
theorem spec_l06Byte.te (rec : List Item → St Ty D → R) (k : Nat) (a0 : Int) : spec_l06Byte.g rec k [.code (body Try.f28)] (startSt [.sc (.int .i64 a0)] []) =
  some (spec_l06Byte.e ((strOfNums ([(Go.IntKind.wrap .u8 (a0))] : List Int)))) := by kernel_rfl
set_option maxRecDepth 100000 in
theorem spec_l06Byte.oke (k : Nat) (a0 : Int) : goF Try.f28 spec_l06Byte.ctx spec_l06Byte.sp 0 spec_l06Byte.en (k + 1) [.code (body Try.f28)] (startSt [.sc (.int .i64 a0)] []) = (spec_l06Byte.f k a0).map spec_l06Byte.e := by
  rw [spec_l06Byte.f]; exact (spec_l06Byte.te _ k a0).trans rfl
theorem spec_l06Byte.con (k : Nat) (a0 : Int) (r) (h : spec_l06Byte.f k a0 = some r) : Contract Try.prog kit 28 [.sc (.int .i64 a0)] [] (spec_l06Byte.e r).1 (spec_l06Byte.e r).2.1 (spec_l06Byte.e r).2.2 :=
  con_okG kitOk mix (fun k => CtxOk.nil) (spec_l06Byte.oke k a0) h (by kernel_rfl) (by kernel_rfl) (by kernel_rfl) rfl (by kernel_rfl) rfl rfl
noncomputable def spec_l06Byte.x (k : Nat) : X := fun ins bs κ => match ins, bs with
  | [.sc (.int .i64 a0)], [] => (spec_l06Byte.f k a0).bind fun r => κ (spec_l06Byte.e r).1 (spec_l06Byte.e r).2.1 (spec_l06Byte.e r).2.2
  | _, _ => none
theorem spec_l06Byte.xok (k : Nat) : XOk 28 (spec_l06Byte.x k) := by
  intro ins bs κ res h
  unfold spec_l06Byte.x at h
  split at h
  · obtain ⟨r, hr, h⟩ := Option.bind_eq_some_iff.1 h
    exact ⟨_, _, _, spec_l06Byte.con k _ r hr, h⟩
  · cases h

/-! ### spec_l01Var: function 29 -/
noncomputable def spec_l01Var.sp : Nat → Option (Spec Ty) := fun r => bif Nat.beq r 2 then some ⟨[(0, .keep), (3, .own .t5)], []⟩ else none
noncomputable def spec_l01Var.en : Option (Spec Ty) := none
noncomputable def spec_l01Var.s2 (x0 : Int) (h64 : List Int) : St Ty D := ⟨(Env.put (Env.put E (some 0) (.sc (.int .i64 x0))) (some 3) (.sl 64 none)), Heap.put H0 [(64, some (.rowb .t5 h64 0))], 1000⟩
noncomputable def spec_l01Var.ctx (k : Nat) : Ctx Ty D := (fun _ _ _ _ => none)
noncomputable def spec_l01Var.c2 : Nat → Int → (List Int) → Option (ByteArray)
  | 0, _, _ => none
  | k + 1, x0, h64 => (if x0 > 127 then (if h64.length + ([(Go.IntKind.wrap .u8 ((w64 ((Int.tmod x0 128) + 128))))] : List Int).length ≤ 140737488355328 then (spec_l01Var.c2 k (w64 (Int.tdiv x0 128)) (h64 ++ ([(Go.IntKind.wrap .u8 ((w64 ((Int.tmod x0 128) + 128))))] : List Int))) else none) else (if h64.length + ([(Go.IntKind.wrap .u8 (x0))] : List Int).length ≤ 140737488355328 then (some ((strOfNums (h64 ++ ([(Go.IntKind.wrap .u8 (x0))] : List Int))))) else none))
noncomputable def spec_l01Var.f (k : Nat) (a0 : Int) : Option (ByteArray) := (spec_l01Var.c2 k a0 ([] : List Int))
noncomputable def spec_l01Var.e (r : ByteArray) : Res Ty D := (.sc (.string r), [], [])
noncomputable abbrev spec_l01Var.g (rec : List Item → St Ty D → R) (k : Nat) := go1 Try.f29 (spec_l01Var.ctx k) spec_l01Var.sp 0 spec_l01Var.en rec
set_option maxRecDepth 100000 in
theorem spec_l01Var.t2 (rec : List Item → St Ty D → R) (k : Nat) (x0 : Int) (h64 : List Int) : spec_l01Var.g rec k (td Try.f29 2) (spec_l01Var.s2 x0 h64) =
  bif decide (x0 > 127) then bif decide (h64.length + ([(Go.IntKind.wrap .u8 ((w64 ((Int.tmod x0 128) + 128))))] : List Int).length ≤ 140737488355328) then rec (td Try.f29 2) (spec_l01Var.s2 (w64 (Int.tdiv x0 128)) (h64 ++ ([(Go.IntKind.wrap .u8 ((w64 ((Int.tmod x0 128) + 128))))] : List Int))) else none else bif decide (h64.length + ([(Go.IntKind.wrap .u8 (x0))] : List Int).length ≤ 140737488355328) then some (spec_l01Var.e ((strOfNums (h64 ++ ([(Go.IntKind.wrap .u8 (x0))] : List Int))))) else none := by kernel_rfl
set_option maxRecDepth 100000 in
theorem spec_l01Var.te (rec : List Item → St Ty D → R) (k : Nat) (a0 : Int) : spec_l01Var.g rec k [.code (body Try.f29)] (startSt [.sc (.int .i64 a0)] []) =
  rec (td Try.f29 2) (spec_l01Var.s2 a0 ([] : List Int)) := by kernel_rfl
set_option maxRecDepth 100000 in
theorem spec_l01Var.ok : ∀ k : Nat, (∀ (x0 : Int) (h64 : List Int), goF Try.f29 spec_l01Var.ctx spec_l01Var.sp 0 spec_l01Var.en k (td Try.f29 2) (spec_l01Var.s2 x0 h64) = (spec_l01Var.c2 k x0 h64).map spec_l01Var.e)
  | 0 => fun _ _ => rfl
  | k + 1 => by
    have ih := spec_l01Var.ok k
    have i2 := ih
    intro x0 h64; rw [spec_l01Var.c2]; exact (spec_l01Var.t2 _ k x0 h64).trans (cd (cd (i2 _ _) rfl) (cd rfl rfl))
set_option maxRecDepth 100000 in
theorem spec_l01Var.oke (k : Nat) (a0 : Int) : goF Try.f29 spec_l01Var.ctx spec_l01Var.sp 0 spec_l01Var.en (k + 1) [.code (body Try.f29)] (startSt [.sc (.int .i64 a0)] []) = (spec_l01Var.f k a0).map spec_l01Var.e := by
  have i2 := spec_l01Var.ok k
  rw [spec_l01Var.f]; exact (spec_l01Var.te _ k a0).trans (i2 _ _)
theorem spec_l01Var.con (k : Nat) (a0 : Int) (r) (h : spec_l01Var.f k a0 = some r) : Contract Try.prog kit 29 [.sc (.int .i64 a0)] [] (spec_l01Var.e r).1 (spec_l01Var.e r).2.1 (spec_l01Var.e r).2.2 :=
  con_okG kitOk mix (fun k => CtxOk.nil) (spec_l01Var.oke k a0) h (by kernel_rfl) (by kernel_rfl) (by kernel_rfl) rfl (by kernel_rfl) rfl rfl
noncomputable def spec_l01Var.x (k : Nat) : X := fun ins bs κ => match ins, bs with
  | [.sc (.int .i64 a0)], [] => (spec_l01Var.f k a0).bind fun r => κ (spec_l01Var.e r).1 (spec_l01Var.e r).2.1 (spec_l01Var.e r).2.2
  | _, _ => none
theorem spec_l01Var.xok (k : Nat) : XOk 29 (spec_l01Var.x k) := by
  intro ins bs κ res h
  unfold spec_l01Var.x at h
  split at h
  · obtain ⟨r, hr, h⟩ := Option.bind_eq_some_iff.1 h
    exact ⟨_, _, _, spec_l01Var.con k _ r hr, h⟩
  · cases h
end Go.Proofs.Ytkbfmompapcekaa.M2

/- Plain runs of functions: each is a plain Lean function, and keeps its contract. Written by a program of this session. -/
namespace Go.Proofs.Ytkbfmompapcekaa.M2
open Go Go.Proofs.Ytkbfmompapcekaa.PK
set_option linter.unusedVariables false
set_option linter.unusedSimpArgs false
set_option maxHeartbeats 4000000
/-! ### spec_RecText: function 19 -/
noncomputable def spec_RecText.sp : Nat → Option (Spec Ty) := fun r => none
noncomputable def spec_RecText.en : Option (Spec Ty) := none
noncomputable def spec_RecText.ctx (k : Nat) : Ctx Ty D := (cons 27 (spec_RecOk.x k) (cons 28 (spec_l06Byte.x k) (cons 29 (spec_l01Var.x k) (fun _ _ _ _ => none))))
noncomputable def spec_RecText.f (k : Nat) (a0_0 : Int) (a0_1 : Int) (a0_2 : Int) (a0_3 : Int) : Option (ByteArray × Bool) := ((spec_RecOk.f k a0_0 a0_1 a0_2 a0_3).bind fun t1 => (if t1 = true then ((spec_l06Byte.f k (w64 ((w64 (16 * a0_0)) + a0_1))).bind fun t2 => ((spec_l01Var.f k a0_2).bind fun t3 => (if t2.size + t3.size ≤ 9223372036854775807 then ((spec_l01Var.f k a0_3).bind fun t4 => (if (t2 ++ t3).size + t4.size ≤ 9223372036854775807 then (some (((t2 ++ t3) ++ t4), true)) else none)) else none))) else (some ((⟨#[]⟩ : ByteArray), false))))
noncomputable def spec_RecText.e (r : ByteArray × Bool) : Res Ty D := (.tu [.sc (.string r.1), .sc (.bool r.2)], [], [])
noncomputable abbrev spec_RecText.g (rec : List Item → St Ty D → R) (k : Nat) := go1 Try.f19 (spec_RecText.ctx k) spec_RecText.sp 0 spec_RecText.en rec
set_option maxRecDepth 100000 in
theorem spec_RecText.te (rec : List Item → St Ty D → R) (k : Nat) (a0_0 : Int) (a0_1 : Int) (a0_2 : Int) (a0_3 : Int) : spec_RecText.g rec k [.code (body Try.f19)] (startSt [.ag [.sc (.int .i64 a0_0), .sc (.int .i64 a0_1), .sc (.int .i64 a0_2), .sc (.int .i64 a0_3)]] []) =
  (spec_RecOk.f k a0_0 a0_1 a0_2 a0_3).bind fun t1 => bif !t1 then some (spec_RecText.e ((⟨#[]⟩ : ByteArray), false)) else (spec_l06Byte.f k (w64 ((w64 (16 * a0_0)) + a0_1))).bind fun t2 => (spec_l01Var.f k a0_2).bind fun t3 => bif decide (t2.size + t3.size ≤ 9223372036854775807) then (spec_l01Var.f k a0_3).bind fun t4 => bif decide ((t2 ++ t3).size + t4.size ≤ 9223372036854775807) then some (spec_RecText.e (((t2 ++ t3) ++ t4), true)) else none else none := by kernel_rfl
set_option maxRecDepth 100000 in
theorem spec_RecText.oke (k : Nat) (a0_0 : Int) (a0_1 : Int) (a0_2 : Int) (a0_3 : Int) : goF Try.f19 spec_RecText.ctx spec_RecText.sp 0 spec_RecText.en (k + 1) [.code (body Try.f19)] (startSt [.ag [.sc (.int .i64 a0_0), .sc (.int .i64 a0_1), .sc (.int .i64 a0_2), .sc (.int .i64 a0_3)]] []) = (spec_RecText.f k a0_0 a0_1 a0_2 a0_3).map spec_RecText.e := by
  rw [spec_RecText.f]; exact (spec_RecText.te _ k a0_0 a0_1 a0_2 a0_3).trans (bn (fun t1 => (nb rfl (bn (fun t2 => (bn (fun t3 => (cd (bn (fun t4 => (cd rfl rfl))) rfl))))))))
theorem spec_RecText.con (k : Nat) (a0_0 : Int) (a0_1 : Int) (a0_2 : Int) (a0_3 : Int) (r) (h : spec_RecText.f k a0_0 a0_1 a0_2 a0_3 = some r) : Contract Try.prog kit 19 [.ag [.sc (.int .i64 a0_0), .sc (.int .i64 a0_1), .sc (.int .i64 a0_2), .sc (.int .i64 a0_3)]] [] (spec_RecText.e r).1 (spec_RecText.e r).2.1 (spec_RecText.e r).2.2 :=
  con_okG kitOk mix (fun k => (CtxOk.cons (spec_RecOk.xok k) (CtxOk.cons (spec_l06Byte.xok k) (CtxOk.cons (spec_l01Var.xok k) CtxOk.nil)))) (spec_RecText.oke k a0_0 a0_1 a0_2 a0_3) h (by kernel_rfl) (by kernel_rfl) (by kernel_rfl) rfl (by kernel_rfl) rfl rfl
noncomputable def spec_RecText.x (k : Nat) : X := fun ins bs κ => match ins, bs with
  | [.ag [.sc (.int .i64 a0_0), .sc (.int .i64 a0_1), .sc (.int .i64 a0_2), .sc (.int .i64 a0_3)]], [] => (spec_RecText.f k a0_0 a0_1 a0_2 a0_3).bind fun r => κ (spec_RecText.e r).1 (spec_RecText.e r).2.1 (spec_RecText.e r).2.2
  | _, _ => none
theorem spec_RecText.xok (k : Nat) : XOk 19 (spec_RecText.x k) := by
  intro ins bs κ res h
  unfold spec_RecText.x at h
  split at h
  · obtain ⟨r, hr, h⟩ := Option.bind_eq_some_iff.1 h
    exact ⟨_, _, _, spec_RecText.con k _ _ _ _ r hr, h⟩
  · cases h

/-! ### spec_TxPages: function 8 -/
noncomputable def spec_TxPages.sp : Nat → Option (Spec Ty) := fun r => bif Nat.beq r 4 then some ⟨[(0, .keep), (1, .keep), (2, .keep), (8, .own .t33), (9, .own .t9), (10, .keep)], []⟩ else bif Nat.beq r 17 then some ⟨[(0, .keep), (1, .keep), (9, .own .t9), (14, .own .t33), (15, .keep)], []⟩ else none
noncomputable def spec_TxPages.en : Option (Spec Ty) := some ⟨[(6, .own .t33), (7, .keep)], []⟩
noncomputable def spec_TxPages.s4 (x0 : Int) (x1 : Int) (x2 : List S48) (x10 : Int) (h64 : List S33) (h65 : List ByteArray) : St Ty D := ⟨(Env.put (Env.put (Env.put (Env.put (Env.put (Env.put E (some 0) (.sc (.int .i64 x0))) (some 1) (.sc (.int .i64 x1))) (some 2) (.row 0 .t48 x2)) (some 8) (.sl 64 none)) (some 9) (.sl 65 none)) (some 10) (.sc (.int .i64 x10))), Heap.put H0 [(64, some (.rowb .t33 h64 0)), (65, some (.rowb .t9 h65 0))], 1000⟩
noncomputable def spec_TxPages.s17 (x0 : Int) (x1 : Int) (x15 : Int) (h64 : List ByteArray) (h65 : List S33) : St Ty D := ⟨(Env.put (Env.put (Env.put (Env.put (Env.put E (some 0) (.sc (.int .i64 x0))) (some 1) (.sc (.int .i64 x1))) (some 9) (.sl 64 none)) (some 14) (.sl 65 none)) (some 15) (.sc (.int .i64 x15))), Heap.put H0 [(64, some (.rowb .t9 h64 0)), (65, some (.rowb .t33 h65 0))], 1000⟩
noncomputable def spec_TxPages.ctx (k : Nat) : Ctx Ty D := (cons 19 (spec_RecText.x k) (cons 20 (spec_l01In.x k) (fun _ _ _ _ => none)))
mutual
noncomputable def spec_TxPages.c4 : Nat → Int → Int → (List S48) → Int → (List S33) → (List ByteArray) → Option ((List S33) × Bool)
  | 0, _, _, _, _, _, _ => none
  | k + 1, x0, x1, x2, x10, h64, h65 => (if x10 < (x2.length : Int) then (if 0 ≤ x10 then (if x10 < (x2.length : Int) then ((spec_RecText.f k ((rd_T48 x2 x10).f0) ((rd_T48 x2 x10).f1) ((rd_T48 x2 x10).f2) ((rd_T48 x2 x10).f3)).bind fun t1 => (if t1.2 = true then (if 0 ≤ (w64 ((h65.length : Int) - 1)) then (if (w64 ((h65.length : Int) - 1)) < (h65.length : Int) then (if (w64 (((rd_T9 h65 (w64 ((h65.length : Int) - 1))).size : Int) + (t1.1.size : Int))) > 90 then (if h65.length + ([t1.1] : List ByteArray).length ≤ 8796093022208 then (spec_TxPages.c4 k x0 x1 x2 (w64 (x10 + 1)) h64 (h65 ++ ([t1.1] : List ByteArray))) else none) else (if 0 ≤ (w64 ((h65.length : Int) - 1)) then (if (w64 ((h65.length : Int) - 1)) < (h65.length : Int) then (if (rd_T9 h65 (w64 ((h65.length : Int) - 1))).size + t1.1.size ≤ 9223372036854775807 then (if 0 ≤ (w64 ((h65.length : Int) - 1)) then (if (w64 ((h65.length : Int) - 1)) < (h65.length : Int) then (spec_TxPages.c4 k x0 x1 x2 (w64 (x10 + 1)) h64 (h65.set ((w64 ((h65.length : Int) - 1)).toNat) ((rd_T9 h65 (w64 ((h65.length : Int) - 1))) ++ t1.1))) else none) else none) else none) else none) else none)) else none) else none) else (some (h64, false)))) else none) else none) else (if (h65.length : Int) > 9 then (some (h64, false)) else ((spec_l01In.f k x0 1 (w64 ((w64 (1000000000 - (h65.length : Int))) + 1))).bind fun t2 => (if t2 = true then ((spec_l01In.f k x1 1 1000000000).bind fun t3 => (if t3 = true then (spec_TxPages.c17 k x0 x1 0 h65 ([] : List S33)) else (some (h64, false)))) else (some (h64, false))))))
noncomputable def spec_TxPages.c17 : Nat → Int → Int → Int → (List ByteArray) → (List S33) → Option ((List S33) × Bool)
  | 0, _, _, _, _, _ => none
  | k + 1, x0, x1, x15, h64, h65 => (if x15 < (h64.length : Int) then (if 0 ≤ x15 then (if x15 < (h64.length : Int) then (if h65.length + ([(S33.mk 2 (w64 (x0 + x15)) x1 x15 (h64.length : Int) (rd_T9 h64 x15))] : List S33).length ≤ 2513169434916 then (spec_TxPages.c17 k x0 x1 (w64 (x15 + 1)) h64 (h65 ++ ([(S33.mk 2 (w64 (x0 + x15)) x1 x15 (h64.length : Int) (rd_T9 h64 x15))] : List S33))) else none) else none) else none) else (some (h65, true)))
end
noncomputable def spec_TxPages.f (k : Nat) (a0 : Int) (a1 : Int) (a2 : List S48) : Option ((List S33) × Bool) := (spec_TxPages.c4 k a0 a1 a2 0 ([] : List S33) ([(⟨#[]⟩ : ByteArray)] : List ByteArray))
noncomputable def spec_TxPages.e (r : (List S33) × Bool) : Res Ty D := (.tu [.sl 0 none, .sc (.bool r.2)], [], [.rowb .t33 r.1 0])
noncomputable abbrev spec_TxPages.g (rec : List Item → St Ty D → R) (k : Nat) := go1 Try.f8 (spec_TxPages.ctx k) spec_TxPages.sp 0 spec_TxPages.en rec
set_option maxRecDepth 100000 in
theorem spec_TxPages.t4 (rec : List Item → St Ty D → R) (k : Nat) (x0 : Int) (x1 : Int) (x2 : List S48) (x10 : Int) (h64 : List S33) (h65 : List ByteArray) : spec_TxPages.g rec k (td Try.f8 4) (spec_TxPages.s4 x0 x1 x2 x10 h64 h65) =
  bif decide (x10 < (x2.length : Int)) then bif decide (0 ≤ x10) then bif decide (x10 < (x2.length : Int)) then (spec_RecText.f k ((rd_T48 x2 x10).f0) ((rd_T48 x2 x10).f1) ((rd_T48 x2 x10).f2) ((rd_T48 x2 x10).f3)).bind fun t1 => bif !t1.2 then some (spec_TxPages.e (h64, false)) else bif decide (0 ≤ (w64 ((h65.length : Int) - 1))) then bif decide ((w64 ((h65.length : Int) - 1)) < (h65.length : Int)) then bif decide ((w64 (((rd_T9 h65 (w64 ((h65.length : Int) - 1))).size : Int) + (t1.1.size : Int))) > 90) then bif decide (h65.length + ([t1.1] : List ByteArray).length ≤ 8796093022208) then rec (td Try.f8 4) (spec_TxPages.s4 x0 x1 x2 (w64 (x10 + 1)) h64 (h65 ++ ([t1.1] : List ByteArray))) else none else bif decide (0 ≤ (w64 ((h65.length : Int) - 1))) then bif decide ((w64 ((h65.length : Int) - 1)) < (h65.length : Int)) then bif decide ((rd_T9 h65 (w64 ((h65.length : Int) - 1))).size + t1.1.size ≤ 9223372036854775807) then bif decide (0 ≤ (w64 ((h65.length : Int) - 1))) then bif decide ((w64 ((h65.length : Int) - 1)) < (h65.length : Int)) then rec (td Try.f8 4) (spec_TxPages.s4 x0 x1 x2 (w64 (x10 + 1)) h64 (h65.set ((w64 ((h65.length : Int) - 1)).toNat) ((rd_T9 h65 (w64 ((h65.length : Int) - 1))) ++ t1.1))) else none else none else none else none else none else none else none else none else none else bif decide ((h65.length : Int) > 9) then some (spec_TxPages.e (h64, false)) else (spec_l01In.f k x0 1 (w64 ((w64 (1000000000 - (h65.length : Int))) + 1))).bind fun t2 => bif !t2 then some (spec_TxPages.e (h64, false)) else (spec_l01In.f k x1 1 1000000000).bind fun t3 => bif !t3 then some (spec_TxPages.e (h64, false)) else rec (td Try.f8 17) (spec_TxPages.s17 x0 x1 0 h65 ([] : List S33)) := by kernel_rfl
set_option maxRecDepth 100000 in
theorem spec_TxPages.t17 (rec : List Item → St Ty D → R) (k : Nat) (x0 : Int) (x1 : Int) (x15 : Int) (h64 : List ByteArray) (h65 : List S33) : spec_TxPages.g rec k (td Try.f8 17) (spec_TxPages.s17 x0 x1 x15 h64 h65) =
  bif decide (x15 < (h64.length : Int)) then bif decide (0 ≤ x15) then bif decide (x15 < (h64.length : Int)) then bif decide (h65.length + ([(S33.mk 2 (w64 (x0 + x15)) x1 x15 (h64.length : Int) (rd_T9 h64 x15))] : List S33).length ≤ 2513169434916) then rec (td Try.f8 17) (spec_TxPages.s17 x0 x1 (w64 (x15 + 1)) h64 (h65 ++ ([(S33.mk 2 (w64 (x0 + x15)) x1 x15 (h64.length : Int) (rd_T9 h64 x15))] : List S33))) else none else none else none else some (spec_TxPages.e (h65, true)) := by kernel_rfl
set_option maxRecDepth 100000 in
theorem spec_TxPages.te (rec : List Item → St Ty D → R) (k : Nat) (a0 : Int) (a1 : Int) (a2 : List S48) : spec_TxPages.g rec k [.code (body Try.f8)] (startSt [.sc (.int .i64 a0), .sc (.int .i64 a1), .row 0 .t48 a2] []) =
  rec (td Try.f8 4) (spec_TxPages.s4 a0 a1 a2 0 ([] : List S33) ([(⟨#[]⟩ : ByteArray)] : List ByteArray)) := by kernel_rfl
set_option maxRecDepth 100000 in
theorem spec_TxPages.ok : ∀ k : Nat, (∀ (x0 : Int) (x1 : Int) (x2 : List S48) (x10 : Int) (h64 : List S33) (h65 : List ByteArray), goF Try.f8 spec_TxPages.ctx spec_TxPages.sp 0 spec_TxPages.en k (td Try.f8 4) (spec_TxPages.s4 x0 x1 x2 x10 h64 h65) = (spec_TxPages.c4 k x0 x1 x2 x10 h64 h65).map spec_TxPages.e) ∧ (∀ (x0 : Int) (x1 : Int) (x15 : Int) (h64 : List ByteArray) (h65 : List S33), goF Try.f8 spec_TxPages.ctx spec_TxPages.sp 0 spec_TxPages.en k (td Try.f8 17) (spec_TxPages.s17 x0 x1 x15 h64 h65) = (spec_TxPages.c17 k x0 x1 x15 h64 h65).map spec_TxPages.e)
  | 0 => ⟨fun _ _ _ _ _ _ => rfl, fun _ _ _ _ _ => rfl⟩
  | k + 1 => by
    have ih := spec_TxPages.ok k
    obtain ⟨i4, i17⟩ := ih
    refine ⟨?_, ?_⟩
    · intro x0 x1 x2 x10 h64 h65; rw [spec_TxPages.c4]; exact (spec_TxPages.t4 _ k x0 x1 x2 x10 h64 h65).trans (cd (cd (cd (bn (fun t1 => (nb rfl (cd (cd (cd (cd (i4 _ _ _ _ _ _) rfl) (cd (cd (cd (cd (cd (i4 _ _ _ _ _ _) rfl) rfl) rfl) rfl) rfl)) rfl) rfl)))) rfl) rfl) (cd rfl (bn (fun t2 => (nb rfl (bn (fun t3 => (nb rfl (i17 _ _ _ _ _)))))))))
    · intro x0 x1 x15 h64 h65; rw [spec_TxPages.c17]; exact (spec_TxPages.t17 _ k x0 x1 x15 h64 h65).trans (cd (cd (cd (cd (i17 _ _ _ _ _) rfl) rfl) rfl) rfl)
set_option maxRecDepth 100000 in
theorem spec_TxPages.oke (k : Nat) (a0 : Int) (a1 : Int) (a2 : List S48) : goF Try.f8 spec_TxPages.ctx spec_TxPages.sp 0 spec_TxPages.en (k + 1) [.code (body Try.f8)] (startSt [.sc (.int .i64 a0), .sc (.int .i64 a1), .row 0 .t48 a2] []) = (spec_TxPages.f k a0 a1 a2).map spec_TxPages.e := by
  obtain ⟨i4, i17⟩ := spec_TxPages.ok k
  rw [spec_TxPages.f]; exact (spec_TxPages.te _ k a0 a1 a2).trans (i4 _ _ _ _ _ _)
theorem spec_TxPages.con (k : Nat) (a0 : Int) (a1 : Int) (a2 : List S48) (r) (h : spec_TxPages.f k a0 a1 a2 = some r) : Contract Try.prog kit 8 [.sc (.int .i64 a0), .sc (.int .i64 a1), .row 0 .t48 a2] [] (spec_TxPages.e r).1 (spec_TxPages.e r).2.1 (spec_TxPages.e r).2.2 :=
  con_okG kitOk mix (fun k => (CtxOk.cons (spec_RecText.xok k) (CtxOk.cons (spec_l01In.xok k) CtxOk.nil))) (spec_TxPages.oke k a0 a1 a2) h (by kernel_rfl) (by kernel_rfl) (by kernel_rfl) rfl (by kernel_rfl) rfl rfl
noncomputable def spec_TxPages.x (k : Nat) : X := fun ins bs κ => match ins, bs with
  | [.sc (.int .i64 a0), .sc (.int .i64 a1), .row 0 .t48 a2], [] => (spec_TxPages.f k a0 a1 a2).bind fun r => κ (spec_TxPages.e r).1 (spec_TxPages.e r).2.1 (spec_TxPages.e r).2.2
  | _, _ => none
theorem spec_TxPages.xok (k : Nat) : XOk 8 (spec_TxPages.x k) := by
  intro ins bs κ res h
  unfold spec_TxPages.x at h
  split at h
  · obtain ⟨r, hr, h⟩ := Option.bind_eq_some_iff.1 h
    exact ⟨_, _, _, spec_TxPages.con k _ _ _ r hr, h⟩
  · cases h

/-! ### spec_PageOk: function 9 -/
noncomputable def spec_PageOk.sp : Nat → Option (Spec Ty) := fun r => none
noncomputable def spec_PageOk.en : Option (Spec Ty) := none
noncomputable def spec_PageOk.ctx (k : Nat) : Ctx Ty D := (cons 20 (spec_l01In.x k) (fun _ _ _ _ => none))
noncomputable def spec_PageOk.f (k : Nat) (a0_0 : Int) (a0_1 : Int) (a0_2 : Int) (a0_3 : Int) (a0_4 : Int) (a0_5 : ByteArray) : Option (Bool) := ((spec_l01In.f k a0_0 1 2).bind fun t1 => (if t1 = true then ((spec_l01In.f k a0_1 1 1000000000).bind fun t2 => (if t2 = true then ((spec_l01In.f k a0_2 1 1000000000).bind fun t3 => (if t3 = true then ((spec_l01In.f k a0_4 1 9).bind fun t4 => (if t4 = true then ((spec_l01In.f k a0_3 0 (w64 (a0_4 - 1))).bind fun t5 => (if t5 = true then (if (a0_5.size : Int) > 90 then (some (false)) else (if a0_0 = 2 then (some (true)) else (some ((decide (a0_4 = 1)))))) else (some (false)))) else (some (false)))) else (some (false)))) else (some (false)))) else (some (false))))
noncomputable def spec_PageOk.e (r : Bool) : Res Ty D := (.sc (.bool r), [], [])
noncomputable abbrev spec_PageOk.g (rec : List Item → St Ty D → R) (k : Nat) := go1 Try.f9 (spec_PageOk.ctx k) spec_PageOk.sp 0 spec_PageOk.en rec
set_option maxRecDepth 100000 in
theorem spec_PageOk.te (rec : List Item → St Ty D → R) (k : Nat) (a0_0 : Int) (a0_1 : Int) (a0_2 : Int) (a0_3 : Int) (a0_4 : Int) (a0_5 : ByteArray) : spec_PageOk.g rec k [.code (body Try.f9)] (startSt [.ag [.sc (.int .i64 a0_0), .sc (.int .i64 a0_1), .sc (.int .i64 a0_2), .sc (.int .i64 a0_3), .sc (.int .i64 a0_4), .sc (.string a0_5)]] []) =
  (spec_l01In.f k a0_0 1 2).bind fun t1 => bif !t1 then some (spec_PageOk.e (false)) else (spec_l01In.f k a0_1 1 1000000000).bind fun t2 => bif !t2 then some (spec_PageOk.e (false)) else (spec_l01In.f k a0_2 1 1000000000).bind fun t3 => bif !t3 then some (spec_PageOk.e (false)) else (spec_l01In.f k a0_4 1 9).bind fun t4 => bif !t4 then some (spec_PageOk.e (false)) else (spec_l01In.f k a0_3 0 (w64 (a0_4 - 1))).bind fun t5 => bif !t5 then some (spec_PageOk.e (false)) else bif decide ((a0_5.size : Int) > 90) then some (spec_PageOk.e (false)) else bif decide (a0_0 = 2) then some (spec_PageOk.e (true)) else some (spec_PageOk.e ((decide (a0_4 = 1)))) := by kernel_rfl
set_option maxRecDepth 100000 in
theorem spec_PageOk.oke (k : Nat) (a0_0 : Int) (a0_1 : Int) (a0_2 : Int) (a0_3 : Int) (a0_4 : Int) (a0_5 : ByteArray) : goF Try.f9 spec_PageOk.ctx spec_PageOk.sp 0 spec_PageOk.en (k + 1) [.code (body Try.f9)] (startSt [.ag [.sc (.int .i64 a0_0), .sc (.int .i64 a0_1), .sc (.int .i64 a0_2), .sc (.int .i64 a0_3), .sc (.int .i64 a0_4), .sc (.string a0_5)]] []) = (spec_PageOk.f k a0_0 a0_1 a0_2 a0_3 a0_4 a0_5).map spec_PageOk.e := by
  rw [spec_PageOk.f]; exact (spec_PageOk.te _ k a0_0 a0_1 a0_2 a0_3 a0_4 a0_5).trans (bn (fun t1 => (nb rfl (bn (fun t2 => (nb rfl (bn (fun t3 => (nb rfl (bn (fun t4 => (nb rfl (bn (fun t5 => (nb rfl (cd rfl (cd rfl rfl)))))))))))))))))
theorem spec_PageOk.con (k : Nat) (a0_0 : Int) (a0_1 : Int) (a0_2 : Int) (a0_3 : Int) (a0_4 : Int) (a0_5 : ByteArray) (r) (h : spec_PageOk.f k a0_0 a0_1 a0_2 a0_3 a0_4 a0_5 = some r) : Contract Try.prog kit 9 [.ag [.sc (.int .i64 a0_0), .sc (.int .i64 a0_1), .sc (.int .i64 a0_2), .sc (.int .i64 a0_3), .sc (.int .i64 a0_4), .sc (.string a0_5)]] [] (spec_PageOk.e r).1 (spec_PageOk.e r).2.1 (spec_PageOk.e r).2.2 :=
  con_okG kitOk mix (fun k => (CtxOk.cons (spec_l01In.xok k) CtxOk.nil)) (spec_PageOk.oke k a0_0 a0_1 a0_2 a0_3 a0_4 a0_5) h (by kernel_rfl) (by kernel_rfl) (by kernel_rfl) rfl (by kernel_rfl) rfl rfl
noncomputable def spec_PageOk.x (k : Nat) : X := fun ins bs κ => match ins, bs with
  | [.ag [.sc (.int .i64 a0_0), .sc (.int .i64 a0_1), .sc (.int .i64 a0_2), .sc (.int .i64 a0_3), .sc (.int .i64 a0_4), .sc (.string a0_5)]], [] => (spec_PageOk.f k a0_0 a0_1 a0_2 a0_3 a0_4 a0_5).bind fun r => κ (spec_PageOk.e r).1 (spec_PageOk.e r).2.1 (spec_PageOk.e r).2.2
  | _, _ => none
theorem spec_PageOk.xok (k : Nat) : XOk 9 (spec_PageOk.x k) := by
  intro ins bs κ res h
  unfold spec_PageOk.x at h
  split at h
  · obtain ⟨r, hr, h⟩ := Option.bind_eq_some_iff.1 h
    exact ⟨_, _, _, spec_PageOk.con k _ _ _ _ _ _ r hr, h⟩
  · cases h

/-! ### impl_hasInt: function 21 -/
noncomputable def impl_hasInt.sp : Nat → Option (Spec Ty) := fun r => bif Nat.beq r 2 then some ⟨[(1, .keep), (7, .keep), (8, .keep), (9, .keep)], []⟩ else none
noncomputable def impl_hasInt.en : Option (Spec Ty) := none
noncomputable def impl_hasInt.s2 (x1 : Int) (x7 : List Int) (x8 : Int) (x9 : Int) : St Ty D := ⟨(Env.put (Env.put (Env.put (Env.put E (some 1) (.sc (.int .i64 x1))) (some 7) (.row 0 .t3 x7)) (some 8) (.sc (.int .i64 x8))) (some 9) (.sc (.int .i64 x9))), H0, 1000⟩
noncomputable def impl_hasInt.ctx (k : Nat) : Ctx Ty D := (fun _ _ _ _ => none)
noncomputable def impl_hasInt.c2 : Nat → Int → (List Int) → Int → Int → Option (Bool)
  | 0, _, _, _, _ => none
  | k + 1, x1, x7, x8, x9 => (if x9 < x8 then (if 0 ≤ x9 then (if x9 < (x7.length : Int) then (if (rd_T3 x7 x9) = x1 then (some (true)) else (impl_hasInt.c2 k x1 x7 x8 (w64 (x9 + 1)))) else none) else none) else (some (false)))
noncomputable def impl_hasInt.f (k : Nat) (a0 : List Int) (a1 : Int) : Option (Bool) := (impl_hasInt.c2 k a1 a0 (a0.length : Int) 0)
noncomputable def impl_hasInt.e (r : Bool) : Res Ty D := (.sc (.bool r), [], [])
noncomputable abbrev impl_hasInt.g (rec : List Item → St Ty D → R) (k : Nat) := go1 Try.f21 (impl_hasInt.ctx k) impl_hasInt.sp 0 impl_hasInt.en rec
set_option maxRecDepth 100000 in
theorem impl_hasInt.t2 (rec : List Item → St Ty D → R) (k : Nat) (x1 : Int) (x7 : List Int) (x8 : Int) (x9 : Int) : impl_hasInt.g rec k (td Try.f21 2) (impl_hasInt.s2 x1 x7 x8 x9) =
  bif decide (x9 < x8) then bif decide (0 ≤ x9) then bif decide (x9 < (x7.length : Int)) then bif decide ((rd_T3 x7 x9) = x1) then some (impl_hasInt.e (true)) else rec (td Try.f21 2) (impl_hasInt.s2 x1 x7 x8 (w64 (x9 + 1))) else none else none else some (impl_hasInt.e (false)) := by kernel_rfl
set_option maxRecDepth 100000 in
theorem impl_hasInt.te (rec : List Item → St Ty D → R) (k : Nat) (a0 : List Int) (a1 : Int) : impl_hasInt.g rec k [.code (body Try.f21)] (startSt [.row 0 .t3 a0, .sc (.int .i64 a1)] []) =
  rec (td Try.f21 2) (impl_hasInt.s2 a1 a0 (a0.length : Int) 0) := by kernel_rfl
set_option maxRecDepth 100000 in
theorem impl_hasInt.ok : ∀ k : Nat, (∀ (x1 : Int) (x7 : List Int) (x8 : Int) (x9 : Int), goF Try.f21 impl_hasInt.ctx impl_hasInt.sp 0 impl_hasInt.en k (td Try.f21 2) (impl_hasInt.s2 x1 x7 x8 x9) = (impl_hasInt.c2 k x1 x7 x8 x9).map impl_hasInt.e)
  | 0 => fun _ _ _ _ => rfl
  | k + 1 => by
    have ih := impl_hasInt.ok k
    have i2 := ih
    intro x1 x7 x8 x9; rw [impl_hasInt.c2]; exact (impl_hasInt.t2 _ k x1 x7 x8 x9).trans (cd (cd (cd (cd rfl (i2 _ _ _ _)) rfl) rfl) rfl)
set_option maxRecDepth 100000 in
theorem impl_hasInt.oke (k : Nat) (a0 : List Int) (a1 : Int) : goF Try.f21 impl_hasInt.ctx impl_hasInt.sp 0 impl_hasInt.en (k + 1) [.code (body Try.f21)] (startSt [.row 0 .t3 a0, .sc (.int .i64 a1)] []) = (impl_hasInt.f k a0 a1).map impl_hasInt.e := by
  have i2 := impl_hasInt.ok k
  rw [impl_hasInt.f]; exact (impl_hasInt.te _ k a0 a1).trans (i2 _ _ _ _)
theorem impl_hasInt.con (k : Nat) (a0 : List Int) (a1 : Int) (r) (h : impl_hasInt.f k a0 a1 = some r) : Contract Try.prog kit 21 [.row 0 .t3 a0, .sc (.int .i64 a1)] [] (impl_hasInt.e r).1 (impl_hasInt.e r).2.1 (impl_hasInt.e r).2.2 :=
  con_okG kitOk mix (fun k => CtxOk.nil) (impl_hasInt.oke k a0 a1) h (by kernel_rfl) (by kernel_rfl) (by kernel_rfl) rfl (by kernel_rfl) rfl rfl
noncomputable def impl_hasInt.x (k : Nat) : X := fun ins bs κ => match ins, bs with
  | [.row 0 .t3 a0, .sc (.int .i64 a1)], [] => (impl_hasInt.f k a0 a1).bind fun r => κ (impl_hasInt.e r).1 (impl_hasInt.e r).2.1 (impl_hasInt.e r).2.2
  | _, _ => none
theorem impl_hasInt.xok (k : Nat) : XOk 21 (impl_hasInt.x k) := by
  intro ins bs κ res h
  unfold impl_hasInt.x at h
  split at h
  · obtain ⟨r, hr, h⟩ := Option.bind_eq_some_iff.1 h
    exact ⟨_, _, _, impl_hasInt.con k _ _ r hr, h⟩
  · cases h

/-! ### impl_metaOf: function 31 -/
noncomputable def impl_metaOf.sp : Nat → Option (Spec Ty) := fun r => bif Nat.beq r 2 then some ⟨[(1, .keep), (2, .keep), (3, .keep), (8, .box [.keep, .keep, .keep, .keep, .keep, .keep]), (13, .keep), (14, .keep), (15, .keep)], []⟩ else none
noncomputable def impl_metaOf.en : Option (Spec Ty) := none
noncomputable def impl_metaOf.s2 (x1 : Int) (x2 : Int) (x3 : Int) (x13 : List S36) (x14 : Int) (x15 : Int) (h64_0 : Int) (h64_1 : Int) (h64_2 : Int) (h64_3 : Int) (h64_4 : Int) (h64_5 : ByteArray) : St Ty D := ⟨(Env.put (Env.put (Env.put (Env.put (Env.put (Env.put (Env.put E (some 1) (.sc (.int .i64 x1))) (some 2) (.sc (.int .i64 x2))) (some 3) (.sc (.int .i64 x3))) (some 8) (.pt 64 0 0)) (some 13) (.row 0 .t36 x13)) (some 14) (.sc (.int .i64 x14))) (some 15) (.sc (.int .i64 x15))), Heap.put H0 [(64, some (.box [.sc (.int .i64 h64_0), .sc (.int .i64 h64_1), .sc (.int .i64 h64_2), .sc (.int .i64 h64_3), .sc (.int .i64 h64_4), .sc (.string h64_5)]))], 1000⟩
noncomputable def impl_metaOf.ctx (k : Nat) : Ctx Ty D := (fun _ _ _ _ => none)
noncomputable def impl_metaOf.c2 : Nat → Int → Int → Int → (List S36) → Int → Int → Int → Int → Int → Int → Int → ByteArray → Option (Int × Int × Int × Int × Int × ByteArray × Bool)
  | 0, _, _, _, _, _, _, _, _, _, _, _, _ => none
  | k + 1, x1, x2, x3, x13, x14, x15, h64_0, h64_1, h64_2, h64_3, h64_4, h64_5 => (if x15 < x14 then (if 0 ≤ x15 then (if x15 < (x13.length : Int) then (if ((rd_T36 x13 x15).f2.f0) = 2 then (if ((rd_T36 x13 x15).f2.f2) = x1 then (if ((rd_T36 x13 x15).f2.f3) = x2 then (if x3 = 0 then (some ((rd_T36 x13 x15).f2.f0, (rd_T36 x13 x15).f2.f1, (rd_T36 x13 x15).f2.f2, (rd_T36 x13 x15).f2.f3, (rd_T36 x13 x15).f2.f4, (rd_T36 x13 x15).f2.f5, true)) else (if ((rd_T36 x13 x15).f2.f4) = x3 then (some ((rd_T36 x13 x15).f2.f0, (rd_T36 x13 x15).f2.f1, (rd_T36 x13 x15).f2.f2, (rd_T36 x13 x15).f2.f3, (rd_T36 x13 x15).f2.f4, (rd_T36 x13 x15).f2.f5, true)) else (impl_metaOf.c2 k x1 x2 x3 x13 x14 (w64 (x15 + 1)) h64_0 h64_1 h64_2 h64_3 h64_4 h64_5))) else (impl_metaOf.c2 k x1 x2 x3 x13 x14 (w64 (x15 + 1)) h64_0 h64_1 h64_2 h64_3 h64_4 h64_5)) else (impl_metaOf.c2 k x1 x2 x3 x13 x14 (w64 (x15 + 1)) h64_0 h64_1 h64_2 h64_3 h64_4 h64_5)) else (impl_metaOf.c2 k x1 x2 x3 x13 x14 (w64 (x15 + 1)) h64_0 h64_1 h64_2 h64_3 h64_4 h64_5)) else none) else none) else (some (0, 0, 0, 0, 0, (⟨#[]⟩ : ByteArray), false)))
noncomputable def impl_metaOf.f (k : Nat) (a0 : List S36) (a1 : Int) (a2 : Int) (a3 : Int) : Option (Int × Int × Int × Int × Int × ByteArray × Bool) := (impl_metaOf.c2 k a1 a2 a3 a0 (a0.length : Int) 0 0 0 0 0 0 (⟨#[]⟩ : ByteArray))
noncomputable def impl_metaOf.e (r : Int × Int × Int × Int × Int × ByteArray × Bool) : Res Ty D := (.tu [.ag [.sc (.int .i64 r.1), .sc (.int .i64 r.2.1), .sc (.int .i64 r.2.2.1), .sc (.int .i64 r.2.2.2.1), .sc (.int .i64 r.2.2.2.2.1), .sc (.string r.2.2.2.2.2.1)], .sc (.bool r.2.2.2.2.2.2)], [], [])
noncomputable abbrev impl_metaOf.g (rec : List Item → St Ty D → R) (k : Nat) := go1 Try.f31 (impl_metaOf.ctx k) impl_metaOf.sp 0 impl_metaOf.en rec
set_option maxRecDepth 100000 in
theorem impl_metaOf.t2 (rec : List Item → St Ty D → R) (k : Nat) (x1 : Int) (x2 : Int) (x3 : Int) (x13 : List S36) (x14 : Int) (x15 : Int) (h64_0 : Int) (h64_1 : Int) (h64_2 : Int) (h64_3 : Int) (h64_4 : Int) (h64_5 : ByteArray) : impl_metaOf.g rec k (td Try.f31 2) (impl_metaOf.s2 x1 x2 x3 x13 x14 x15 h64_0 h64_1 h64_2 h64_3 h64_4 h64_5) =
  bif decide (x15 < x14) then bif decide (0 ≤ x15) then bif decide (x15 < (x13.length : Int)) then bif decide (((rd_T36 x13 x15).f2.f0) = 2) then bif decide (((rd_T36 x13 x15).f2.f2) = x1) then bif decide (((rd_T36 x13 x15).f2.f3) = x2) then bif decide (x3 = 0) then some (impl_metaOf.e ((rd_T36 x13 x15).f2.f0, (rd_T36 x13 x15).f2.f1, (rd_T36 x13 x15).f2.f2, (rd_T36 x13 x15).f2.f3, (rd_T36 x13 x15).f2.f4, (rd_T36 x13 x15).f2.f5, true)) else bif decide (((rd_T36 x13 x15).f2.f4) = x3) then some (impl_metaOf.e ((rd_T36 x13 x15).f2.f0, (rd_T36 x13 x15).f2.f1, (rd_T36 x13 x15).f2.f2, (rd_T36 x13 x15).f2.f3, (rd_T36 x13 x15).f2.f4, (rd_T36 x13 x15).f2.f5, true)) else rec (td Try.f31 2) (impl_metaOf.s2 x1 x2 x3 x13 x14 (w64 (x15 + 1)) h64_0 h64_1 h64_2 h64_3 h64_4 h64_5) else rec (td Try.f31 2) (impl_metaOf.s2 x1 x2 x3 x13 x14 (w64 (x15 + 1)) h64_0 h64_1 h64_2 h64_3 h64_4 h64_5) else rec (td Try.f31 2) (impl_metaOf.s2 x1 x2 x3 x13 x14 (w64 (x15 + 1)) h64_0 h64_1 h64_2 h64_3 h64_4 h64_5) else rec (td Try.f31 2) (impl_metaOf.s2 x1 x2 x3 x13 x14 (w64 (x15 + 1)) h64_0 h64_1 h64_2 h64_3 h64_4 h64_5) else none else none else some (impl_metaOf.e (0, 0, 0, 0, 0, (⟨#[]⟩ : ByteArray), false)) := by kernel_rfl
set_option maxRecDepth 100000 in
theorem impl_metaOf.te (rec : List Item → St Ty D → R) (k : Nat) (a0 : List S36) (a1 : Int) (a2 : Int) (a3 : Int) : impl_metaOf.g rec k [.code (body Try.f31)] (startSt [.row 0 .t36 a0, .sc (.int .i64 a1), .sc (.int .i64 a2), .sc (.int .i64 a3)] []) =
  rec (td Try.f31 2) (impl_metaOf.s2 a1 a2 a3 a0 (a0.length : Int) 0 0 0 0 0 0 (⟨#[]⟩ : ByteArray)) := by kernel_rfl
set_option maxRecDepth 100000 in
theorem impl_metaOf.ok : ∀ k : Nat, (∀ (x1 : Int) (x2 : Int) (x3 : Int) (x13 : List S36) (x14 : Int) (x15 : Int) (h64_0 : Int) (h64_1 : Int) (h64_2 : Int) (h64_3 : Int) (h64_4 : Int) (h64_5 : ByteArray), goF Try.f31 impl_metaOf.ctx impl_metaOf.sp 0 impl_metaOf.en k (td Try.f31 2) (impl_metaOf.s2 x1 x2 x3 x13 x14 x15 h64_0 h64_1 h64_2 h64_3 h64_4 h64_5) = (impl_metaOf.c2 k x1 x2 x3 x13 x14 x15 h64_0 h64_1 h64_2 h64_3 h64_4 h64_5).map impl_metaOf.e)
  | 0 => fun _ _ _ _ _ _ _ _ _ _ _ _ => rfl
  | k + 1 => by
    have ih := impl_metaOf.ok k
    have i2 := ih
    intro x1 x2 x3 x13 x14 x15 h64_0 h64_1 h64_2 h64_3 h64_4 h64_5; rw [impl_metaOf.c2]; exact (impl_metaOf.t2 _ k x1 x2 x3 x13 x14 x15 h64_0 h64_1 h64_2 h64_3 h64_4 h64_5).trans (cd (cd (cd (cd (cd (cd (cd rfl (cd rfl (i2 _ _ _ _ _ _ _ _ _ _ _ _))) (i2 _ _ _ _ _ _ _ _ _ _ _ _)) (i2 _ _ _ _ _ _ _ _ _ _ _ _)) (i2 _ _ _ _ _ _ _ _ _ _ _ _)) rfl) rfl) rfl)
set_option maxRecDepth 100000 in
theorem impl_metaOf.oke (k : Nat) (a0 : List S36) (a1 : Int) (a2 : Int) (a3 : Int) : goF Try.f31 impl_metaOf.ctx impl_metaOf.sp 0 impl_metaOf.en (k + 1) [.code (body Try.f31)] (startSt [.row 0 .t36 a0, .sc (.int .i64 a1), .sc (.int .i64 a2), .sc (.int .i64 a3)] []) = (impl_metaOf.f k a0 a1 a2 a3).map impl_metaOf.e := by
  have i2 := impl_metaOf.ok k
  rw [impl_metaOf.f]; exact (impl_metaOf.te _ k a0 a1 a2 a3).trans (i2 _ _ _ _ _ _ _ _ _ _ _ _)
theorem impl_metaOf.con (k : Nat) (a0 : List S36) (a1 : Int) (a2 : Int) (a3 : Int) (r) (h : impl_metaOf.f k a0 a1 a2 a3 = some r) : Contract Try.prog kit 31 [.row 0 .t36 a0, .sc (.int .i64 a1), .sc (.int .i64 a2), .sc (.int .i64 a3)] [] (impl_metaOf.e r).1 (impl_metaOf.e r).2.1 (impl_metaOf.e r).2.2 :=
  con_okG kitOk mix (fun k => CtxOk.nil) (impl_metaOf.oke k a0 a1 a2 a3) h (by kernel_rfl) (by kernel_rfl) (by kernel_rfl) rfl (by kernel_rfl) rfl rfl
noncomputable def impl_metaOf.x (k : Nat) : X := fun ins bs κ => match ins, bs with
  | [.row 0 .t36 a0, .sc (.int .i64 a1), .sc (.int .i64 a2), .sc (.int .i64 a3)], [] => (impl_metaOf.f k a0 a1 a2 a3).bind fun r => κ (impl_metaOf.e r).1 (impl_metaOf.e r).2.1 (impl_metaOf.e r).2.2
  | _, _ => none
theorem impl_metaOf.xok (k : Nat) : XOk 31 (impl_metaOf.x k) := by
  intro ins bs κ res h
  unfold impl_metaOf.x at h
  split at h
  · obtain ⟨r, hr, h⟩ := Option.bind_eq_some_iff.1 h
    exact ⟨_, _, _, impl_metaOf.con k _ _ _ _ r hr, h⟩
  · cases h

/-! ### impl_ReadVar: function 37 -/
noncomputable def impl_ReadVar.sp : Nat → Option (Spec Ty) := fun r => bif Nat.beq r 3 then some ⟨[(0, .keep), (1, .keep), (7, .keep), (8, .keep)], []⟩ else none
noncomputable def impl_ReadVar.en : Option (Spec Ty) := none
noncomputable def impl_ReadVar.s3 (x0 : ByteArray) (x1 : Int) (x7 : Int) (x8 : Int) : St Ty D := ⟨(Env.put (Env.put (Env.put (Env.put E (some 0) (.sc (.string x0))) (some 1) (.sc (.int .i64 x1))) (some 7) (.sc (.int .i64 x7))) (some 8) (.sc (.int .i64 x8))), H0, 1000⟩
noncomputable def impl_ReadVar.ctx (k : Nat) : Ctx Ty D := (fun _ _ _ _ => none)
noncomputable def impl_ReadVar.c3 : Nat → ByteArray → Int → Int → Int → Option (Int × Int × Bool)
  | 0, _, _, _, _ => none
  | k + 1, x0, x1, x7, x8 => (if x8 < 5 then (if x1 ≥ 0 then (if x1 < (w64 ((x0.size : Int) - x8)) then (if 0 ≤ (w64 (x1 + x8)) then (if (w64 (x1 + x8)) < (x0.size : Int) then (if 0 ≤ (w64 (7 * x8)) then (if (w64 ((bt x0 (w64 (x1 + x8))))) ≥ 128 then (impl_ReadVar.c3 k x0 x1 (w64 (x7 + (w64 ((Int.tmod (w64 ((bt x0 (w64 (x1 + x8))))) 128) * 2 ^ (min (w64 (7 * x8)).toNat 64))))) (w64 (x8 + 1))) else (if (w64 ((bt x0 (w64 (x1 + x8))))) = 0 then (if x8 > 0 then (some (0, 0, false)) else (if (w64 (x7 + (w64 ((Int.tmod (w64 ((bt x0 (w64 (x1 + x8))))) 128) * 2 ^ (min (w64 (7 * x8)).toNat 64))))) > 1000000000 then (some (0, 0, false)) else (some ((w64 (x7 + (w64 ((Int.tmod (w64 ((bt x0 (w64 (x1 + x8))))) 128) * 2 ^ (min (w64 (7 * x8)).toNat 64))))), (w64 ((w64 (x1 + x8)) + 1)), true)))) else (if (w64 (x7 + (w64 ((Int.tmod (w64 ((bt x0 (w64 (x1 + x8))))) 128) * 2 ^ (min (w64 (7 * x8)).toNat 64))))) > 1000000000 then (some (0, 0, false)) else (some ((w64 (x7 + (w64 ((Int.tmod (w64 ((bt x0 (w64 (x1 + x8))))) 128) * 2 ^ (min (w64 (7 * x8)).toNat 64))))), (w64 ((w64 (x1 + x8)) + 1)), true))))) else none) else none) else none) else (some (0, 0, false))) else (some (0, 0, false))) else (some (0, 0, false)))
noncomputable def impl_ReadVar.f (k : Nat) (a0 : ByteArray) (a1 : Int) : Option (Int × Int × Bool) := (impl_ReadVar.c3 k a0 a1 0 0)
noncomputable def impl_ReadVar.e (r : Int × Int × Bool) : Res Ty D := (.tu [.sc (.int .i64 r.1), .sc (.int .i64 r.2.1), .sc (.bool r.2.2)], [], [])
noncomputable abbrev impl_ReadVar.g (rec : List Item → St Ty D → R) (k : Nat) := go1 Try.f37 (impl_ReadVar.ctx k) impl_ReadVar.sp 0 impl_ReadVar.en rec
set_option maxRecDepth 100000 in
theorem impl_ReadVar.t3 (rec : List Item → St Ty D → R) (k : Nat) (x0 : ByteArray) (x1 : Int) (x7 : Int) (x8 : Int) : impl_ReadVar.g rec k (td Try.f37 3) (impl_ReadVar.s3 x0 x1 x7 x8) =
  bif decide (x8 < 5) then bif decide (x1 ≥ 0) then bif decide (x1 < (w64 ((x0.size : Int) - x8))) then bif decide (0 ≤ (w64 (x1 + x8))) then bif decide ((w64 (x1 + x8)) < (x0.size : Int)) then bif decide (0 ≤ (w64 (7 * x8))) then bif decide ((w64 ((bt x0 (w64 (x1 + x8))))) ≥ 128) then rec (td Try.f37 3) (impl_ReadVar.s3 x0 x1 (w64 (x7 + (w64 ((Int.tmod (w64 ((bt x0 (w64 (x1 + x8))))) 128) * 2 ^ (min (w64 (7 * x8)).toNat 64))))) (w64 (x8 + 1))) else bif decide ((w64 ((bt x0 (w64 (x1 + x8))))) = 0) then bif decide (x8 > 0) then some (impl_ReadVar.e (0, 0, false)) else bif decide ((w64 (x7 + (w64 ((Int.tmod (w64 ((bt x0 (w64 (x1 + x8))))) 128) * 2 ^ (min (w64 (7 * x8)).toNat 64))))) > 1000000000) then some (impl_ReadVar.e (0, 0, false)) else some (impl_ReadVar.e ((w64 (x7 + (w64 ((Int.tmod (w64 ((bt x0 (w64 (x1 + x8))))) 128) * 2 ^ (min (w64 (7 * x8)).toNat 64))))), (w64 ((w64 (x1 + x8)) + 1)), true)) else bif decide ((w64 (x7 + (w64 ((Int.tmod (w64 ((bt x0 (w64 (x1 + x8))))) 128) * 2 ^ (min (w64 (7 * x8)).toNat 64))))) > 1000000000) then some (impl_ReadVar.e (0, 0, false)) else some (impl_ReadVar.e ((w64 (x7 + (w64 ((Int.tmod (w64 ((bt x0 (w64 (x1 + x8))))) 128) * 2 ^ (min (w64 (7 * x8)).toNat 64))))), (w64 ((w64 (x1 + x8)) + 1)), true)) else none else none else none else some (impl_ReadVar.e (0, 0, false)) else some (impl_ReadVar.e (0, 0, false)) else some (impl_ReadVar.e (0, 0, false)) := by kernel_rfl
set_option maxRecDepth 100000 in
theorem impl_ReadVar.te (rec : List Item → St Ty D → R) (k : Nat) (a0 : ByteArray) (a1 : Int) : impl_ReadVar.g rec k [.code (body Try.f37)] (startSt [.sc (.string a0), .sc (.int .i64 a1)] []) =
  rec (td Try.f37 3) (impl_ReadVar.s3 a0 a1 0 0) := by kernel_rfl
set_option maxRecDepth 100000 in
theorem impl_ReadVar.ok : ∀ k : Nat, (∀ (x0 : ByteArray) (x1 : Int) (x7 : Int) (x8 : Int), goF Try.f37 impl_ReadVar.ctx impl_ReadVar.sp 0 impl_ReadVar.en k (td Try.f37 3) (impl_ReadVar.s3 x0 x1 x7 x8) = (impl_ReadVar.c3 k x0 x1 x7 x8).map impl_ReadVar.e)
  | 0 => fun _ _ _ _ => rfl
  | k + 1 => by
    have ih := impl_ReadVar.ok k
    have i3 := ih
    intro x0 x1 x7 x8; rw [impl_ReadVar.c3]; exact (impl_ReadVar.t3 _ k x0 x1 x7 x8).trans (cd (cd (cd (cd (cd (cd (cd (i3 _ _ _ _) (cd (cd rfl (cd rfl rfl)) (cd rfl rfl))) rfl) rfl) rfl) rfl) rfl) rfl)
set_option maxRecDepth 100000 in
theorem impl_ReadVar.oke (k : Nat) (a0 : ByteArray) (a1 : Int) : goF Try.f37 impl_ReadVar.ctx impl_ReadVar.sp 0 impl_ReadVar.en (k + 1) [.code (body Try.f37)] (startSt [.sc (.string a0), .sc (.int .i64 a1)] []) = (impl_ReadVar.f k a0 a1).map impl_ReadVar.e := by
  have i3 := impl_ReadVar.ok k
  rw [impl_ReadVar.f]; exact (impl_ReadVar.te _ k a0 a1).trans (i3 _ _ _ _)
theorem impl_ReadVar.con (k : Nat) (a0 : ByteArray) (a1 : Int) (r) (h : impl_ReadVar.f k a0 a1 = some r) : Contract Try.prog kit 37 [.sc (.string a0), .sc (.int .i64 a1)] [] (impl_ReadVar.e r).1 (impl_ReadVar.e r).2.1 (impl_ReadVar.e r).2.2 :=
  con_okG kitOk mix (fun k => CtxOk.nil) (impl_ReadVar.oke k a0 a1) h (by kernel_rfl) (by kernel_rfl) (by kernel_rfl) rfl (by kernel_rfl) rfl rfl
noncomputable def impl_ReadVar.x (k : Nat) : X := fun ins bs κ => match ins, bs with
  | [.sc (.string a0), .sc (.int .i64 a1)], [] => (impl_ReadVar.f k a0 a1).bind fun r => κ (impl_ReadVar.e r).1 (impl_ReadVar.e r).2.1 (impl_ReadVar.e r).2.2
  | _, _ => none
theorem impl_ReadVar.xok (k : Nat) : XOk 37 (impl_ReadVar.x k) := by
  intro ins bs κ res h
  unfold impl_ReadVar.x at h
  split at h
  · obtain ⟨r, hr, h⟩ := Option.bind_eq_some_iff.1 h
    exact ⟨_, _, _, impl_ReadVar.con k _ _ r hr, h⟩
  · cases h

/-! ### impl_ReadRecs: function 32 -/
noncomputable def impl_ReadRecs.sp : Nat → Option (Spec Ty) := fun r => bif Nat.beq r 3 then some ⟨[(0, .keep), (4, .own .t48), (5, .keep)], []⟩ else none
noncomputable def impl_ReadRecs.en : Option (Spec Ty) := some ⟨[(2, .own .t48), (3, .keep)], []⟩
noncomputable def impl_ReadRecs.s3 (x0 : ByteArray) (x5 : Int) (h64 : List S48) : St Ty D := ⟨(Env.put (Env.put (Env.put E (some 0) (.sc (.string x0))) (some 4) (.sl 64 none)) (some 5) (.sc (.int .i64 x5))), Heap.put H0 [(64, some (.rowb .t48 h64 0))], 1000⟩
noncomputable def impl_ReadRecs.ctx (k : Nat) : Ctx Ty D := (cons 25 (impl_RecOk.x k) (cons 37 (impl_ReadVar.x k) (fun _ _ _ _ => none)))
noncomputable def impl_ReadRecs.c3 : Nat → ByteArray → Int → (List S48) → Option ((List S48) × Bool)
  | 0, _, _, _ => none
  | k + 1, x0, x5, h64 => (if x5 < (x0.size : Int) then ((impl_ReadVar.f k x0 (w64 (x5 + 1))).bind fun t1 => ((impl_ReadVar.f k x0 t1.2.1).bind fun t2 => (if 0 ≤ x5 then (if x5 < (x0.size : Int) then (if 0 ≤ x5 then (if x5 < (x0.size : Int) then (if t1.2.2 = true then (if t2.2.2 = true then ((impl_RecOk.f k (w64 (Int.tdiv (w64 ((bt x0 x5))) 16)) (Int.tmod (w64 ((bt x0 x5))) 16) t1.1 t2.1).bind fun t3 => (if t3 = true then (if h64.length + ([(S48.mk (w64 (Int.tdiv (w64 ((bt x0 x5))) 16)) (Int.tmod (w64 ((bt x0 x5))) 16) t1.1 t2.1)] : List S48).length ≤ 4398046511104 then (impl_ReadRecs.c3 k x0 t2.2.1 (h64 ++ ([(S48.mk (w64 (Int.tdiv (w64 ((bt x0 x5))) 16)) (Int.tmod (w64 ((bt x0 x5))) 16) t1.1 t2.1)] : List S48))) else none) else (some (([] : List S48), false)))) else (some (([] : List S48), false))) else (some (([] : List S48), false))) else none) else none) else none) else none))) else (some (h64, true)))
noncomputable def impl_ReadRecs.f (k : Nat) (a0 : ByteArray) : Option ((List S48) × Bool) := (impl_ReadRecs.c3 k a0 0 ([] : List S48))
noncomputable def impl_ReadRecs.e (r : (List S48) × Bool) : Res Ty D := (.tu [.sl 0 none, .sc (.bool r.2)], [], [.rowb .t48 r.1 0])
noncomputable abbrev impl_ReadRecs.g (rec : List Item → St Ty D → R) (k : Nat) := go1 Try.f32 (impl_ReadRecs.ctx k) impl_ReadRecs.sp 0 impl_ReadRecs.en rec
set_option maxRecDepth 100000 in
theorem impl_ReadRecs.t3 (rec : List Item → St Ty D → R) (k : Nat) (x0 : ByteArray) (x5 : Int) (h64 : List S48) : impl_ReadRecs.g rec k (td Try.f32 3) (impl_ReadRecs.s3 x0 x5 h64) =
  bif decide (x5 < (x0.size : Int)) then (impl_ReadVar.f k x0 (w64 (x5 + 1))).bind fun t1 => (impl_ReadVar.f k x0 t1.2.1).bind fun t2 => bif decide (0 ≤ x5) then bif decide (x5 < (x0.size : Int)) then bif decide (0 ≤ x5) then bif decide (x5 < (x0.size : Int)) then bif !t1.2.2 then some (impl_ReadRecs.e (([] : List S48), false)) else bif !t2.2.2 then some (impl_ReadRecs.e (([] : List S48), false)) else (impl_RecOk.f k (w64 (Int.tdiv (w64 ((bt x0 x5))) 16)) (Int.tmod (w64 ((bt x0 x5))) 16) t1.1 t2.1).bind fun t3 => bif !t3 then some (impl_ReadRecs.e (([] : List S48), false)) else bif decide (h64.length + ([(S48.mk (w64 (Int.tdiv (w64 ((bt x0 x5))) 16)) (Int.tmod (w64 ((bt x0 x5))) 16) t1.1 t2.1)] : List S48).length ≤ 4398046511104) then rec (td Try.f32 3) (impl_ReadRecs.s3 x0 t2.2.1 (h64 ++ ([(S48.mk (w64 (Int.tdiv (w64 ((bt x0 x5))) 16)) (Int.tmod (w64 ((bt x0 x5))) 16) t1.1 t2.1)] : List S48))) else none else none else none else none else none else some (impl_ReadRecs.e (h64, true)) := by kernel_rfl
set_option maxRecDepth 100000 in
theorem impl_ReadRecs.te (rec : List Item → St Ty D → R) (k : Nat) (a0 : ByteArray) : impl_ReadRecs.g rec k [.code (body Try.f32)] (startSt [.sc (.string a0)] []) =
  rec (td Try.f32 3) (impl_ReadRecs.s3 a0 0 ([] : List S48)) := by kernel_rfl
set_option maxRecDepth 100000 in
theorem impl_ReadRecs.ok : ∀ k : Nat, (∀ (x0 : ByteArray) (x5 : Int) (h64 : List S48), goF Try.f32 impl_ReadRecs.ctx impl_ReadRecs.sp 0 impl_ReadRecs.en k (td Try.f32 3) (impl_ReadRecs.s3 x0 x5 h64) = (impl_ReadRecs.c3 k x0 x5 h64).map impl_ReadRecs.e)
  | 0 => fun _ _ _ => rfl
  | k + 1 => by
    have ih := impl_ReadRecs.ok k
    have i3 := ih
    intro x0 x5 h64; rw [impl_ReadRecs.c3]; exact (impl_ReadRecs.t3 _ k x0 x5 h64).trans (cd (bn (fun t1 => (bn (fun t2 => (cd (cd (cd (cd (nb rfl (nb rfl (bn (fun t3 => (nb rfl (cd (i3 _ _ _) rfl)))))) rfl) rfl) rfl) rfl))))) rfl)
set_option maxRecDepth 100000 in
theorem impl_ReadRecs.oke (k : Nat) (a0 : ByteArray) : goF Try.f32 impl_ReadRecs.ctx impl_ReadRecs.sp 0 impl_ReadRecs.en (k + 1) [.code (body Try.f32)] (startSt [.sc (.string a0)] []) = (impl_ReadRecs.f k a0).map impl_ReadRecs.e := by
  have i3 := impl_ReadRecs.ok k
  rw [impl_ReadRecs.f]; exact (impl_ReadRecs.te _ k a0).trans (i3 _ _ _)
theorem impl_ReadRecs.con (k : Nat) (a0 : ByteArray) (r) (h : impl_ReadRecs.f k a0 = some r) : Contract Try.prog kit 32 [.sc (.string a0)] [] (impl_ReadRecs.e r).1 (impl_ReadRecs.e r).2.1 (impl_ReadRecs.e r).2.2 :=
  con_okG kitOk mix (fun k => (CtxOk.cons (impl_RecOk.xok k) (CtxOk.cons (impl_ReadVar.xok k) CtxOk.nil))) (impl_ReadRecs.oke k a0) h (by kernel_rfl) (by kernel_rfl) (by kernel_rfl) rfl (by kernel_rfl) rfl rfl
noncomputable def impl_ReadRecs.x (k : Nat) : X := fun ins bs κ => match ins, bs with
  | [.sc (.string a0)], [] => (impl_ReadRecs.f k a0).bind fun r => κ (impl_ReadRecs.e r).1 (impl_ReadRecs.e r).2.1 (impl_ReadRecs.e r).2.2
  | _, _ => none
theorem impl_ReadRecs.xok (k : Nat) : XOk 32 (impl_ReadRecs.x k) := by
  intro ins bs κ res h
  unfold impl_ReadRecs.x at h
  split at h
  · obtain ⟨r, hr, h⟩ := Option.bind_eq_some_iff.1 h
    exact ⟨_, _, _, impl_ReadRecs.con k _ r hr, h⟩
  · cases h
end Go.Proofs.Ytkbfmompapcekaa.M2

/- A function of the library that works on one row of one's own in place: its contract out of what a call of it does. -/
namespace Go.Proofs.Ytkbfmompapcekaa.M2
open Go Go.RowKit
set_option linter.unusedVariables false
set_option linter.unusedSimpArgs false
section
variable {Ty : Type} {D : Ty → Type} {P : Program} {K : Kit Ty D}
theorem blk1 {t : Ty} {l : List (D t)} {n : D t → Value} (he : ∀ x, K.emb t x = [.sc (n x)]) {H : Heap Ty D} {v : Nat} (h0 : H 0 = some (.rowb t l v)) (h1 : ∀ k, k ≠ 0 → H k = none) {nm : Nm} {b : Blk Ty D} (h : blkAt K H nm = some b) : nm = ⟨0, none⟩ ∧ b = .rowb t l v := by
  obtain ⟨id, sub⟩ := nm
  unfold blkAt at h
  cases sub with
  | none =>
    simp only at h
    by_cases e : id = 0
    · subst e; rw [h0] at h; exact ⟨rfl, (Option.some.inj h).symm⟩
    · rw [h1 id e] at h; cases h
  | some ij =>
    obtain ⟨i, j⟩ := ij
    simp only at h
    by_cases e : id = 0
    · subst e
      rw [h0] at h
      simp only at h
      cases hx : l[i]? with
      | none => rw [hx] at h; cases h
      | some x =>
        rw [hx] at h
        simp only [he] at h
        cases j <;> simp at h
    · rw [h1 id e] at h; cases h
/-- What the call does to the world: the row's block holds the new row, all else is as it was. -/
def RowCall (P : Program) (f : FuncId) (t : Ty) (n : D t → Value) (l l' : List (D t)) : Prop :=
  (∀ (w : World) (g o cap : Nat) (arr : Array Value) (e : TypeId), w.heap[g]? = some (.cells arr e (0, 0)) → o + cap ≤ arr.size → l.length ≤ cap → (∀ (i : Nat) x, l[i]? = some x → arr[o + i]? = some (n x)) →
    Calls P f #[.slice (some ⟨g, o, none⟩) l.length cap] w fun ev w' => ev = .returned (.tuple #[]) ∧ Kept w w' (· = g) ∧ ∃ arr', w'.heap[g]? = some (.cells arr' e (0, 0)) ∧ arr'.size = arr.size ∧ ∀ (i : Nat) x, l'[i]? = some x → arr'[o + i]? = some (n x)) ∧
  (l = [] → ∀ (w : World) (a : Option Addr), Calls P f #[.slice a 0 0] w fun ev w' => ev = .returned (.tuple #[]) ∧ w' = w)
theorem ext_row {f : FuncId} (hent : Go.Proofs.Enters P f) {t : Ty} {n : D t → Value} (hc : K.cells t = 1) (he : ∀ x, K.emb t x = [.sc (n x)]) (hs : ∀ x, scalar (n x) = true) {l l' : List (D t)} (hlen : l'.length = l.length) (h : RowCall P f t n l l') :
    Contract P K f [.sl 0 none] [.rowb t l 0] (.tu []) [some (.rowb t l' 0)] [] := by
  refine ⟨hent, rfl, fun w S γ args hl hS hsz hv => ?_⟩
  obtain ⟨u, rfl⟩ : ∃ u, args = #[u] := by
    match args, hsz with
    | ⟨[u]⟩, _ => exact ⟨u, rfl⟩
  have hu := (hv 0 u (.sl 0 none) rfl rfl).2
  have hb0 : hpOf [Blk.rowb t l 0] 0 = some (.rowb t l 0) := rfl
  have hb1 : ∀ k, k ≠ 0 → hpOf [Blk.rowb t l 0] k = none := fun k hk => by
    cases k with
    | zero => exact absurd rfl hk
    | succ k => rfl
  have hu2 : u = Go.Proofs.Ytkbfmompapcekaa.M2.hv (γ ⟨0, none⟩) l.length := hu.2 t l 0 hb0
  obtain ⟨hle, hcells⟩ := hl.ok ⟨0, none⟩ (.rowb t l 0) rfl
  have ob0 : hpBack [some (Blk.rowb t l' 0)] [] 0 = some (.rowb t l' 0) := rfl
  have ob1 : ∀ k, k ≠ 0 → hpBack [some (Blk.rowb t l' 0)] ([] : List (Blk Ty D)) k = none := fun k hk => by
    unfold hpBack; rw [if_neg (by simp; omega)]; simp
  -- what is one's own behind the call was one's own
  have own : ∀ g nm, Own K (hpBack [some (Blk.rowb t l' 0)] []) γ g nm → Own K (hpOf [Blk.rowb t l 0]) γ g nm := by
    rintro g nm ⟨⟨b, hb⟩, h1, h2⟩
    obtain ⟨rfl, _⟩ := blk1 he ob0 ob1 hb
    exact ⟨⟨_, rfl⟩, h1, h2⟩
  have fin : ∀ (w' : World), Kept w w' (fun g => ∃ nm, Own K (hpOf [Blk.rowb t l 0]) γ g nm) → NmOk K ⟨w', fun _ => S 1, hpBack [some (Blk.rowb t l' 0)] [], γ, (· < 1 + 0)⟩ ⟨0, none⟩ (.rowb t l' 0) →
      Lay K ⟨w', fun _ => S 1, hpBack [some (Blk.rowb t l' 0)] [], γ, (· < 1 + 0)⟩ := by
    intro w' hk hn
    refine ⟨fun nm b hb => ?_, fun g nm nm' a b => hl.inj g nm nm' (own g nm a) (own g nm' b), fun g hg => hg, fun g hg => ?_, fun id b hb => ?_⟩
    · obtain ⟨rfl, rfl⟩ := blk1 he ob0 ob1 hb; exact hn
    · obtain ⟨q1, q2⟩ := hl.frz g (hl.one g hg)
      exact ⟨Nat.lt_of_lt_of_le q1 hk.size, fun nm hO => q2 nm (own g nm hO)⟩
    · show id < 1 + 0
      by_cases e : id = 0
      · omega
      · have hb : hpBack [some (Blk.rowb t l' 0)] [] id = some b := hb
        rw [ob1 id e] at hb; cases hb
  have hle : l.length ≤ (γ ⟨0, none⟩).2 := hle
  have back : ∀ (k : Nat) (b : Blk Ty D), k < [Blk.rowb t l 0].length → hpBack [some (Blk.rowb t l' 0)] [] k = some b → γ ⟨k, none⟩ = γ ⟨k, none⟩ ∧ ∃ b0, [Blk.rowb t l 0][k]? = some b0 ∧ lenKept b0 b := by
    intro k b hk hb
    obtain rfl : k = 0 := by simp at hk; exact hk
    rw [ob0] at hb
    cases hb
    exact ⟨rfl, _, rfl, l', 0, rfl, hlen.symm⟩
  by_cases hz : 0 < (γ ⟨0, none⟩).2
  · obtain ⟨g, o, arr, e, e1, e2, e3, e4⟩ := hcells hz
    have hlt : g < w.heap.size := (Array.getElem?_eq_some_iff.1 e2).1
    rw [hc, Nat.mul_one] at e3
    have hcall := h.1 w g o (γ ⟨0, none⟩).2 arr e e2 e3 hle (fun i x hx => by
      obtain ⟨v, hv1, hv2⟩ := e4 i x hx 0 (.sc (n x)) (by rw [he]; rfl)
      have : v = n x := hv2.1
      rw [hc] at hv1
      rw [← this, ← hv1]; congr 1; omega)
    have eu : u = .slice (some ⟨g, o, none⟩) l.length (γ ⟨0, none⟩).2 := by rw [hu2]; unfold M2.hv; rw [e1]
    rw [eu]
    refine hcall.mono fun ev w' ⟨h1, h2, arr', h3, h4, h5⟩ => ?_
    have hOwn : Own K (hpOf [Blk.rowb t l 0]) γ g ⟨0, none⟩ := ⟨⟨_, rfl⟩, hz, o, e1⟩
    have hk : Kept w w' (fun g => ∃ nm, Own K (hpOf [Blk.rowb t l 0]) γ g nm) := ⟨h2.os, h2.tape, h2.output, h2.size, fun q hq hn => h2.block q hq (fun e => hn ⟨⟨0, none⟩, by rw [e]; exact hOwn⟩)⟩
    refine ⟨.tuple #[], γ, h1, fin w' hk ⟨by rw [hlen]; exact hle, fun _ => ⟨g, o, arr', e, e1, h3, by rw [hc, Nat.mul_one, h4]; exact e3, fun i x hx j c hj => ?_⟩⟩, by simp, ⟨[], rfl, rfl, by simp⟩, hk, fun q nm hO => .inr ⟨nm, own q nm hO⟩, back⟩
    rw [he] at hj
    cases j with
    | succ j => simp at hj
    | zero =>
      simp at hj; subst hj
      exact ⟨n x, by rw [hc]; rw [← h5 i x hx]; congr 1; omega, rfl, hs x⟩
  · have hz : (γ ⟨0, none⟩).2 = 0 := by omega
    have hl0 : l = [] := List.length_eq_zero_iff.1 (by omega)
    have hl0' : l' = [] := List.length_eq_zero_iff.1 (by rw [hlen, hl0]; rfl)
    have eu : u = .slice (γ ⟨0, none⟩).1 0 0 := by rw [hu2]; unfold M2.hv; rw [hz, hl0]; rfl
    rw [eu]
    refine (h.2 hl0 w _).mono fun ev w' ⟨h1, h2⟩ => ?_
    subst h2
    have hk : Kept w' w' (fun g => ∃ nm, Own K (hpOf [Blk.rowb t l 0]) γ g nm) := Kept.refl _ _
    refine ⟨.tuple #[], γ, h1, fin w' hk ⟨by rw [hl0']; exact Nat.zero_le _, fun hp => by have hp : 0 < (γ ⟨0, none⟩).2 := hp; omega⟩, by simp, ⟨[], rfl, rfl, by simp⟩, hk, fun q nm hO => .inr ⟨nm, own q nm hO⟩, back⟩
end
end Go.Proofs.Ytkbfmompapcekaa.M2

/- sort.Ints: over a row of the caller's own the call sorts it in place; out of the library's contract for the sort. -/
namespace Go.Proofs.Ytkbfmompapcekaa.M2
open Go Go.Shelf Go.RowKit Go.Sort Go.Proofs.Ytkbfmompapcekaa.PK
set_option linter.unusedVariables false
set_option linter.unusedSimpArgs false

noncomputable def lays191_ren : Go.Shelf.Ren := ⟨fun | 191 => 22 | 189 => 30 | 125 => 36 | 257 => 35 | 128 => 47 | 129 => 48 | 294 => 38 | 295 => 39 | 296 => 40 | 297 => 41 | 298 => 42 | 299 => 43 | 216 => 44 | 300 => 45 | 301 => 46 | 328 => 49 | 329 => 50 | 330 => 51 | 331 => 52 | 332 => 53 | 215 => 54 | 343 => 55 | n => n, fun | 28 => 26 | 0 => 0 | 3 => 3 | 46 => 61 | 51 => 84 | 53 => 86 | 4 => 4 | 183 => 76 | 182 => 75 | 131 => 81 | 5 => 5 | 9 => 9 | 218 => 87 | 222 => 91 | 228 => 94 | 229 => 95 | n => n, fun n => n⟩
theorem lays191 : Lays.n191 Try.prog lays191_ren where
  mixed := by kernel_rfl
  f125 := Try.func36.trans (congrArg some (by kernel_rfl))
  f128 := Try.func47.trans (congrArg some (by kernel_rfl))
  f129 := Try.func48.trans (congrArg some (by kernel_rfl))
  f189 := Try.func30.trans (congrArg some (by kernel_rfl))
  f191 := Try.func22.trans (congrArg some (by kernel_rfl))
  f215 := Try.func54.trans (congrArg some (by kernel_rfl))
  f216 := Try.func44.trans (congrArg some (by kernel_rfl))
  f257 := Try.func35.trans (congrArg some (by kernel_rfl))
  f294 := Try.func38.trans (congrArg some (by kernel_rfl))
  f295 := Try.func39.trans (congrArg some (by kernel_rfl))
  f296 := Try.func40.trans (congrArg some (by kernel_rfl))
  f297 := Try.func41.trans (congrArg some (by kernel_rfl))
  f298 := Try.func42.trans (congrArg some (by kernel_rfl))
  f299 := Try.func43.trans (congrArg some (by kernel_rfl))
  f300 := Try.func45.trans (congrArg some (by kernel_rfl))
  f301 := Try.func46.trans (congrArg some (by kernel_rfl))
  f328 := Try.func49.trans (congrArg some (by kernel_rfl))
  f329 := Try.func50.trans (congrArg some (by kernel_rfl))
  f330 := Try.func51.trans (congrArg some (by kernel_rfl))
  f331 := Try.func52.trans (congrArg some (by kernel_rfl))
  f332 := Try.func53.trans (congrArg some (by kernel_rfl))
  f343 := Try.func55.trans (congrArg some (by kernel_rfl))
  t0 := Try.underlying0
  a0 := Try.isAgg0
  z0 := Try.sizeOf0
  v0 := Try.zeroValue0
  t3 := Try.underlying3
  a3 := Try.isAgg3
  z3 := Try.sizeOf3
  v3 := Try.zeroValue3
  t4 := Try.underlying4
  a4 := Try.isAgg4
  z4 := Try.sizeOf4
  v4 := Try.zeroValue4
  t5 := Try.underlying5
  a5 := Try.isAgg5
  z5 := Try.sizeOf5
  v5 := Try.zeroValue5
  t9 := Try.underlying9
  a9 := Try.isAgg9
  z9 := Try.sizeOf9
  v9 := Try.zeroValue9
  t28 := Try.underlying26
  a28 := Try.isAgg26
  z28 := Try.sizeOf26
  v28 := Try.zeroValue26
  t46 := Try.underlying61
  a46 := Try.isAgg61
  z46 := Try.sizeOf61
  v46 := Try.zeroValue61
  t51 := Try.underlying84
  a51 := Try.isAgg84
  z51 := Try.sizeOf84
  v51 := Try.zeroValue84
  t53 := Try.underlying86
  a53 := Try.isAgg86
  z53 := Try.sizeOf86
  v53 := Try.zeroValue86
  t131 := Try.underlying81
  a131 := Try.isAgg81
  z131 := Try.sizeOf81
  v131 := Try.zeroValue81
  t182 := Try.underlying75
  a182 := Try.isAgg75
  z182 := Try.sizeOf75
  v182 := Try.zeroValue75
  t183 := Try.underlying76
  a183 := Try.isAgg76
  z183 := Try.sizeOf76
  v183 := Try.zeroValue76
  t218 := Try.underlying87
  a218 := Try.isAgg87
  z218 := Try.sizeOf87
  v218 := Try.zeroValue87
  t222 := Try.underlying91
  a222 := Try.isAgg91
  z222 := Try.sizeOf91
  v222 := Try.zeroValue91
  t228 := Try.underlying94
  a228 := Try.isAgg94
  z228 := Try.sizeOf94
  v228 := Try.zeroValue94
  t229 := Try.underlying95
  a229 := Try.isAgg95
  z229 := Try.sizeOf95
  v229 := Try.zeroValue95

def sortI (l : List Int) : List Int := l.mergeSort fun x y => decide (x ≤ y)
def sort_Ints.f (_ : Nat) (l0 : List Int) : Option (List Int) := if l0.length < 4611686018427387904 then some (sortI l0) else none
theorem sort_Ints.row (l : List Int) (hlt : l.length < 4611686018427387904) : RowCall (D := D) Try.prog 22 .t3 (fun x : Int => Value.int .i64 x) l (sortI l) := by
  have hlen : (sortI l).length = l.length := List.length_mergeSort l
  refine ⟨fun w g o cap arr e hb hcap hle hc => ?_, fun hl w a => by subst hl; exact Any.sort_Ints_none lays191 a 0 w⟩
  have hle : (l : List Int).length ≤ cap := hle
  have hH : Holds (Value.int .i64) w g o (l : List Int).toArray := by
    intro j hj
    have hj' : j < (l : List Int).length := by simpa using hj
    refine ⟨?_, by simp [World.frozen?, hb]⟩
    have h1 := hc j _ (List.getElem?_eq_getElem hj')
    simp only [World.cell?, hb, Option.isSome_none, Bool.false_eq_true, if_false]
    rw [h1]; simp [List.getElem?_eq_getElem hj']
  have hg : g < w.heap.size := (Array.getElem?_eq_some_iff.1 hb).1
  refine (Any.sort_Ints lays191 g o cap l w hH hg hlt).mono fun ev w' ⟨he, n, os, hw⟩ => ?_
  subst hw
  have hh : (grow (putRow (Value.int .i64) (Sort.ahead w n) g o (sortI l).toArray) os).heap[g]? = some (.cells (putCells (Value.int .i64) o (sortI l).toArray arr) e (0, 0)) := by
    rw [heap_grow_old _ _ (by simpa using hg)]
    simp [putRow, mapBlock, Sort.ahead, Array.getElem?_modify, hb, onCells]
  refine ⟨he, ⟨rfl, rfl, rfl, by simp, fun k hk hne => ?_⟩, _, hh, by simp [putCells], fun i x hx => ?_⟩
  · rw [heap_grow_old _ _ (by simpa using hk)]
    have : g ≠ k := fun e => hne e.symm
    simp [putRow, mapBlock, Sort.ahead, Array.getElem?_modify, this]
  · have hi : i < (sortI l).length := (List.getElem?_eq_some_iff.1 hx).1
    have hx' : (sortI l)[i] = x := (List.getElem?_eq_some_iff.1 hx).2
    have hs : o + i < arr.size := by omega
    simp [putCells, hs, hi, hx', List.getElem?_eq_getElem hi]
    rfl
theorem sort_Ints.con (k : Nat) (l r : List Int) (h : sort_Ints.f k l = some r) : Contract Try.prog kit 22 [.sl 0 none] [.rowb .t3 l 0] (.tu []) [some (.rowb .t3 r 0)] [] := by
  unfold sort_Ints.f at h
  split at h
  · rename_i hlt
    cases h
    exact ext_row (K := kit) (D := D) (t := .t3) (n := fun x : Int => Value.int .i64 x) (enters_of Try.func22 (by kernel_rfl) (by kernel_rfl : Try.f22.body = some (body Try.f22))) rfl (fun x => rfl) (fun x => rfl) (List.length_mergeSort l) (sort_Ints.row l hlt)
  · cases h
noncomputable def sort_Ints.x (k : Nat) : X := fun ins bs κ => match ins, bs with
  | [.sl 0 none], [.rowb .t3 l 0] => (sort_Ints.f k l).bind fun r => κ (.tu []) [some (.rowb .t3 r 0)] []
  | _, _ => none
theorem sort_Ints.xok (k : Nat) : XOk 22 (sort_Ints.x k) := by
  intro ins bs κ res h
  unfold sort_Ints.x at h
  split at h
  · obtain ⟨r, hr, h⟩ := Option.bind_eq_some_iff.1 h
    exact ⟨_, _, _, sort_Ints.con k _ r hr, h⟩
  · cases h
end Go.Proofs.Ytkbfmompapcekaa.M2

/- Plain runs of functions: each is a plain Lean function, and keeps its contract. Written by a program of this session. -/
namespace Go.Proofs.Ytkbfmompapcekaa.M2
open Go Go.Proofs.Ytkbfmompapcekaa.PK
set_option linter.unusedVariables false
set_option linter.unusedSimpArgs false
set_option maxHeartbeats 4000000
/-! ### impl_gathered: function 23 -/
noncomputable def impl_gathered.sp : Nat → Option (Spec Ty) := fun r => bif Nat.beq r 6 then some ⟨[(0, .keep), (1, .keep), (4, .box [.keep, .keep, .own .t48]), (6, .box [.keep, .keep, .keep, .keep, .keep, .keep]), (8, .keep), (9, .keep), (10, .keep)], []⟩ else none
noncomputable def impl_gathered.en : Option (Spec Ty) := some ⟨[(4, .box [.keep, .keep, .own .t48]), (5, .keep)], []⟩
noncomputable def impl_gathered.s6 (x0 : List S36) (x1 : Int) (x8 : ByteArray) (x9 : Int) (x10 : Int) (h65 : List S48) (h64_0 : Int) (h64_1 : Int) (h66_0 : Int) (h66_1 : Int) (h66_2 : Int) (h66_3 : Int) (h66_4 : Int) (h66_5 : ByteArray) : St Ty D := ⟨(Env.put (Env.put (Env.put (Env.put (Env.put (Env.put (Env.put E (some 0) (.row 0 .t36 x0)) (some 1) (.sc (.int .i64 x1))) (some 4) (.pt 64 0 0)) (some 6) (.pt 66 0 0)) (some 8) (.sc (.string x8))) (some 9) (.sc (.int .i64 x9))) (some 10) (.sc (.int .i64 x10))), Heap.put H0 [(65, some (.rowb .t48 h65 0)), (64, some (.box [.sc (.int .i64 h64_0), .sc (.int .i64 h64_1), .sl 65 none])), (66, some (.box [.sc (.int .i64 h66_0), .sc (.int .i64 h66_1), .sc (.int .i64 h66_2), .sc (.int .i64 h66_3), .sc (.int .i64 h66_4), .sc (.string h66_5)]))], 1000⟩
noncomputable def impl_gathered.ctx (k : Nat) : Ctx Ty D := (cons 31 (impl_metaOf.x k) (cons 32 (impl_ReadRecs.x k) (fun _ _ _ _ => none)))
noncomputable def impl_gathered.c6 : Nat → (List S36) → Int → ByteArray → Int → Int → (List S48) → Int → Int → Int → Int → Int → Int → Int → ByteArray → Option (Int × Int × (List S48) × Bool)
  | 0, _, _, _, _, _, _, _, _, _, _, _, _, _, _ => none
  | k + 1, x0, x1, x8, x9, x10, h65, h64_0, h64_1, h66_0, h66_1, h66_2, h66_3, h66_4, h66_5 => (if x10 < h66_4 then ((impl_metaOf.f k x0 x1 x10 h66_4).bind fun t2 => (if t2.2.2.2.2.2.2 = true then (if x8.size + t2.2.2.2.2.2.1.size ≤ 9223372036854775807 then (impl_gathered.c6 k x0 x1 (x8 ++ t2.2.2.2.2.2.1) (minI x9 t2.2.1) (w64 (x10 + 1)) h65 h64_0 h64_1 h66_0 h66_1 h66_2 h66_3 h66_4 h66_5) else none) else (some (0, 0, ([] : List S48), false)))) else ((impl_ReadRecs.f k x8).bind fun t3 => (some (x1, x9, t3.1, t3.2))))
noncomputable def impl_gathered.f (k : Nat) (a0 : List S36) (a1 : Int) : Option (Int × Int × (List S48) × Bool) := ((impl_metaOf.f k a0 a1 0 0).bind fun t1 => (if t1.2.2.2.2.2.2 = true then (impl_gathered.c6 k a0 a1 t1.2.2.2.2.2.1 t1.2.1 1 ([] : List S48) 0 0 t1.1 t1.2.1 t1.2.2.1 t1.2.2.2.1 t1.2.2.2.2.1 t1.2.2.2.2.2.1) else (some (0, 0, ([] : List S48), false))))
noncomputable def impl_gathered.e (r : Int × Int × (List S48) × Bool) : Res Ty D := (.tu [.ag [.sc (.int .i64 r.1), .sc (.int .i64 r.2.1), .sl 0 none], .sc (.bool r.2.2.2)], [], [.rowb .t48 r.2.2.1 0])
noncomputable abbrev impl_gathered.g (rec : List Item → St Ty D → R) (k : Nat) := go1 Try.f23 (impl_gathered.ctx k) impl_gathered.sp 0 impl_gathered.en rec
set_option maxRecDepth 100000 in
theorem impl_gathered.t6 (rec : List Item → St Ty D → R) (k : Nat) (x0 : List S36) (x1 : Int) (x8 : ByteArray) (x9 : Int) (x10 : Int) (h65 : List S48) (h64_0 : Int) (h64_1 : Int) (h66_0 : Int) (h66_1 : Int) (h66_2 : Int) (h66_3 : Int) (h66_4 : Int) (h66_5 : ByteArray) : impl_gathered.g rec k (td Try.f23 6) (impl_gathered.s6 x0 x1 x8 x9 x10 h65 h64_0 h64_1 h66_0 h66_1 h66_2 h66_3 h66_4 h66_5) =
  bif decide (x10 < h66_4) then (impl_metaOf.f k x0 x1 x10 h66_4).bind fun t2 => bif !t2.2.2.2.2.2.2 then some (impl_gathered.e (0, 0, ([] : List S48), false)) else bif decide (x8.size + t2.2.2.2.2.2.1.size ≤ 9223372036854775807) then rec (td Try.f23 6) (impl_gathered.s6 x0 x1 (x8 ++ t2.2.2.2.2.2.1) (minI x9 t2.2.1) (w64 (x10 + 1)) h65 h64_0 h64_1 h66_0 h66_1 h66_2 h66_3 h66_4 h66_5) else none else (impl_ReadRecs.f k x8).bind fun t3 => some (impl_gathered.e (x1, x9, t3.1, t3.2)) := by kernel_rfl
set_option maxRecDepth 100000 in
theorem impl_gathered.te (rec : List Item → St Ty D → R) (k : Nat) (a0 : List S36) (a1 : Int) : impl_gathered.g rec k [.code (body Try.f23)] (startSt [.row 0 .t36 a0, .sc (.int .i64 a1)] []) =
  (impl_metaOf.f k a0 a1 0 0).bind fun t1 => bif !t1.2.2.2.2.2.2 then some (impl_gathered.e (0, 0, ([] : List S48), false)) else rec (td Try.f23 6) (impl_gathered.s6 a0 a1 t1.2.2.2.2.2.1 t1.2.1 1 ([] : List S48) 0 0 t1.1 t1.2.1 t1.2.2.1 t1.2.2.2.1 t1.2.2.2.2.1 t1.2.2.2.2.2.1) := by kernel_rfl
set_option maxRecDepth 100000 in
theorem impl_gathered.ok : ∀ k : Nat, (∀ (x0 : List S36) (x1 : Int) (x8 : ByteArray) (x9 : Int) (x10 : Int) (h65 : List S48) (h64_0 : Int) (h64_1 : Int) (h66_0 : Int) (h66_1 : Int) (h66_2 : Int) (h66_3 : Int) (h66_4 : Int) (h66_5 : ByteArray), goF Try.f23 impl_gathered.ctx impl_gathered.sp 0 impl_gathered.en k (td Try.f23 6) (impl_gathered.s6 x0 x1 x8 x9 x10 h65 h64_0 h64_1 h66_0 h66_1 h66_2 h66_3 h66_4 h66_5) = (impl_gathered.c6 k x0 x1 x8 x9 x10 h65 h64_0 h64_1 h66_0 h66_1 h66_2 h66_3 h66_4 h66_5).map impl_gathered.e)
  | 0 => fun _ _ _ _ _ _ _ _ _ _ _ _ _ _ => rfl
  | k + 1 => by
    have ih := impl_gathered.ok k
    have i6 := ih
    intro x0 x1 x8 x9 x10 h65 h64_0 h64_1 h66_0 h66_1 h66_2 h66_3 h66_4 h66_5; rw [impl_gathered.c6]; exact (impl_gathered.t6 _ k x0 x1 x8 x9 x10 h65 h64_0 h64_1 h66_0 h66_1 h66_2 h66_3 h66_4 h66_5).trans (cd (bn (fun t2 => (nb rfl (cd (i6 _ _ _ _ _ _ _ _ _ _ _ _ _ _) rfl)))) (bn (fun t3 => rfl)))
set_option maxRecDepth 100000 in
theorem impl_gathered.oke (k : Nat) (a0 : List S36) (a1 : Int) : goF Try.f23 impl_gathered.ctx impl_gathered.sp 0 impl_gathered.en (k + 1) [.code (body Try.f23)] (startSt [.row 0 .t36 a0, .sc (.int .i64 a1)] []) = (impl_gathered.f k a0 a1).map impl_gathered.e := by
  have i6 := impl_gathered.ok k
  rw [impl_gathered.f]; exact (impl_gathered.te _ k a0 a1).trans (bn (fun t1 => (nb rfl (i6 _ _ _ _ _ _ _ _ _ _ _ _ _ _))))
theorem impl_gathered.con (k : Nat) (a0 : List S36) (a1 : Int) (r) (h : impl_gathered.f k a0 a1 = some r) : Contract Try.prog kit 23 [.row 0 .t36 a0, .sc (.int .i64 a1)] [] (impl_gathered.e r).1 (impl_gathered.e r).2.1 (impl_gathered.e r).2.2 :=
  con_okG kitOk mix (fun k => (CtxOk.cons (impl_metaOf.xok k) (CtxOk.cons (impl_ReadRecs.xok k) CtxOk.nil))) (impl_gathered.oke k a0 a1) h (by kernel_rfl) (by kernel_rfl) (by kernel_rfl) rfl (by kernel_rfl) rfl rfl
noncomputable def impl_gathered.x (k : Nat) : X := fun ins bs κ => match ins, bs with
  | [.row 0 .t36 a0, .sc (.int .i64 a1)], [] => (impl_gathered.f k a0 a1).bind fun r => κ (impl_gathered.e r).1 (impl_gathered.e r).2.1 (impl_gathered.e r).2.2
  | _, _ => none
theorem impl_gathered.xok (k : Nat) : XOk 23 (impl_gathered.x k) := by
  intro ins bs κ res h
  unfold impl_gathered.x at h
  split at h
  · obtain ⟨r, hr, h⟩ := Option.bind_eq_some_iff.1 h
    exact ⟨_, _, _, impl_gathered.con k _ _ r hr, h⟩
  · cases h

/-! ### impl_Gather: function 10 -/
noncomputable def impl_Gather.sp : Nat → Option (Spec Ty) := fun r => bif Nat.beq r 3 then some ⟨[(0, .keep), (3, .own .t3), (11, .keep), (12, .keep), (13, .keep)], []⟩ else bif Nat.beq r 11 then some ⟨[(0, .keep), (6, .own .t40), (38, .own .t3), (39, .keep), (40, .keep)], []⟩ else none
noncomputable def impl_Gather.en : Option (Spec Ty) := some ⟨[(2, .own .t40)], []⟩
noncomputable def impl_Gather.s3 (x0 : List S36) (x11 : List S36) (x12 : Int) (x13 : Int) (h64 : List Int) : St Ty D := ⟨(Env.put (Env.put (Env.put (Env.put (Env.put E (some 0) (.row 0 .t36 x0)) (some 3) (.sl 64 none)) (some 11) (.row 0 .t36 x11)) (some 12) (.sc (.int .i64 x12))) (some 13) (.sc (.int .i64 x13))), Heap.put H0 [(64, some (.rowb .t3 h64 0))], 1000⟩
noncomputable def impl_Gather.s11 (x0 : List S36) (x39 : Int) (x40 : Int) (h64 : List S40) (h65 : List Int) : St Ty D := ⟨(Env.put (Env.put (Env.put (Env.put (Env.put E (some 0) (.row 0 .t36 x0)) (some 6) (.sl 64 none)) (some 38) (.sl 65 none)) (some 39) (.sc (.int .i64 x39))) (some 40) (.sc (.int .i64 x40))), Heap.put H0 [(64, some (.rowb .t40 h64 0)), (65, some (.rowb .t3 h65 0))], 1000⟩
noncomputable def impl_Gather.ctx (k : Nat) : Ctx Ty D := (cons 21 (impl_hasInt.x k) (cons 22 (sort_Ints.x k) (cons 23 (impl_gathered.x k) (fun _ _ _ _ => none))))
mutual
noncomputable def impl_Gather.c3 : Nat → (List S36) → (List S36) → Int → Int → (List Int) → Option ((List S40))
  | 0, _, _, _, _, _ => none
  | k + 1, x0, x11, x12, x13, h64 => (if x13 < x12 then (if 0 ≤ x13 then (if x13 < (x11.length : Int) then (if ((rd_T36 x11 x13).f2.f0) = 2 then ((impl_hasInt.f k h64 ((rd_T36 x11 x13).f2.f2)).bind fun t1 => (if t1 = true then (impl_Gather.c3 k x0 x11 x12 (w64 (x13 + 1)) h64) else (if h64.length + ([(rd_T36 x11 x13).f2.f2] : List Int).length ≤ 17592186044416 then (impl_Gather.c3 k x0 x11 x12 (w64 (x13 + 1)) (h64 ++ ([(rd_T36 x11 x13).f2.f2] : List Int))) else none))) else (impl_Gather.c3 k x0 x11 x12 (w64 (x13 + 1)) h64)) else none) else none) else ((sort_Ints.f k h64).bind fun t2 => (impl_Gather.c11 k x0 (t2.length : Int) 0 ([] : List S40) t2)))
noncomputable def impl_Gather.c11 : Nat → (List S36) → Int → Int → (List S40) → (List Int) → Option ((List S40))
  | 0, _, _, _, _, _ => none
  | k + 1, x0, x39, x40, h64, h65 => (if x40 < x39 then (if 0 ≤ x40 then (if x40 < (h65.length : Int) then ((impl_gathered.f k x0 (rd_T3 h65 x40)).bind fun t3 => (if t3.2.2.2 = true then (if h64.length + ([(S40.mk t3.1 t3.2.1 t3.2.2.1)] : List S40).length ≤ 3518437208883 then (impl_Gather.c11 k x0 x39 (w64 (x40 + 1)) (h64 ++ ([(S40.mk t3.1 t3.2.1 t3.2.2.1)] : List S40)) h65) else none) else (impl_Gather.c11 k x0 x39 (w64 (x40 + 1)) h64 h65))) else none) else none) else (some (h64)))
end
noncomputable def impl_Gather.f (k : Nat) (a0 : List S36) : Option ((List S40)) := (impl_Gather.c3 k a0 a0 (a0.length : Int) 0 ([] : List Int))
noncomputable def impl_Gather.e (r : (List S40)) : Res Ty D := (.sl 0 none, [], [.rowb .t40 r 0])
noncomputable abbrev impl_Gather.g (rec : List Item → St Ty D → R) (k : Nat) := go1 Try.f10 (impl_Gather.ctx k) impl_Gather.sp 0 impl_Gather.en rec
set_option maxRecDepth 100000 in
theorem impl_Gather.t3 (rec : List Item → St Ty D → R) (k : Nat) (x0 : List S36) (x11 : List S36) (x12 : Int) (x13 : Int) (h64 : List Int) : impl_Gather.g rec k (td Try.f10 3) (impl_Gather.s3 x0 x11 x12 x13 h64) =
  bif decide (x13 < x12) then bif decide (0 ≤ x13) then bif decide (x13 < (x11.length : Int)) then bif decide (((rd_T36 x11 x13).f2.f0) = 2) then (impl_hasInt.f k h64 ((rd_T36 x11 x13).f2.f2)).bind fun t1 => bif !t1 then bif decide (h64.length + ([(rd_T36 x11 x13).f2.f2] : List Int).length ≤ 17592186044416) then rec (td Try.f10 3) (impl_Gather.s3 x0 x11 x12 (w64 (x13 + 1)) (h64 ++ ([(rd_T36 x11 x13).f2.f2] : List Int))) else none else rec (td Try.f10 3) (impl_Gather.s3 x0 x11 x12 (w64 (x13 + 1)) h64) else rec (td Try.f10 3) (impl_Gather.s3 x0 x11 x12 (w64 (x13 + 1)) h64) else none else none else (sort_Ints.f k h64).bind fun t2 => rec (td Try.f10 11) (impl_Gather.s11 x0 (t2.length : Int) 0 ([] : List S40) t2) := by kernel_rfl
set_option maxRecDepth 100000 in
theorem impl_Gather.t11 (rec : List Item → St Ty D → R) (k : Nat) (x0 : List S36) (x39 : Int) (x40 : Int) (h64 : List S40) (h65 : List Int) : impl_Gather.g rec k (td Try.f10 11) (impl_Gather.s11 x0 x39 x40 h64 h65) =
  bif decide (x40 < x39) then bif decide (0 ≤ x40) then bif decide (x40 < (h65.length : Int)) then (impl_gathered.f k x0 (rd_T3 h65 x40)).bind fun t3 => bif t3.2.2.2 then bif decide (h64.length + ([(S40.mk t3.1 t3.2.1 t3.2.2.1)] : List S40).length ≤ 3518437208883) then rec (td Try.f10 11) (impl_Gather.s11 x0 x39 (w64 (x40 + 1)) (h64 ++ ([(S40.mk t3.1 t3.2.1 t3.2.2.1)] : List S40)) h65) else none else rec (td Try.f10 11) (impl_Gather.s11 x0 x39 (w64 (x40 + 1)) h64 h65) else none else none else some (impl_Gather.e (h64)) := by kernel_rfl
set_option maxRecDepth 100000 in
theorem impl_Gather.te (rec : List Item → St Ty D → R) (k : Nat) (a0 : List S36) : impl_Gather.g rec k [.code (body Try.f10)] (startSt [.row 0 .t36 a0] []) =
  rec (td Try.f10 3) (impl_Gather.s3 a0 a0 (a0.length : Int) 0 ([] : List Int)) := by kernel_rfl
set_option maxRecDepth 100000 in
theorem impl_Gather.ok : ∀ k : Nat, (∀ (x0 : List S36) (x11 : List S36) (x12 : Int) (x13 : Int) (h64 : List Int), goF Try.f10 impl_Gather.ctx impl_Gather.sp 0 impl_Gather.en k (td Try.f10 3) (impl_Gather.s3 x0 x11 x12 x13 h64) = (impl_Gather.c3 k x0 x11 x12 x13 h64).map impl_Gather.e) ∧ (∀ (x0 : List S36) (x39 : Int) (x40 : Int) (h64 : List S40) (h65 : List Int), goF Try.f10 impl_Gather.ctx impl_Gather.sp 0 impl_Gather.en k (td Try.f10 11) (impl_Gather.s11 x0 x39 x40 h64 h65) = (impl_Gather.c11 k x0 x39 x40 h64 h65).map impl_Gather.e)
  | 0 => ⟨fun _ _ _ _ _ => rfl, fun _ _ _ _ _ => rfl⟩
  | k + 1 => by
    have ih := impl_Gather.ok k
    obtain ⟨i3, i11⟩ := ih
    refine ⟨?_, ?_⟩
    · intro x0 x11 x12 x13 h64; rw [impl_Gather.c3]; exact (impl_Gather.t3 _ k x0 x11 x12 x13 h64).trans (cd (cd (cd (cd (bn (fun t1 => (nb (cd (i3 _ _ _ _ _) rfl) (i3 _ _ _ _ _)))) (i3 _ _ _ _ _)) rfl) rfl) (bn (fun t2 => (i11 _ _ _ _ _))))
    · intro x0 x39 x40 h64 h65; rw [impl_Gather.c11]; exact (impl_Gather.t11 _ k x0 x39 x40 h64 h65).trans (cd (cd (cd (bn (fun t3 => (cb (cd (i11 _ _ _ _ _) rfl) (i11 _ _ _ _ _)))) rfl) rfl) rfl)
set_option maxRecDepth 100000 in
theorem impl_Gather.oke (k : Nat) (a0 : List S36) : goF Try.f10 impl_Gather.ctx impl_Gather.sp 0 impl_Gather.en (k + 1) [.code (body Try.f10)] (startSt [.row 0 .t36 a0] []) = (impl_Gather.f k a0).map impl_Gather.e := by
  obtain ⟨i3, i11⟩ := impl_Gather.ok k
  rw [impl_Gather.f]; exact (impl_Gather.te _ k a0).trans (i3 _ _ _ _ _)
theorem impl_Gather.con (k : Nat) (a0 : List S36) (r) (h : impl_Gather.f k a0 = some r) : Contract Try.prog kit 10 [.row 0 .t36 a0] [] (impl_Gather.e r).1 (impl_Gather.e r).2.1 (impl_Gather.e r).2.2 :=
  con_okG kitOk mix (fun k => (CtxOk.cons (impl_hasInt.xok k) (CtxOk.cons (sort_Ints.xok k) (CtxOk.cons (impl_gathered.xok k) CtxOk.nil)))) (impl_Gather.oke k a0) h (by kernel_rfl) (by kernel_rfl) (by kernel_rfl) rfl (by kernel_rfl) rfl rfl
noncomputable def impl_Gather.x (k : Nat) : X := fun ins bs κ => match ins, bs with
  | [.row 0 .t36 a0], [] => (impl_Gather.f k a0).bind fun r => κ (impl_Gather.e r).1 (impl_Gather.e r).2.1 (impl_Gather.e r).2.2
  | _, _ => none
theorem impl_Gather.xok (k : Nat) : XOk 10 (impl_Gather.x k) := by
  intro ins bs κ res h
  unfold impl_Gather.x at h
  split at h
  · obtain ⟨r, hr, h⟩ := Option.bind_eq_some_iff.1 h
    exact ⟨_, _, _, impl_Gather.con k _ r hr, h⟩
  · cases h

/-! ### laws_sameRecs: function 11 -/
noncomputable def laws_sameRecs.sp : Nat → Option (Spec Ty) := fun r => bif Nat.beq r 4 then some ⟨[(0, .keep), (1, .keep), (5, .keep)], []⟩ else none
noncomputable def laws_sameRecs.en : Option (Spec Ty) := none
noncomputable def laws_sameRecs.s4 (x0 : List S48) (x1 : List S48) (x5 : Int) : St Ty D := ⟨(Env.put (Env.put (Env.put E (some 0) (.row 0 .t48 x0)) (some 1) (.row 0 .t48 x1)) (some 5) (.sc (.int .i64 x5))), H0, 1000⟩
noncomputable def laws_sameRecs.ctx (k : Nat) : Ctx Ty D := (fun _ _ _ _ => none)
noncomputable def laws_sameRecs.c4 : Nat → (List S48) → (List S48) → Int → Option (Bool)
  | 0, _, _, _ => none
  | k + 1, x0, x1, x5 => (if x5 < (x0.length : Int) then (if 0 ≤ x5 then (if x5 < (x0.length : Int) then (if 0 ≤ x5 then (if x5 < (x1.length : Int) then (if ((decide (((rd_T48 x0 x5).f0) = ((rd_T48 x1 x5).f0))) && ((decide (((rd_T48 x0 x5).f1) = ((rd_T48 x1 x5).f1))) && ((decide (((rd_T48 x0 x5).f2) = ((rd_T48 x1 x5).f2))) && (decide (((rd_T48 x0 x5).f3) = ((rd_T48 x1 x5).f3)))))) = true then (laws_sameRecs.c4 k x0 x1 (w64 (x5 + 1))) else (some (false))) else none) else none) else none) else none) else (some (true)))
noncomputable def laws_sameRecs.f (k : Nat) (a0 : List S48) (a1 : List S48) : Option (Bool) := (if (a0.length : Int) = (a1.length : Int) then (laws_sameRecs.c4 k a0 a1 0) else (some (false)))
noncomputable def laws_sameRecs.e (r : Bool) : Res Ty D := (.sc (.bool r), [], [])
noncomputable abbrev laws_sameRecs.g (rec : List Item → St Ty D → R) (k : Nat) := go1 Try.f11 (laws_sameRecs.ctx k) laws_sameRecs.sp 0 laws_sameRecs.en rec
set_option maxRecDepth 100000 in
theorem laws_sameRecs.t4 (rec : List Item → St Ty D → R) (k : Nat) (x0 : List S48) (x1 : List S48) (x5 : Int) : laws_sameRecs.g rec k (td Try.f11 4) (laws_sameRecs.s4 x0 x1 x5) =
  bif decide (x5 < (x0.length : Int)) then bif decide (0 ≤ x5) then bif decide (x5 < (x0.length : Int)) then bif decide (0 ≤ x5) then bif decide (x5 < (x1.length : Int)) then bif !((decide (((rd_T48 x0 x5).f0) = ((rd_T48 x1 x5).f0))) && ((decide (((rd_T48 x0 x5).f1) = ((rd_T48 x1 x5).f1))) && ((decide (((rd_T48 x0 x5).f2) = ((rd_T48 x1 x5).f2))) && (decide (((rd_T48 x0 x5).f3) = ((rd_T48 x1 x5).f3)))))) then some (laws_sameRecs.e (false)) else rec (td Try.f11 4) (laws_sameRecs.s4 x0 x1 (w64 (x5 + 1))) else none else none else none else none else some (laws_sameRecs.e (true)) := by kernel_rfl
set_option maxRecDepth 100000 in
theorem laws_sameRecs.te (rec : List Item → St Ty D → R) (k : Nat) (a0 : List S48) (a1 : List S48) : laws_sameRecs.g rec k [.code (body Try.f11)] (startSt [.row 0 .t48 a0, .row 0 .t48 a1] []) =
  bif !decide ((a0.length : Int) = (a1.length : Int)) then some (laws_sameRecs.e (false)) else rec (td Try.f11 4) (laws_sameRecs.s4 a0 a1 0) := by kernel_rfl
set_option maxRecDepth 100000 in
theorem laws_sameRecs.ok : ∀ k : Nat, (∀ (x0 : List S48) (x1 : List S48) (x5 : Int), goF Try.f11 laws_sameRecs.ctx laws_sameRecs.sp 0 laws_sameRecs.en k (td Try.f11 4) (laws_sameRecs.s4 x0 x1 x5) = (laws_sameRecs.c4 k x0 x1 x5).map laws_sameRecs.e)
  | 0 => fun _ _ _ => rfl
  | k + 1 => by
    have ih := laws_sameRecs.ok k
    have i4 := ih
    intro x0 x1 x5; rw [laws_sameRecs.c4]; exact (laws_sameRecs.t4 _ k x0 x1 x5).trans (cd (cd (cd (cd (cd (nb rfl (i4 _ _ _)) rfl) rfl) rfl) rfl) rfl)
set_option maxRecDepth 100000 in
theorem laws_sameRecs.oke (k : Nat) (a0 : List S48) (a1 : List S48) : goF Try.f11 laws_sameRecs.ctx laws_sameRecs.sp 0 laws_sameRecs.en (k + 1) [.code (body Try.f11)] (startSt [.row 0 .t48 a0, .row 0 .t48 a1] []) = (laws_sameRecs.f k a0 a1).map laws_sameRecs.e := by
  have i4 := laws_sameRecs.ok k
  rw [laws_sameRecs.f]; exact (laws_sameRecs.te _ k a0 a1).trans (nd rfl (i4 _ _ _))
theorem laws_sameRecs.con (k : Nat) (a0 : List S48) (a1 : List S48) (r) (h : laws_sameRecs.f k a0 a1 = some r) : Contract Try.prog kit 11 [.row 0 .t48 a0, .row 0 .t48 a1] [] (laws_sameRecs.e r).1 (laws_sameRecs.e r).2.1 (laws_sameRecs.e r).2.2 :=
  con_okG kitOk mix (fun k => CtxOk.nil) (laws_sameRecs.oke k a0 a1) h (by kernel_rfl) (by kernel_rfl) (by kernel_rfl) rfl (by kernel_rfl) rfl rfl
noncomputable def laws_sameRecs.x (k : Nat) : X := fun ins bs κ => match ins, bs with
  | [.row 0 .t48 a0, .row 0 .t48 a1], [] => (laws_sameRecs.f k a0 a1).bind fun r => κ (laws_sameRecs.e r).1 (laws_sameRecs.e r).2.1 (laws_sameRecs.e r).2.2
  | _, _ => none
theorem laws_sameRecs.xok (k : Nat) : XOk 11 (laws_sameRecs.x k) := by
  intro ins bs κ res h
  unfold laws_sameRecs.x at h
  split at h
  · obtain ⟨r, hr, h⟩ := Option.bind_eq_some_iff.1 h
    exact ⟨_, _, _, laws_sameRecs.con k _ _ r hr, h⟩
  · cases h

/-! ### laws_FnTransactions: function 3 -/
noncomputable def laws_FnTransactions.sp : Nat → Option (Spec Ty) := fun r => bif Nat.beq r 13 then some ⟨[(3, .own .t48), (4, .own .t3), (5, .own .t33), (9, .own .t36), (10, .keep)], []⟩ else none
noncomputable def laws_FnTransactions.en : Option (Spec Ty) := none
noncomputable def laws_FnTransactions.s13 (x10 : Int) (h64 : List S48) (h65 : List Int) (h66 : List S33) (h67 : List S36) : St Ty D := ⟨(Env.put (Env.put (Env.put (Env.put (Env.put E (some 3) (.sl 64 none)) (some 4) (.sl 65 none)) (some 5) (.sl 66 none)) (some 9) (.sl 67 none)) (some 10) (.sc (.int .i64 x10))), Heap.put H0 [(64, some (.rowb .t48 h64 0)), (65, some (.rowb .t3 h65 0)), (66, some (.rowb .t33 h66 0)), (67, some (.rowb .t36 h67 0))], 1000⟩
noncomputable def laws_FnTransactions.ctx (k : Nat) : Ctx Ty D := (cons 4 (laws_big.x k) (cons 5 (spec_DrawManyRecords.x k) (cons 6 (spec_DrawPlaces.x k) (cons 7 (impl_TxPages.x k) (cons 8 (spec_TxPages.x k) (cons 9 (spec_PageOk.x k) (cons 10 (impl_Gather.x k) (cons 11 (laws_sameRecs.x k) (fun _ _ _ _ => none)))))))))
noncomputable def laws_FnTransactions.c13 : Nat → Int → (List S48) → (List Int) → (List S33) → (List S36) → Option (Bool)
  | 0, _, _, _, _, _ => none
  | k + 1, x10, h64, h65, h66, h67 => (if x10 < (h66.length : Int) then (if 0 < (h65.length : Int) then (if (h66.length : Int) = 0 then none else (if 0 ≤ (Int.tmod (w64 (x10 + (rd_T3 h65 0))) (h66.length : Int)) then (if (Int.tmod (w64 (x10 + (rd_T3 h65 0))) (h66.length : Int)) < (h66.length : Int) then ((spec_PageOk.f k ((rd_T33 h66 (Int.tmod (w64 (x10 + (rd_T3 h65 0))) (h66.length : Int))).f0) ((rd_T33 h66 (Int.tmod (w64 (x10 + (rd_T3 h65 0))) (h66.length : Int))).f1) ((rd_T33 h66 (Int.tmod (w64 (x10 + (rd_T3 h65 0))) (h66.length : Int))).f2) ((rd_T33 h66 (Int.tmod (w64 (x10 + (rd_T3 h65 0))) (h66.length : Int))).f3) ((rd_T33 h66 (Int.tmod (w64 (x10 + (rd_T3 h65 0))) (h66.length : Int))).f4) ((rd_T33 h66 (Int.tmod (w64 (x10 + (rd_T3 h65 0))) (h66.length : Int))).f5)).bind fun t6 => (if t6 = true then (if ((rd_T33 h66 (Int.tmod (w64 (x10 + (rd_T3 h65 0))) (h66.length : Int))).f2) = 3 then (if h67.length + ([(S36.mk 0 0 (S33.mk ((rd_T33 h66 (Int.tmod (w64 (x10 + (rd_T3 h65 0))) (h66.length : Int))).f0) ((rd_T33 h66 (Int.tmod (w64 (x10 + (rd_T3 h65 0))) (h66.length : Int))).f1) ((rd_T33 h66 (Int.tmod (w64 (x10 + (rd_T3 h65 0))) (h66.length : Int))).f2) ((rd_T33 h66 (Int.tmod (w64 (x10 + (rd_T3 h65 0))) (h66.length : Int))).f3) ((rd_T33 h66 (Int.tmod (w64 (x10 + (rd_T3 h65 0))) (h66.length : Int))).f4) ((rd_T33 h66 (Int.tmod (w64 (x10 + (rd_T3 h65 0))) (h66.length : Int))).f5)))] : List S36).length ≤ 1954687338268 then (laws_FnTransactions.c13 k (w64 (x10 + 1)) h64 h65 h66 (h67 ++ ([(S36.mk 0 0 (S33.mk ((rd_T33 h66 (Int.tmod (w64 (x10 + (rd_T3 h65 0))) (h66.length : Int))).f0) ((rd_T33 h66 (Int.tmod (w64 (x10 + (rd_T3 h65 0))) (h66.length : Int))).f1) ((rd_T33 h66 (Int.tmod (w64 (x10 + (rd_T3 h65 0))) (h66.length : Int))).f2) ((rd_T33 h66 (Int.tmod (w64 (x10 + (rd_T3 h65 0))) (h66.length : Int))).f3) ((rd_T33 h66 (Int.tmod (w64 (x10 + (rd_T3 h65 0))) (h66.length : Int))).f4) ((rd_T33 h66 (Int.tmod (w64 (x10 + (rd_T3 h65 0))) (h66.length : Int))).f5)))] : List S36))) else none) else (some (false))) else (some (false)))) else none) else none)) else none) else ((impl_Gather.f k h67).bind fun t7 => (if 1 < (h65.length : Int) then (if (h67.length : Int) = 0 then none else (if 0 ≤ (Int.tmod (rd_T3 h65 1) (h67.length : Int)) then (if (Int.tmod (rd_T3 h65 1) (h67.length : Int)) ≤ (h67.length : Int) then (if ([] : List S36).length + ((h67.drop 0).take ((Int.tmod (rd_T3 h65 1) (h67.length : Int)).toNat - 0)).length ≤ 1954687338268 then (if 1 < (h65.length : Int) then (if (h67.length : Int) = 0 then none else (if 0 ≤ (w64 ((Int.tmod (rd_T3 h65 1) (h67.length : Int)) + 1)) then (if (w64 ((Int.tmod (rd_T3 h65 1) (h67.length : Int)) + 1)) ≤ (h67.length : Int) then (if (([] : List S36) ++ ((h67.drop 0).take ((Int.tmod (rd_T3 h65 1) (h67.length : Int)).toNat - 0))).length + ((h67.drop ((w64 ((Int.tmod (rd_T3 h65 1) (h67.length : Int)) + 1)).toNat)).take (h67.length - (w64 ((Int.tmod (rd_T3 h65 1) (h67.length : Int)) + 1)).toNat)).length ≤ 1954687338268 then ((impl_Gather.f k ((([] : List S36) ++ ((h67.drop 0).take ((Int.tmod (rd_T3 h65 1) (h67.length : Int)).toNat - 0))) ++ ((h67.drop ((w64 ((Int.tmod (rd_T3 h65 1) (h67.length : Int)) + 1)).toNat)).take (h67.length - (w64 ((Int.tmod (rd_T3 h65 1) (h67.length : Int)) + 1)).toNat)))).bind fun t8 => (if (t7.length : Int) = 1 then (if 0 < (t7.length : Int) then (if ((rd_T40 t7 0).f0) = 3 then (if 0 < (t7.length : Int) then (if ((rd_T40 t7 0).f1) = 7 then (if 0 < (t7.length : Int) then ((laws_sameRecs.f k ((rd_T40 t7 0).f2) h64).bind fun t9 => (if t9 = true then (some ((decide ((t8.length : Int) = 0)))) else (some (false)))) else none) else (some (false))) else none) else (some (false))) else none) else (some (false)))) else none) else none) else none)) else none) else none) else none) else none)) else none)))
noncomputable def laws_FnTransactions.f (k : Nat) (a0 : List Int) : Option (Bool) := ((laws_big.f k a0).bind fun t1 => (if t1 = true then (some (true)) else ((spec_DrawManyRecords.f k a0).bind fun t2 => ((spec_DrawPlaces.f k a0).bind fun t3 => ((impl_TxPages.f k 7 3 t2).bind fun t4 => ((spec_TxPages.f k 7 3 t2).bind fun t5 => (if (t4.2 == t5.2) = true then (if (t4.1.length : Int) = (t5.1.length : Int) then (if t4.2 = true then (laws_FnTransactions.c13 k 0 t2 t3 t4.1 ([] : List S36)) else (some ((decide ((t4.1.length : Int) = 0))))) else (some (false))) else (some (false)))))))))
noncomputable def laws_FnTransactions.e (r : Bool) : Res Ty D := (.sc (.bool r), [], [])
noncomputable abbrev laws_FnTransactions.g (rec : List Item → St Ty D → R) (k : Nat) := go1 Try.f3 (laws_FnTransactions.ctx k) laws_FnTransactions.sp 0 laws_FnTransactions.en rec
set_option maxRecDepth 100000 in
theorem laws_FnTransactions.t13 (rec : List Item → St Ty D → R) (k : Nat) (x10 : Int) (h64 : List S48) (h65 : List Int) (h66 : List S33) (h67 : List S36) : laws_FnTransactions.g rec k (td Try.f3 13) (laws_FnTransactions.s13 x10 h64 h65 h66 h67) =
  bif decide (x10 < (h66.length : Int)) then bif decide (0 < (h65.length : Int)) then bif !decide ((h66.length : Int) = 0) then bif decide (0 ≤ (Int.tmod (w64 (x10 + (rd_T3 h65 0))) (h66.length : Int))) then bif decide ((Int.tmod (w64 (x10 + (rd_T3 h65 0))) (h66.length : Int)) < (h66.length : Int)) then (spec_PageOk.f k ((rd_T33 h66 (Int.tmod (w64 (x10 + (rd_T3 h65 0))) (h66.length : Int))).f0) ((rd_T33 h66 (Int.tmod (w64 (x10 + (rd_T3 h65 0))) (h66.length : Int))).f1) ((rd_T33 h66 (Int.tmod (w64 (x10 + (rd_T3 h65 0))) (h66.length : Int))).f2) ((rd_T33 h66 (Int.tmod (w64 (x10 + (rd_T3 h65 0))) (h66.length : Int))).f3) ((rd_T33 h66 (Int.tmod (w64 (x10 + (rd_T3 h65 0))) (h66.length : Int))).f4) ((rd_T33 h66 (Int.tmod (w64 (x10 + (rd_T3 h65 0))) (h66.length : Int))).f5)).bind fun t6 => bif !t6 then some (laws_FnTransactions.e (false)) else bif !decide (((rd_T33 h66 (Int.tmod (w64 (x10 + (rd_T3 h65 0))) (h66.length : Int))).f2) = 3) then some (laws_FnTransactions.e (false)) else bif decide (h67.length + ([(S36.mk 0 0 (S33.mk ((rd_T33 h66 (Int.tmod (w64 (x10 + (rd_T3 h65 0))) (h66.length : Int))).f0) ((rd_T33 h66 (Int.tmod (w64 (x10 + (rd_T3 h65 0))) (h66.length : Int))).f1) ((rd_T33 h66 (Int.tmod (w64 (x10 + (rd_T3 h65 0))) (h66.length : Int))).f2) ((rd_T33 h66 (Int.tmod (w64 (x10 + (rd_T3 h65 0))) (h66.length : Int))).f3) ((rd_T33 h66 (Int.tmod (w64 (x10 + (rd_T3 h65 0))) (h66.length : Int))).f4) ((rd_T33 h66 (Int.tmod (w64 (x10 + (rd_T3 h65 0))) (h66.length : Int))).f5)))] : List S36).length ≤ 1954687338268) then rec (td Try.f3 13) (laws_FnTransactions.s13 (w64 (x10 + 1)) h64 h65 h66 (h67 ++ ([(S36.mk 0 0 (S33.mk ((rd_T33 h66 (Int.tmod (w64 (x10 + (rd_T3 h65 0))) (h66.length : Int))).f0) ((rd_T33 h66 (Int.tmod (w64 (x10 + (rd_T3 h65 0))) (h66.length : Int))).f1) ((rd_T33 h66 (Int.tmod (w64 (x10 + (rd_T3 h65 0))) (h66.length : Int))).f2) ((rd_T33 h66 (Int.tmod (w64 (x10 + (rd_T3 h65 0))) (h66.length : Int))).f3) ((rd_T33 h66 (Int.tmod (w64 (x10 + (rd_T3 h65 0))) (h66.length : Int))).f4) ((rd_T33 h66 (Int.tmod (w64 (x10 + (rd_T3 h65 0))) (h66.length : Int))).f5)))] : List S36))) else none else none else none else none else none else (impl_Gather.f k h67).bind fun t7 => bif decide (1 < (h65.length : Int)) then bif !decide ((h67.length : Int) = 0) then bif decide (0 ≤ (Int.tmod (rd_T3 h65 1) (h67.length : Int))) then bif decide ((Int.tmod (rd_T3 h65 1) (h67.length : Int)) ≤ (h67.length : Int)) then bif decide (([] : List S36).length + ((h67.drop 0).take ((Int.tmod (rd_T3 h65 1) (h67.length : Int)).toNat - 0)).length ≤ 1954687338268) then bif decide (1 < (h65.length : Int)) then bif !decide ((h67.length : Int) = 0) then bif decide (0 ≤ (w64 ((Int.tmod (rd_T3 h65 1) (h67.length : Int)) + 1))) then bif decide ((w64 ((Int.tmod (rd_T3 h65 1) (h67.length : Int)) + 1)) ≤ (h67.length : Int)) then bif decide ((([] : List S36) ++ ((h67.drop 0).take ((Int.tmod (rd_T3 h65 1) (h67.length : Int)).toNat - 0))).length + ((h67.drop ((w64 ((Int.tmod (rd_T3 h65 1) (h67.length : Int)) + 1)).toNat)).take (h67.length - (w64 ((Int.tmod (rd_T3 h65 1) (h67.length : Int)) + 1)).toNat)).length ≤ 1954687338268) then (impl_Gather.f k ((([] : List S36) ++ ((h67.drop 0).take ((Int.tmod (rd_T3 h65 1) (h67.length : Int)).toNat - 0))) ++ ((h67.drop ((w64 ((Int.tmod (rd_T3 h65 1) (h67.length : Int)) + 1)).toNat)).take (h67.length - (w64 ((Int.tmod (rd_T3 h65 1) (h67.length : Int)) + 1)).toNat)))).bind fun t8 => bif decide ((t7.length : Int) = 1) then bif decide (0 < (t7.length : Int)) then bif decide (((rd_T40 t7 0).f0) = 3) then bif decide (0 < (t7.length : Int)) then bif decide (((rd_T40 t7 0).f1) = 7) then bif decide (0 < (t7.length : Int)) then (laws_sameRecs.f k ((rd_T40 t7 0).f2) h64).bind fun t9 => bif t9 then some (laws_FnTransactions.e ((decide ((t8.length : Int) = 0)))) else some (laws_FnTransactions.e (false)) else none else some (laws_FnTransactions.e (false)) else none else some (laws_FnTransactions.e (false)) else none else some (laws_FnTransactions.e (false)) else none else none else none else none else none else none else none else none else none else none := by kernel_rfl
set_option maxRecDepth 100000 in
theorem laws_FnTransactions.te (rec : List Item → St Ty D → R) (k : Nat) (a0 : List Int) : laws_FnTransactions.g rec k [.code (body Try.f3)] (startSt [.row 0 .t5 a0] []) =
  (laws_big.f k a0).bind fun t1 => bif t1 then some (laws_FnTransactions.e (true)) else (spec_DrawManyRecords.f k a0).bind fun t2 => (spec_DrawPlaces.f k a0).bind fun t3 => (impl_TxPages.f k 7 3 t2).bind fun t4 => (spec_TxPages.f k 7 3 t2).bind fun t5 => bif !(t4.2 == t5.2) then some (laws_FnTransactions.e (false)) else bif !decide ((t4.1.length : Int) = (t5.1.length : Int)) then some (laws_FnTransactions.e (false)) else bif !t4.2 then some (laws_FnTransactions.e ((decide ((t4.1.length : Int) = 0)))) else rec (td Try.f3 13) (laws_FnTransactions.s13 0 t2 t3 t4.1 ([] : List S36)) := by kernel_rfl
set_option maxRecDepth 100000 in
theorem laws_FnTransactions.ok : ∀ k : Nat, (∀ (x10 : Int) (h64 : List S48) (h65 : List Int) (h66 : List S33) (h67 : List S36), goF Try.f3 laws_FnTransactions.ctx laws_FnTransactions.sp 0 laws_FnTransactions.en k (td Try.f3 13) (laws_FnTransactions.s13 x10 h64 h65 h66 h67) = (laws_FnTransactions.c13 k x10 h64 h65 h66 h67).map laws_FnTransactions.e)
  | 0 => fun _ _ _ _ _ => rfl
  | k + 1 => by
    have ih := laws_FnTransactions.ok k
    have i13 := ih
    intro x10 h64 h65 h66 h67; rw [laws_FnTransactions.c13]; exact (laws_FnTransactions.t13 _ k x10 h64 h65 h66 h67).trans (cd (cd (nd (cd (cd (bn (fun t6 => (nb rfl (nd rfl (cd (i13 _ _ _ _ _) rfl))))) rfl) rfl) rfl) rfl) (bn (fun t7 => (cd (nd (cd (cd (cd (cd (nd (cd (cd (cd (bn (fun t8 => (cd (cd (cd (cd (cd (cd (bn (fun t9 => (cb rfl rfl))) rfl) rfl) rfl) rfl) rfl) rfl))) rfl) rfl) rfl) rfl) rfl) rfl) rfl) rfl) rfl) rfl))))
set_option maxRecDepth 100000 in
theorem laws_FnTransactions.oke (k : Nat) (a0 : List Int) : goF Try.f3 laws_FnTransactions.ctx laws_FnTransactions.sp 0 laws_FnTransactions.en (k + 1) [.code (body Try.f3)] (startSt [.row 0 .t5 a0] []) = (laws_FnTransactions.f k a0).map laws_FnTransactions.e := by
  have i13 := laws_FnTransactions.ok k
  rw [laws_FnTransactions.f]; exact (laws_FnTransactions.te _ k a0).trans (bn (fun t1 => (cb rfl (bn (fun t2 => (bn (fun t3 => (bn (fun t4 => (bn (fun t5 => (nb rfl (nd rfl (nb rfl (i13 _ _ _ _ _)))))))))))))))
theorem laws_FnTransactions.con (k : Nat) (a0 : List Int) (r) (h : laws_FnTransactions.f k a0 = some r) : Contract Try.prog kit 3 [.row 0 .t5 a0] [] (laws_FnTransactions.e r).1 (laws_FnTransactions.e r).2.1 (laws_FnTransactions.e r).2.2 :=
  con_okG kitOk mix (fun k => (CtxOk.cons (laws_big.xok k) (CtxOk.cons (spec_DrawManyRecords.xok k) (CtxOk.cons (spec_DrawPlaces.xok k) (CtxOk.cons (impl_TxPages.xok k) (CtxOk.cons (spec_TxPages.xok k) (CtxOk.cons (spec_PageOk.xok k) (CtxOk.cons (impl_Gather.xok k) (CtxOk.cons (laws_sameRecs.xok k) CtxOk.nil))))))))) (laws_FnTransactions.oke k a0) h (by kernel_rfl) (by kernel_rfl) (by kernel_rfl) rfl (by kernel_rfl) rfl rfl
noncomputable def laws_FnTransactions.x (k : Nat) : X := fun ins bs κ => match ins, bs with
  | [.row 0 .t5 a0], [] => (laws_FnTransactions.f k a0).bind fun r => κ (laws_FnTransactions.e r).1 (laws_FnTransactions.e r).2.1 (laws_FnTransactions.e r).2.2
  | _, _ => none
theorem laws_FnTransactions.xok (k : Nat) : XOk 3 (laws_FnTransactions.x k) := by
  intro ins bs κ res h
  unfold laws_FnTransactions.x at h
  split at h
  · obtain ⟨r, hr, h⟩ := Option.bind_eq_some_iff.1 h
    exact ⟨_, _, _, laws_FnTransactions.con k _ r hr, h⟩
  · cases h
end Go.Proofs.Ytkbfmompapcekaa.M2

/- The print's plain functions. -/
namespace Go.Proofs.Ytkbfmompapcekaa.PK
open Go Go.RowKit Go.Proofs.YtkbfmompapcekaaW.PrintWords Go.Proofs.YtkbfmompapcekaaW.PrintLast Go.Proofs.YtkbfmompapcekaaW.PrintMore
set_option linter.unusedVariables false

def sort_Ints.f (_ : Nat) (l0 : List Int) : Option (List Int) := if l0.length < 4611686018427387904 then some (l0.mergeSort fun x y => decide (x ≤ y)) else none
def laws_big.f (l0 : List Int) : Option (Bool) := some (decide ((l0.length : Int) > 1048576))
def spec_l01Byte.f (s0_0 : List Int) (s0_1 : Int) (s0_2 : Int) : Option (Int × Int × Int) := if s0_1 < (s0_0.length : Int) then (if 0 ≤ s0_1 then (some (Go.bits .and .i64 (wrap64 ((Go.bits .and .i64 (Go.bits .xor .i64 ((wrap64 ((wrap64 (s0_2 * 6364136223846793005)) + 1442695040888963407)) / 8589934592) ((wrap64 ((wrap64 (s0_2 * 6364136223846793005)) + 1442695040888963407)) / 35184372088832)) 255) + (wrap64 (rd s0_0 s0_1)))) 255, wrap64 (s0_1 + 1), wrap64 ((wrap64 (s0_2 * 6364136223846793005)) + 1442695040888963407))) else (none)) else (some (Go.bits .and .i64 (Go.bits .xor .i64 ((wrap64 ((wrap64 (s0_2 * 6364136223846793005)) + 1442695040888963407)) / 8589934592) ((wrap64 ((wrap64 (s0_2 * 6364136223846793005)) + 1442695040888963407)) / 35184372088832)) 255, s0_1, wrap64 ((wrap64 (s0_2 * 6364136223846793005)) + 1442695040888963407)))
def spec_l01Below.f (s0_0 : List Int) (s0_1 : Int) (s0_2 : Int) (a1 : Int) : Option (Int × Int × Int) := if a1 ≤ 0 then (some (0, s0_1, s0_2)) else (if a1 ≤ 256 then ((spec_l01Byte.f s0_0 s0_1 s0_2).bind fun bt105 => (if a1 = 0 then (none) else (some (Int.tmod bt105.1 a1, bt105.2.1, bt105.2.2)))) else ((spec_l01Byte.f s0_0 s0_1 s0_2).bind fun bt108 => ((spec_l01Byte.f s0_0 bt108.2.1 bt108.2.2).bind fun bt111 => ((spec_l01Byte.f s0_0 bt111.2.1 bt111.2.2).bind fun bt114 => ((spec_l01Byte.f s0_0 bt114.2.1 bt114.2.2).bind fun bt117 => (if a1 = 0 then (none) else (some (Int.tmod (wrap64 ((wrap64 ((wrap64 ((wrap64 (bt108.1 * 16777216)) + (wrap64 (bt111.1 * 65536)))) + (wrap64 (bt114.1 * 256)))) + bt117.1)) a1, bt117.2.1, bt117.2.2))))))))
def spec_l01PickInt.f (s0_0 : List Int) (s0_1 : Int) (s0_2 : Int) (l1 : List Int) : Option (Int × Int × Int) := (spec_l01Below.f s0_0 s0_1 s0_2 (l1.length : Int)).bind fun bt120 => (if 0 ≤ bt120.1 then (if bt120.1 < (l1.length : Int) then (some (rd l1 bt120.1, bt120.2.1, bt120.2.2)) else (none)) else (none))
def spec_l09Rec.f (s0_0 : List Int) (s0_1 : Int) (s0_2 : Int) : Option (Int × Int × Int × Int × Int × Int) := (spec_l01PickInt.f s0_0 s0_1 s0_2 (([2, 2, 3, 4, 4, 4, 4, 4, 5] : List Int))).bind fun bt128 => ((spec_l01Below.f s0_0 bt128.2.1 bt128.2.2 3).bind fun bt131 => (if bt128.1 = 2 then ((spec_l01PickInt.f s0_0 bt131.2.1 bt131.2.2 (([0, 0, 1, 2] : List Int))).bind fun bt138 => (some (bt128.1, wrap64 (1 + bt131.1), bt138.1, 0, bt138.2.1, bt138.2.2))) else (if bt128.1 = 4 then ((spec_l01Below.f s0_0 bt131.2.1 bt131.2.2 16).bind fun bt141 => ((spec_l01Below.f s0_0 bt141.2.1 bt141.2.2 9).bind fun bt144 => (some (bt128.1, wrap64 (1 + bt131.1), bt141.1, wrap64 (1 + bt144.1), bt144.2.1, bt144.2.2)))) else (if bt128.1 = 5 then ((spec_l01Below.f s0_0 bt131.2.1 bt131.2.2 16).bind fun bt147 => (some (bt128.1, wrap64 (1 + bt131.1), bt147.1, 0, bt147.2.1, bt147.2.2))) else (some (bt128.1, wrap64 (1 + bt131.1), 0, 0, bt131.2.1, bt131.2.2))))))
def spec_l09Recs.l0 : Nat → List (S48) → Int → List Int → Int → Int → Option ((List (S48)) × Int × Int)
  | 0, _, _, _, _, _ => none
  | k + 1, x3, x4, x1000, x1001, x1002 => (spec_l01Below.f x1000 x1001 x1002 9).bind fun bt153 => (if x4 < bt153.1 then ((spec_l09Rec.f x1000 bt153.2.1 bt153.2.2).bind fun bt156 => (if x3.length < 4398046511104 then (spec_l09Recs.l0 k (x3 ++ [(⟨bt156.1, bt156.2.1, bt156.2.2.1, bt156.2.2.2.1⟩ : S48)]) (wrap64 (x4 + 1)) x1000 bt156.2.2.2.2.1 bt156.2.2.2.2.2) else (none))) else (some (x3, bt153.2.1, bt153.2.2)))
def spec_l09Recs.f (k : Nat) (s0_0 : List Int) (s0_1 : Int) (s0_2 : Int) : Option ((List (S48)) × Int × Int) := spec_l09Recs.l0 k (([] : List (S48))) 0 s0_0 s0_1 s0_2
def spec_l01Once.f (s0_0 : List Int) (s0_1 : Int) (s0_2 : Int) (a1 : Int) : Option (Bool × Int × Int) := (spec_l01Below.f s0_0 s0_1 s0_2 a1).bind fun bt165 => (some ((bt165.1 == 0), bt165.2.1, bt165.2.2))
def spec_l01New.l0 : Nat → List Int → Int → Int → Option (List Int × Int × Int)
  | 0, _, _, _ => none
  | k + 1, x0, x3, x4 => if x4 < (x0.length : Int) then (if x4 < 4000 then (if 0 ≤ x4 then (spec_l01New.l0 k x0 (Go.bits .and .i64 (wrap64 ((wrap64 ((wrap64 (x3 * 131)) + (wrap64 (rd x0 x4)))) + 7)) 1073741823) (wrap64 (x4 + 1))) else (none)) else (some (x0, 0, x3))) else (some (x0, 0, x3))
def spec_l01New.f (k : Nat) (l0 : List Int) : Option (List Int × Int × Int) := spec_l01New.l0 k l0 (wrap64 (36501 + (l0.length : Int))) 0
def spec_DrawPlaces.l0 : Nat → List Int → Int → List Int → Int → Int → Option (List Int)
  | 0, _, _, _, _, _ => none
  | k + 1, x4, x5, x190000, x190001, x190002 => if x5 < 12 then ((spec_l01Below.f x190000 x190001 x190002 10000).bind fun bt196 => (if x4.length < 17592186044416 then (spec_DrawPlaces.l0 k (x4 ++ [bt196.1]) (wrap64 (x5 + 1)) x190000 bt196.2.1 bt196.2.2) else (none))) else (some x4)
def spec_DrawPlaces.f (k : Nat) (l0 : List Int) : Option (List Int) := (spec_l01New.f k l0).bind fun bt186 => ((spec_l01Byte.f bt186.1 bt186.2.1 bt186.2.2).bind fun bt190 => (spec_DrawPlaces.l0 k (([] : List Int)) 0 bt186.1 bt190.2.1 bt190.2.2))
def impl_in.f (a0 : Int) (a1 : Int) (a2 : Int) : Option (Bool) := if a0 ≥ a1 then (some (decide (a0 ≤ a2))) else (some false)
def impl_RecOk.j0 : Nat → Bool → Int → Int → Int → Int → Option (Bool)
  | 0, _, _, _, _, _ => none
  | k + 1, x32, x203000, x203001, x203002, x203003 => if x32 = true then (some false) else (if x203000 = 2 then ((impl_in.f x203002 0 9).bind fun t205 => (some t205)) else (if x203000 = 3 then (some (x203002 == 0)) else (if x203000 = 4 then ((impl_in.f x203002 0 15).bind fun t206 => (if t206 = true then ((impl_in.f x203003 1 1000000000).bind fun t207 => (some t207)) else (some false))) else (if x203000 = 5 then ((impl_in.f x203002 0 15).bind fun t208 => (some t208)) else (some false)))))
def impl_RecOk.f (k : Nat) (a0_0 : Int) (a0_1 : Int) (a0_2 : Int) (a0_3 : Int) : Option (Bool) := if a0_0 = 1 then (if a0_1 = 0 then ((impl_in.f a0_2 0 1000000000).bind fun t203 => (if t203 = true then (some (a0_3 == 0)) else (some false))) else (some false)) else ((impl_in.f a0_1 1 9).bind fun t204 => (if t204 = true then (if a0_0 = 4 then (impl_RecOk.j0 k false a0_0 a0_1 a0_2 a0_3) else (impl_RecOk.j0 k (a0_3 != 0) a0_0 a0_1 a0_2 a0_3)) else (impl_RecOk.j0 k true a0_0 a0_1 a0_2 a0_3)))
def impl_VarText.l0 : Nat → Int → List Int → Option (ByteArray × Bool)
  | 0, _, _ => none
  | k + 1, x0, x4 => if x0 > 127 then (if x4.length < 140737488355328 then (impl_VarText.l0 k (wrap64 (Int.tdiv x0 128)) (x4 ++ [(wrap64 ((Int.tmod x0 128) + 128)) % 256])) else (none)) else (if x4.length < 140737488355328 then (some (strOfNums (x4 ++ [(x0) % 256]), true)) else (none))
def impl_VarText.f (k : Nat) (a0 : Int) : Option (ByteArray × Bool) := (impl_in.f a0 0 1000000000).bind fun t209 => (if t209 = true then (impl_VarText.l0 k a0 ([] : List Int)) else (some ((⟨#[]⟩ : ByteArray), false)))
def impl_varOf.f (k : Nat) (a0 : Int) : Option (ByteArray) := (impl_VarText.f k a0).bind fun bt216 => (some bt216.1)
def impl_RecText.f (k : Nat) (a0_0 : Int) (a0_1 : Int) (a0_2 : Int) (a0_3 : Int) : Option (ByteArray × Bool) := (impl_RecOk.f k a0_0 a0_1 a0_2 a0_3).bind fun t219 => (if t219 = true then ((some (([(wrap64 ((wrap64 (16 * a0_0)) + a0_1)) % 256] : List Int) : List Int)).bind fun y220 => ((impl_varOf.f k a0_2).bind fun t223 => (if (strOfNums y220).size + t223.size ≤ 9223372036854775807 then ((impl_varOf.f k a0_3).bind fun t224 => (if (strOfNums y220).size + t223.size + t224.size ≤ 9223372036854775807 then (some (((strOfNums y220) ++ t223) ++ t224, true)) else (none))) else (none)))) else (some ((⟨#[]⟩ : ByteArray), false)))
def spec_l01In.f (a0 : Int) (a1 : Int) (a2 : Int) : Option (Bool) := if a0 ≥ a1 then (some (decide (a0 ≤ a2))) else (some false)
def spec_RecOk.j0 : Nat → Bool → Int → Int → Int → Int → Option (Bool)
  | 0, _, _, _, _, _ => none
  | k + 1, x37, x247000, x247001, x247002, x247003 => if x37 = true then (some false) else (if x247000 = 2 then (some (decide (x247002 ≤ 9))) else (if x247000 = 3 then (some (x247002 == 0)) else (if x247000 = 4 then (if x247002 < 16 then ((spec_l01In.f x247003 1 1000000000).bind fun t250 => (some t250)) else (some false)) else (some (decide (x247002 < 16))))))
def spec_RecOk.f (k : Nat) (a0_0 : Int) (a0_1 : Int) (a0_2 : Int) (a0_3 : Int) : Option (Bool) := (spec_l01In.f a0_2 0 1000000000).bind fun t247 => (if t247 = true then (if a0_0 = 1 then (if a0_1 = 0 then (some (a0_3 == 0)) else (some false)) else ((spec_l01In.f a0_0 2 5).bind fun t248 => (if t248 = true then ((spec_l01In.f a0_1 1 9).bind fun t249 => (if t249 = true then (if a0_0 = 4 then (spec_RecOk.j0 k false a0_0 a0_1 a0_2 a0_3) else (spec_RecOk.j0 k (a0_3 != 0) a0_0 a0_1 a0_2 a0_3)) else (spec_RecOk.j0 k true a0_0 a0_1 a0_2 a0_3))) else (spec_RecOk.j0 k true a0_0 a0_1 a0_2 a0_3)))) else (some false))
def spec_l06Byte.f (a0 : Int) : Option (ByteArray) := some (strOfNums (([(a0) % 256] : List Int)))
def spec_l01Var.l0 : Nat → Int → List Int → Option (ByteArray)
  | 0, _, _ => none
  | k + 1, x0, x3 => if x0 > 127 then (if x3.length < 140737488355328 then (spec_l01Var.l0 k (wrap64 (Int.tdiv x0 128)) (x3 ++ [(wrap64 ((Int.tmod x0 128) + 128)) % 256])) else (none)) else (if x3.length < 140737488355328 then (some (strOfNums (x3 ++ [(x0) % 256]))) else (none))
def spec_l01Var.f (k : Nat) (a0 : Int) : Option (ByteArray) := spec_l01Var.l0 k a0 (([] : List Int))
def spec_RecText.f (k : Nat) (a0_0 : Int) (a0_1 : Int) (a0_2 : Int) (a0_3 : Int) : Option (ByteArray × Bool) := (spec_RecOk.f k a0_0 a0_1 a0_2 a0_3).bind fun t264 => (if t264 = true then ((spec_l06Byte.f (wrap64 ((wrap64 (16 * a0_0)) + a0_1))).bind fun t265 => ((spec_l01Var.f k a0_2).bind fun t266 => (if t265.size + t266.size ≤ 9223372036854775807 then ((spec_l01Var.f k a0_3).bind fun t267 => (if t265.size + t266.size + t267.size ≤ 9223372036854775807 then (some ((t265 ++ t266) ++ t267, true)) else (none))) else (none)))) else (some ((⟨#[]⟩ : ByteArray), false)))
def laws_sameRecs.l0 : Nat → List (S48) → List (S48) → Int → Option (Bool)
  | 0, _, _, _ => none
  | k + 1, x0, x1, x5 => if x5 < (x0.length : Int) then (if 0 ≤ x5 then (if x5 < (x1.length : Int) then (if (!(((rd_T48 x0 x5).f0) == ((rd_T48 x1 x5).f0)) || (!(((rd_T48 x0 x5).f1) == ((rd_T48 x1 x5).f1)) || (!(((rd_T48 x0 x5).f2) == ((rd_T48 x1 x5).f2)) || (!(((rd_T48 x0 x5).f3) == ((rd_T48 x1 x5).f3)))))) = true then (some false) else (laws_sameRecs.l0 k x0 x1 (wrap64 (x5 + 1)))) else (none)) else (none)) else (some true)
def laws_sameRecs.f (k : Nat) (l0 : List (S48)) (l1 : List (S48)) : Option (Bool) := if (l0.length : Int) = (l1.length : Int) then (laws_sameRecs.l0 k l0 l1 0) else (some false)
def impl_hasInt.l0 : Nat → Int → List Int → Int → Int → Option (Bool)
  | 0, _, _, _, _ => none
  | k + 1, x1, x7, x8, x9 => if x9 < x8 then (if 0 ≤ x9 then (if x9 < (x7.length : Int) then (if (rd x7 x9) = x1 then (some true) else (impl_hasInt.l0 k x1 x7 x8 (wrap64 (x9 + 1)))) else (none)) else (none)) else (some false)
def impl_hasInt.f (k : Nat) (l0 : List Int) (a1 : Int) : Option (Bool) := impl_hasInt.l0 k a1 l0 (l0.length : Int) 0
def impl_metaOf.l0 : Nat → Int → Int → Int → List (S36) → Int → Int → Option (Int × Int × Int × Int × Int × ByteArray × Bool)
  | 0, _, _, _, _, _, _ => none
  | k + 1, x1, x2, x3, x13, x14, x15 => if x15 < x14 then (if 0 ≤ x15 then (if x15 < (x13.length : Int) then (if ((rd_T36 x13 x15).f2.f0) = 2 then (if ((rd_T36 x13 x15).f2.f2) = x1 then (if ((rd_T36 x13 x15).f2.f3) = x2 then (if x3 = 0 then (some ((rd_T36 x13 x15).f2.f0, (rd_T36 x13 x15).f2.f1, (rd_T36 x13 x15).f2.f2, (rd_T36 x13 x15).f2.f3, (rd_T36 x13 x15).f2.f4, (rd_T36 x13 x15).f2.f5, true)) else (if ((rd_T36 x13 x15).f2.f4) = x3 then (some ((rd_T36 x13 x15).f2.f0, (rd_T36 x13 x15).f2.f1, (rd_T36 x13 x15).f2.f2, (rd_T36 x13 x15).f2.f3, (rd_T36 x13 x15).f2.f4, (rd_T36 x13 x15).f2.f5, true)) else (impl_metaOf.l0 k x1 x2 x3 x13 x14 (wrap64 (x15 + 1))))) else (impl_metaOf.l0 k x1 x2 x3 x13 x14 (wrap64 (x15 + 1)))) else (impl_metaOf.l0 k x1 x2 x3 x13 x14 (wrap64 (x15 + 1)))) else (impl_metaOf.l0 k x1 x2 x3 x13 x14 (wrap64 (x15 + 1)))) else (none)) else (none)) else (some (0, 0, 0, 0, 0, (⟨#[]⟩ : ByteArray), false))
def impl_metaOf.f (k : Nat) (l0 : List (S36)) (a1 : Int) (a2 : Int) (a3 : Int) : Option (Int × Int × Int × Int × Int × ByteArray × Bool) := impl_metaOf.l0 k a1 a2 a3 l0 (l0.length : Int) 0
mutual
def impl_ReadVar.l0 : Nat → ByteArray → Int → Int → Int → Option (Int × Int × Bool)
  | 0, _, _, _, _ => none
  | k + 1, x0, x1, x7, x8 => if x8 < 5 then (if x1 ≥ 0 then (impl_ReadVar.j1 k x0 x1 x7 x8 (decide (x1 < (wrap64 ((x0.size : Int) - x8))))) else (impl_ReadVar.j1 k x0 x1 x7 x8 false)) else (impl_ReadVar.j1 k x0 x1 x7 x8 false)
def impl_ReadVar.j1 : Nat → ByteArray → Int → Int → Int → Bool → Option (Int × Int × Bool)
  | 0, _, _, _, _, _ => none
  | k + 1, x0, x1, x7, x8, x23 => if x23 = true then (if 0 ≤ (wrap64 (x1 + x8)) then (if (wrap64 (x1 + x8)) < (x0.size : Int) then (if 0 ≤ (wrap64 (7 * x8)) then (if (wrap64 (bt x0 (wrap64 (x1 + x8)))) ≥ 128 then (impl_ReadVar.l0 k x0 x1 (wrap64 (x7 + (shl .i64 (Int.tmod (wrap64 (bt x0 (wrap64 (x1 + x8)))) 128) (wrap64 (7 * x8))))) (wrap64 (x8 + 1))) else (if (wrap64 (bt x0 (wrap64 (x1 + x8)))) = 0 then (if x8 > 0 then (some (0, 0, false)) else (if (wrap64 (x7 + (shl .i64 (Int.tmod (wrap64 (bt x0 (wrap64 (x1 + x8)))) 128) (wrap64 (7 * x8))))) > 1000000000 then (some (0, 0, false)) else (some (wrap64 (x7 + (shl .i64 (Int.tmod (wrap64 (bt x0 (wrap64 (x1 + x8)))) 128) (wrap64 (7 * x8)))), wrap64 ((wrap64 (x1 + x8)) + 1), true)))) else (if (wrap64 (x7 + (shl .i64 (Int.tmod (wrap64 (bt x0 (wrap64 (x1 + x8)))) 128) (wrap64 (7 * x8))))) > 1000000000 then (some (0, 0, false)) else (some (wrap64 (x7 + (shl .i64 (Int.tmod (wrap64 (bt x0 (wrap64 (x1 + x8)))) 128) (wrap64 (7 * x8)))), wrap64 ((wrap64 (x1 + x8)) + 1), true))))) else (none)) else (none)) else (none)) else (some (0, 0, false))
end
def impl_ReadVar.f (k : Nat) (a0 : ByteArray) (a1 : Int) : Option (Int × Int × Bool) := impl_ReadVar.l0 k a0 a1 0 0
def impl_ReadRecs.l0 : Nat → ByteArray → List (S48) → Int → Option ((List (S48)) × Bool)
  | 0, _, _, _ => none
  | k + 1, x0, x4, x5 => if x5 < (x0.size : Int) then ((impl_ReadVar.f k x0 (wrap64 (x5 + 1))).bind fun bt423 => ((impl_ReadVar.f k x0 bt423.2.1).bind fun bt426 => (if 0 ≤ x5 then (if bt423.2.2 = true then (if bt426.2.2 = true then ((impl_RecOk.f k (wrap64 (Int.tdiv (wrap64 (bt x0 x5)) 16)) (Int.tmod (wrap64 (bt x0 x5)) 16) bt423.1 bt426.1).bind fun t430 => (if t430 = true then (if x4.length < 4398046511104 then (impl_ReadRecs.l0 k x0 (x4 ++ [(⟨wrap64 (Int.tdiv (wrap64 (bt x0 x5)) 16), Int.tmod (wrap64 (bt x0 x5)) 16, bt423.1, bt426.1⟩ : S48)]) bt426.2.1) else (none)) else (some (([] : List (S48)), false)))) else (some (([] : List (S48)), false))) else (some (([] : List (S48)), false))) else (none)))) else (some (x4, true))
def impl_ReadRecs.f (k : Nat) (a0 : ByteArray) : Option ((List (S48)) × Bool) := impl_ReadRecs.l0 k a0 ([] : List (S48)) 0
def impl_gathered.l0 : Nat → List (S36) → Int → ByteArray → Int → Int → Int → Int → Int → Int → Int → ByteArray → Option (Int × Int × (List (S48)) × Bool)
  | 0, _, _, _, _, _, _, _, _, _, _, _ => none
  | k + 1, x0, x1, x8, x9, x10, x443000, x443001, x443002, x443003, x443004, x443005 => if x10 < x443004 then ((impl_metaOf.f k x0 x1 x10 x443004).bind fun bt443 => (if bt443.2.2.2.2.2.2 = true then (if x8.size + bt443.2.2.2.2.2.1.size ≤ 9223372036854775807 then (impl_gathered.l0 k x0 x1 (x8 ++ bt443.2.2.2.2.2.1) (mn x9 bt443.2.1) (wrap64 (x10 + 1)) x443000 x443001 x443002 x443003 x443004 x443005) else (none)) else (some (0, 0, ([] : List (S48)), false)))) else ((impl_ReadRecs.f k x8).bind fun bt451 => (some (x1, x9, bt451.1, bt451.2)))
def impl_gathered.f (k : Nat) (l0 : List (S36)) (a1 : Int) : Option (Int × Int × (List (S48)) × Bool) := (impl_metaOf.f k l0 a1 0 0).bind fun bt435 => (if bt435.2.2.2.2.2.2 = true then (impl_gathered.l0 k l0 a1 bt435.2.2.2.2.2.1 bt435.2.1 1 bt435.1 bt435.2.1 bt435.2.2.1 bt435.2.2.2.1 bt435.2.2.2.2.1 bt435.2.2.2.2.2.1) else (some (0, 0, ([] : List (S48)), false)))
mutual
def impl_Gather.l0 : Nat → List (S36) → List Int → List (S36) → Int → Int → Option ((List (S40)))
  | 0, _, _, _, _, _ => none
  | k + 1, x0, x3, x11, x12, x13 => if x13 < x12 then (if 0 ≤ x13 then (if x13 < (x11.length : Int) then (if ((rd_T36 x11 x13).f2.f0) = 2 then ((impl_hasInt.f k x3 ((rd_T36 x11 x13).f2.f2)).bind fun t457 => (if t457 = true then (impl_Gather.l0 k x0 x3 x11 x12 (wrap64 (x13 + 1))) else (if x3.length < 17592186044416 then (impl_Gather.l0 k x0 (x3 ++ [(rd_T36 x11 x13).f2.f2]) x11 x12 (wrap64 (x13 + 1))) else (none)))) else (impl_Gather.l0 k x0 x3 x11 x12 (wrap64 (x13 + 1)))) else (none)) else (none)) else ((sort_Ints.f k x3).bind fun t461 => (impl_Gather.l1 k x0 ([] : List (S40)) t461 (x3.length : Int) 0))
def impl_Gather.l1 : Nat → List (S36) → List (S40) → List Int → Int → Int → Option ((List (S40)))
  | 0, _, _, _, _, _ => none
  | k + 1, x0, x6, x38, x39, x40 => if x40 < x39 then (if 0 ≤ x40 then (if x40 < (x38.length : Int) then ((impl_gathered.f k x0 (rd x38 x40)).bind fun bt463 => (if bt463.2.2.2 = true then (if x6.length < 3518437208883 then (impl_Gather.l1 k x0 (x6 ++ [(⟨bt463.1, bt463.2.1, bt463.2.2.1⟩ : S40)]) x38 x39 (wrap64 (x40 + 1))) else (none)) else (impl_Gather.l1 k x0 x6 x38 x39 (wrap64 (x40 + 1))))) else (none)) else (none)) else (some x6)
end
def impl_Gather.f (k : Nat) (l0 : List (S36)) : Option ((List (S40))) := impl_Gather.l0 k l0 ([] : List Int) l0 (l0.length : Int) 0
def spec_DrawManyRecords.l0 : Nat → List (S48) → List Int → Int → Int → Option ((List (S48)))
  | 0, _, _, _, _ => none
  | k + 1, x4, x172000, x172001, x172002 => (spec_l01Below.f x172000 x172001 x172002 90).bind fun bt180 => (if (x4.length : Int) < (wrap64 (30 + bt180.1)) then (if x4.length < 4398046511104 then (spec_DrawManyRecords.l0 k (x4 ++ [(⟨4, 1 + ((x4.length : Int) % 3), (x4.length : Int) % 16, wrap64 (100 + (x4.length : Int))⟩ : S48)]) x172000 bt180.2.1 bt180.2.2) else (none)) else (some x4))
def spec_DrawManyRecords.f (k : Nat) (l0 : List Int) : Option ((List (S48))) := (spec_l01New.f k l0).bind fun bt168 => ((spec_l09Recs.f k bt168.1 bt168.2.1 bt168.2.2).bind fun bt172 => ((spec_l01Once.f bt168.1 bt172.2.1 bt172.2.2 2).bind fun bt177 => (if bt177.1 = true then (spec_DrawManyRecords.l0 k bt172.1 bt168.1 bt177.2.1 bt177.2.2) else (some bt172.1))))
mutual
def impl_TxPages.l0 : Nat → Int → Int → List ByteArray → List (S48) → Int → Int → Option ((List (S33)) × Bool)
  | 0, _, _, _, _, _, _ => none
  | k + 1, x0, x1, x8, x19, x20, x21 => if x21 < x20 then (if 0 ≤ x21 then (if x21 < (x19.length : Int) then ((impl_RecText.f k ((rd_T48 x19 x21).f0) ((rd_T48 x19 x21).f1) ((rd_T48 x19 x21).f2) ((rd_T48 x19 x21).f3)).bind fun bt230 => (if bt230.2 = true then (if 0 ≤ (wrap64 ((x8.length : Int) - 1)) then (if (wrap64 ((x8.length : Int) - 1)) < (x8.length : Int) then (if (wrap64 (((rdOf ByteArray.empty x8 (wrap64 ((x8.length : Int) - 1))).size : Int) + (bt230.1.size : Int))) > 90 then (if x8.length < 8796093022208 then ((some (x8 ++ [(⟨#[]⟩ : ByteArray)] : List ByteArray)).bind fun y233 => (if 0 ≤ (wrap64 ((wrap64 ((x8.length : Int) - 1)) + 1)) then (if (wrap64 ((wrap64 ((x8.length : Int) - 1)) + 1)) < (y233.length : Int) then (if (rdOf ByteArray.empty y233 (wrap64 ((wrap64 ((x8.length : Int) - 1)) + 1))).size + bt230.1.size ≤ 9223372036854775807 then (impl_TxPages.l0 k x0 x1 (y233.set ((wrap64 ((wrap64 ((x8.length : Int) - 1)) + 1)) : Int).toNat ((rdOf ByteArray.empty y233 (wrap64 ((wrap64 ((x8.length : Int) - 1)) + 1))) ++ bt230.1)) x19 x20 (wrap64 (x21 + 1))) else (none)) else (none)) else (none))) else (none)) else (if (rdOf ByteArray.empty x8 (wrap64 ((x8.length : Int) - 1))).size + bt230.1.size ≤ 9223372036854775807 then (impl_TxPages.l0 k x0 x1 (x8.set ((wrap64 ((x8.length : Int) - 1)) : Int).toNat ((rdOf ByteArray.empty x8 (wrap64 ((x8.length : Int) - 1))) ++ bt230.1)) x19 x20 (wrap64 (x21 + 1))) else (none))) else (none)) else (none)) else (some (([] : List (S33)), false)))) else (none)) else (none)) else (if (x8.length : Int) > 9 then (impl_TxPages.j1 k x0 x1 x8 (x8.length : Int) true) else ((impl_in.f x0 1 (wrap64 ((wrap64 (1000000000 - (x8.length : Int))) + 1))).bind fun t240 => (if t240 = true then ((impl_in.f x1 1 1000000000).bind fun t241 => (impl_TxPages.j1 k x0 x1 x8 (x8.length : Int) (!t241))) else (impl_TxPages.j1 k x0 x1 x8 (x8.length : Int) true))))
def impl_TxPages.j1 : Nat → Int → Int → List ByteArray → Int → Bool → Option ((List (S33)) × Bool)
  | 0, _, _, _, _, _ => none
  | k + 1, x0, x1, x8, x14, x73 => if x73 = true then (some (([] : List (S33)), false)) else (impl_TxPages.l1 k x0 x1 x14 ([] : List (S33)) x8 (x8.length : Int) 0)
def impl_TxPages.l1 : Nat → Int → Int → Int → List (S33) → List ByteArray → Int → Int → Option ((List (S33)) × Bool)
  | 0, _, _, _, _, _, _, _ => none
  | k + 1, x0, x1, x14, x15, x74, x75, x76 => if x76 < x75 then (if 0 ≤ x76 then (if x76 < (x74.length : Int) then (if x15.length < 2513169434916 then (impl_TxPages.l1 k x0 x1 x14 (x15 ++ [(⟨2, wrap64 (x0 + x76), x1, x76, x14, rdOf ByteArray.empty x74 x76⟩ : S33)]) x74 x75 (wrap64 (x76 + 1))) else (none)) else (none)) else (none)) else (some (x15, true))
end
def impl_TxPages.f (k : Nat) (a0 : Int) (a1 : Int) (l2 : List (S48)) : Option ((List (S33)) × Bool) := impl_TxPages.l0 k a0 a1 (([(⟨#[]⟩ : ByteArray)] : List ByteArray)) l2 (l2.length : Int) 0
mutual
def spec_TxPages.l0 : Nat → Int → Int → List (S48) → List (S33) → List ByteArray → Int → Option ((List (S33)) × Bool)
  | 0, _, _, _, _, _, _ => none
  | k + 1, x0, x1, x2, x8, x9, x10 => if x10 < (x2.length : Int) then (if 0 ≤ x10 then ((spec_RecText.f k ((rd_T48 x2 x10).f0) ((rd_T48 x2 x10).f1) ((rd_T48 x2 x10).f2) ((rd_T48 x2 x10).f3)).bind fun bt275 => (if bt275.2 = true then (if 0 ≤ (wrap64 ((x9.length : Int) - 1)) then (if (wrap64 ((x9.length : Int) - 1)) < (x9.length : Int) then (if (wrap64 (((rdOf ByteArray.empty x9 (wrap64 ((x9.length : Int) - 1))).size : Int) + (bt275.1.size : Int))) > 90 then (if x9.length < 8796093022208 then (spec_TxPages.l0 k x0 x1 x2 x8 (x9 ++ [bt275.1]) (wrap64 (x10 + 1))) else (none)) else (if (rdOf ByteArray.empty x9 (wrap64 ((x9.length : Int) - 1))).size + bt275.1.size ≤ 9223372036854775807 then (spec_TxPages.l0 k x0 x1 x2 x8 (x9.set ((wrap64 ((x9.length : Int) - 1)) : Int).toNat ((rdOf ByteArray.empty x9 (wrap64 ((x9.length : Int) - 1))) ++ bt275.1)) (wrap64 (x10 + 1))) else (none))) else (none)) else (none)) else (some (x8, false)))) else (none)) else (if (x9.length : Int) > 9 then (spec_TxPages.j1 k x0 x1 x8 x9 true) else ((spec_l01In.f x0 1 (wrap64 ((wrap64 (1000000000 - (x9.length : Int))) + 1))).bind fun t283 => (if t283 = true then ((spec_l01In.f x1 1 1000000000).bind fun t284 => (spec_TxPages.j1 k x0 x1 x8 x9 (!t284))) else (spec_TxPages.j1 k x0 x1 x8 x9 true))))
def spec_TxPages.j1 : Nat → Int → Int → List (S33) → List ByteArray → Bool → Option ((List (S33)) × Bool)
  | 0, _, _, _, _, _ => none
  | k + 1, x0, x1, x8, x9, x76 => if x76 = true then (some (x8, false)) else (spec_TxPages.l1 k x0 x1 x9 (([] : List (S33))) 0)
def spec_TxPages.l1 : Nat → Int → Int → List ByteArray → List (S33) → Int → Option ((List (S33)) × Bool)
  | 0, _, _, _, _, _ => none
  | k + 1, x0, x1, x9, x14, x15 => if x15 < (x9.length : Int) then (if 0 ≤ x15 then (if x14.length < 2513169434916 then (spec_TxPages.l1 k x0 x1 x9 (x14 ++ [(⟨2, wrap64 (x0 + x15), x1, x15, (x9.length : Int), rdOf ByteArray.empty x9 x15⟩ : S33)]) (wrap64 (x15 + 1))) else (none)) else (none)) else (some (x14, true))
end
def spec_TxPages.f (k : Nat) (a0 : Int) (a1 : Int) (l2 : List (S48)) : Option ((List (S33)) × Bool) := spec_TxPages.l0 k a0 a1 l2 (([] : List (S33))) (([(⟨#[]⟩ : ByteArray)] : List ByteArray)) 0
end Go.Proofs.Ytkbfmompapcekaa.PK

/- From the print's plain functions to the own ones: small words. -/
namespace Go.Proofs.Ytkbfmompapcekaa.M2
open Go Go.RowKit Go.Proofs.YtkbfmompapcekaaW.PrintWords Go.Proofs.Ytkbfmompapcekaa.PK
theorem w64_eq (n : Int) : w64 n = wrap64 n := IntWalk.i64_left n
theorem wu8_eq (n : Int) : Go.IntKind.wrap .u8 n = n % 256 := by simp [IntKind.wrap, IntKind.signed, IntKind.bits]
theorem int_beq (a b : Int) : (a == b) = decide (a = b) := rfl
theorem emp_eq : (⟨#[]⟩ : ByteArray).toList = [] := by kernel_rfl
theorem itE {α : Type} {c : Prop} [Decidable c] {a b : Option α} {r : α} {G : Prop} (h : (if c then a else b) = some r) (x : c → a = some r → G) (y : ¬ c → b = some r → G) : G := by
  by_cases hc : c
  · rw [if_pos hc] at h; exact x hc h
  · rw [if_neg hc] at h; exact y hc h
theorem bnE {α β : Type} {o : Option α} {f : α → Option β} {r : β} {G : Prop} (h : o.bind f = some r) (x : ∀ t, o = some t → f t = some r → G) : G := by
  obtain ⟨t, h1, h2⟩ := Option.bind_eq_some_iff.1 h; exact x t h1 h2
theorem bsE {α β : Type} {a : α} {f : α → Option β} {r : β} {G : Prop} (h : (some a).bind f = some r) (x : f a = some r → G) : G := x h
theorem noE {α : Type} {r : α} {G : Prop} (h : none = some r) : G := by cases h
theorem ite_inv {α : Type} {c : Prop} [Decidable c] {a b : Option α} {r : α} (h : (if c then a else b) = some r) : (c ∧ a = some r) ∨ (¬ c ∧ b = some r) := by
  by_cases hc : c
  · rw [if_pos hc] at h; exact .inl ⟨hc, h⟩
  · rw [if_neg hc] at h; exact .inr ⟨hc, h⟩
theorem sort_Ints.rel (k : Nat) (l : List Int) (r : List Int) (h : PK.sort_Ints.f k l = some r) (m : Nat) (_ : k ≤ m) : sort_Ints.f m l = some r := h
theorem sort_Ints.len {k : Nat} {l r : List Int} (h : sort_Ints.f k l = some r) : r.length = l.length := by
  unfold sort_Ints.f at h; split at h
  · injection h with h; rw [← h]; exact List.length_mergeSort l
  · cases h
theorem fdiv33 (a : Int) : Int.fdiv a 8589934592 = a / 8589934592 := Int.fdiv_eq_ediv_of_nonneg a (by decide)
theorem fdiv45 (a : Int) : Int.fdiv a 35184372088832 = a / 35184372088832 := Int.fdiv_eq_ediv_of_nonneg a (by decide)
theorem shlR (x y : Int) : w64 (x * 2 ^ (min y.toNat 64)) = Go.Proofs.YtkbfmompapcekaaW.PrintWords.shl .i64 x y := rfl
theorem bt_eq (s : ByteArray) (i : Int) : bt s i = Go.Proofs.YtkbfmompapcekaaW.PrintWords.bt s i := rfl
theorem tmodN (n : Nat) (k : Int) : Int.tmod (n : Int) k = (n : Int) % k := Int.tmod_eq_emod_of_nonneg (Int.natCast_nonneg n)
theorem rdOfB (l : List ByteArray) (i : Int) : rdOf ByteArray.empty l i = rd_T9 l i := rfl
theorem rdT3_eq (l : List Int) (i : Int) : rd_T3 l i = rd l i := rfl
theorem rdT5_eq (l : List Int) (i : Int) : rd_T5 l i = rd l i := rfl
theorem rdn3 (l : List Int) (i : Int) : rd_T3 l ((i.toNat : Nat) : Int) = rd_T3 l i := rfl
theorem rdset3 (l : List Int) (i : Int) (y : Int) (h : i < (l.length : Int)) (h0 : 0 ≤ i) : rd_T3 (l.set i.toNat y) i = y := by
  unfold rd_T3; rw [List.getD_eq_getElem?_getD, List.getElem?_set_self (by omega)]; rfl
theorem rdn5 (l : List Int) (i : Int) : rd_T5 l ((i.toNat : Nat) : Int) = rd_T5 l i := rfl
theorem rdset5 (l : List Int) (i : Int) (y : Int) (h : i < (l.length : Int)) (h0 : 0 ≤ i) : rd_T5 (l.set i.toNat y) i = y := by
  unfold rd_T5; rw [List.getD_eq_getElem?_getD, List.getElem?_set_self (by omega)]; rfl
theorem rdn48 (l : List S48) (i : Int) : rd_T48 l ((i.toNat : Nat) : Int) = rd_T48 l i := rfl
theorem rdset48 (l : List S48) (i : Int) (y : S48) (h : i < (l.length : Int)) (h0 : 0 ≤ i) : rd_T48 (l.set i.toNat y) i = y := by
  unfold rd_T48; rw [List.getD_eq_getElem?_getD, List.getElem?_set_self (by omega)]; rfl
theorem rdn33 (l : List S33) (i : Int) : rd_T33 l ((i.toNat : Nat) : Int) = rd_T33 l i := rfl
theorem rdset33 (l : List S33) (i : Int) (y : S33) (h : i < (l.length : Int)) (h0 : 0 ≤ i) : rd_T33 (l.set i.toNat y) i = y := by
  unfold rd_T33; rw [List.getD_eq_getElem?_getD, List.getElem?_set_self (by omega)]; rfl
theorem rdn9 (l : List ByteArray) (i : Int) : rd_T9 l ((i.toNat : Nat) : Int) = rd_T9 l i := rfl
theorem rdset9 (l : List ByteArray) (i : Int) (y : ByteArray) (h : i < (l.length : Int)) (h0 : 0 ≤ i) : rd_T9 (l.set i.toNat y) i = y := by
  unfold rd_T9; rw [List.getD_eq_getElem?_getD, List.getElem?_set_self (by omega)]; rfl
theorem rdn36 (l : List S36) (i : Int) : rd_T36 l ((i.toNat : Nat) : Int) = rd_T36 l i := rfl
theorem rdset36 (l : List S36) (i : Int) (y : S36) (h : i < (l.length : Int)) (h0 : 0 ≤ i) : rd_T36 (l.set i.toNat y) i = y := by
  unfold rd_T36; rw [List.getD_eq_getElem?_getD, List.getElem?_set_self (by omega)]; rfl
theorem rdn40 (l : List S40) (i : Int) : rd_T40 l ((i.toNat : Nat) : Int) = rd_T40 l i := rfl
theorem rdset40 (l : List S40) (i : Int) (y : S40) (h : i < (l.length : Int)) (h0 : 0 ≤ i) : rd_T40 (l.set i.toNat y) i = y := by
  unfold rd_T40; rw [List.getD_eq_getElem?_getD, List.getElem?_set_self (by omega)]; rfl
end Go.Proofs.Ytkbfmompapcekaa.M2

/- What the print's plain functions answer, the own ones answer. Written by a program of this session. -/
namespace Go.Proofs.Ytkbfmompapcekaa.M2
open Go Go.RowKit Go.Proofs.YtkbfmompapcekaaW.PrintWords Go.Proofs.Ytkbfmompapcekaa.PK
set_option linter.unusedVariables false
set_option linter.unusedSimpArgs false
theorem laws_big.rel (k : Nat) (l0 : List Int) (r) (h : PK.laws_big.f l0 = some r) (m : Nat) (hm : k ≤ m) : laws_big.f m l0 = some r := by
  rw [PK.laws_big.f] at h
  rw [laws_big.f]
  try simp only [w64_eq, wu8_eq, gt_iff_lt, ge_iff_le, int_beq, fdiv33, fdiv45, bt_eq, tmodN, rdOfB] at h
  try simp only [shlR]
  try simp only [w64_eq, wu8_eq, gt_iff_lt, ge_iff_le, int_beq, fdiv33, fdiv45, bt_eq, tmodN, rdOfB, rdT3_eq, rdT5_eq, seq, maxI, minI, emp_eq, rdn3, rdn5, rdn48, rdn33, rdn9, rdn36, rdn40]
  refine ?_
  all_goals (try cases h)
  all_goals (try simp only [*, if_true, if_false, ↓reduceIte, Option.bind_some, List.length_cons, List.length_nil, List.length_append, Bool.not_true, Bool.not_false, Bool.true_eq_false, Bool.false_eq_true])
  all_goals (repeat first | rw [if_pos (by omega)] | rw [if_neg (by omega)])
  all_goals first | exact h | exact h _ | exact h _ _ | exact h _ _ _ | exact h _ _ _ _ | exact h _ _ _ _ _ | exact h _ _ _ _ _ _ | exact h _ _ _ _ _ _ _ | exact h _ _ _ _ _ _ _ _ | rfl | (simp_all [-Bool.forall_bool]; done) | (simp_all [-Bool.forall_bool]; first | exact h | exact h _ | exact h _ _ | exact h _ _ _ | exact h _ _ _ _ | exact h _ _ _ _ _ | exact h _ _ _ _ _ _ | exact h _ _ _ _ _ _ _ | exact h _ _ _ _ _ _ _ _) | (simp_all [-Bool.forall_bool, emp_eq, int_beq]; done) | (simp_all [-Bool.forall_bool]; (intros; simp_all; done)) | (simp_all [-Bool.forall_bool, rdset3, rdset5, rdset48, rdset33, rdset9, rdset36, rdset40]; done) | grind

theorem spec_l01Byte.rel (k : Nat) (s0_0 : List Int) (s0_1 : Int) (s0_2 : Int) (r) (h : PK.spec_l01Byte.f s0_0 s0_1 s0_2 = some r) (m : Nat) (hm : k ≤ m) : spec_l01Byte.f m s0_0 s0_1 s0_2 = some (r.1, s0_0, r.2.1, r.2.2) := by
  rw [PK.spec_l01Byte.f] at h
  rw [spec_l01Byte.f]
  try simp only [w64_eq, wu8_eq, gt_iff_lt, ge_iff_le, int_beq, fdiv33, fdiv45, bt_eq, tmodN, rdOfB] at h
  try simp only [shlR]
  try simp only [w64_eq, wu8_eq, gt_iff_lt, ge_iff_le, int_beq, fdiv33, fdiv45, bt_eq, tmodN, rdOfB, rdT3_eq, rdT5_eq, seq, maxI, minI, emp_eq, rdn3, rdn5, rdn48, rdn33, rdn9, rdn36, rdn40]
  refine (itE h (fun q h => (itE h (fun q h => ?_) (fun q h => (noE h)))) (fun q h => ?_))
  all_goals (try cases h)
  all_goals (try simp only [*, if_true, if_false, ↓reduceIte, Option.bind_some, List.length_cons, List.length_nil, List.length_append, Bool.not_true, Bool.not_false, Bool.true_eq_false, Bool.false_eq_true])
  all_goals (repeat first | rw [if_pos (by omega)] | rw [if_neg (by omega)])
  all_goals first | exact h | exact h _ | exact h _ _ | exact h _ _ _ | exact h _ _ _ _ | exact h _ _ _ _ _ | exact h _ _ _ _ _ _ | exact h _ _ _ _ _ _ _ | exact h _ _ _ _ _ _ _ _ | rfl | (simp_all [-Bool.forall_bool]; done) | (simp_all [-Bool.forall_bool]; first | exact h | exact h _ | exact h _ _ | exact h _ _ _ | exact h _ _ _ _ | exact h _ _ _ _ _ | exact h _ _ _ _ _ _ | exact h _ _ _ _ _ _ _ | exact h _ _ _ _ _ _ _ _) | (simp_all [-Bool.forall_bool, emp_eq, int_beq]; done) | (simp_all [-Bool.forall_bool]; (intros; simp_all; done)) | (simp_all [-Bool.forall_bool, rdset3, rdset5, rdset48, rdset33, rdset9, rdset36, rdset40]; done) | grind

theorem spec_l01Below.rel (k : Nat) (s0_0 : List Int) (s0_1 : Int) (s0_2 : Int) (a1 : Int) (r) (h : PK.spec_l01Below.f s0_0 s0_1 s0_2 a1 = some r) (m : Nat) (hm : k ≤ m) : spec_l01Below.f m a1 s0_0 s0_1 s0_2 = some (r.1, s0_0, r.2.1, r.2.2) := by
  rw [PK.spec_l01Below.f] at h
  rw [spec_l01Below.f]
  try simp only [w64_eq, wu8_eq, gt_iff_lt, ge_iff_le, int_beq, fdiv33, fdiv45, bt_eq, tmodN, rdOfB] at h
  try simp only [shlR]
  try simp only [w64_eq, wu8_eq, gt_iff_lt, ge_iff_le, int_beq, fdiv33, fdiv45, bt_eq, tmodN, rdOfB, rdT3_eq, rdT5_eq, seq, maxI, minI, emp_eq, rdn3, rdn5, rdn48, rdn33, rdn9, rdn36, rdn40]
  refine (itE h (fun q h => ?_) (fun q h => (itE h (fun q h => (bnE h (fun _ g h => (fun g => (itE h (fun q h => (noE h)) (fun q h => ?_))) (spec_l01Byte.rel m _ _ _ _ g m (by omega))))) (fun q h => (bnE h (fun _ g h => (fun g => (bnE h (fun _ g h => (fun g => (bnE h (fun _ g h => (fun g => (bnE h (fun _ g h => (fun g => (itE h (fun q h => (noE h)) (fun q h => ?_))) (spec_l01Byte.rel m _ _ _ _ g m (by omega))))) (spec_l01Byte.rel m _ _ _ _ g m (by omega))))) (spec_l01Byte.rel m _ _ _ _ g m (by omega))))) (spec_l01Byte.rel m _ _ _ _ g m (by omega))))))))
  all_goals (try cases h)
  all_goals (try simp only [*, if_true, if_false, ↓reduceIte, Option.bind_some, List.length_cons, List.length_nil, List.length_append, Bool.not_true, Bool.not_false, Bool.true_eq_false, Bool.false_eq_true])
  all_goals (repeat first | rw [if_pos (by omega)] | rw [if_neg (by omega)])
  all_goals first | exact h | exact h _ | exact h _ _ | exact h _ _ _ | exact h _ _ _ _ | exact h _ _ _ _ _ | exact h _ _ _ _ _ _ | exact h _ _ _ _ _ _ _ | exact h _ _ _ _ _ _ _ _ | rfl | (simp_all [-Bool.forall_bool]; done) | (simp_all [-Bool.forall_bool]; first | exact h | exact h _ | exact h _ _ | exact h _ _ _ | exact h _ _ _ _ | exact h _ _ _ _ _ | exact h _ _ _ _ _ _ | exact h _ _ _ _ _ _ _ | exact h _ _ _ _ _ _ _ _) | (simp_all [-Bool.forall_bool, emp_eq, int_beq]; done) | (simp_all [-Bool.forall_bool]; (intros; simp_all; done)) | (simp_all [-Bool.forall_bool, rdset3, rdset5, rdset48, rdset33, rdset9, rdset36, rdset40]; done) | grind

theorem spec_l01PickInt.rel (k : Nat) (s0_0 : List Int) (s0_1 : Int) (s0_2 : Int) (l1 : List Int) (r) (h : PK.spec_l01PickInt.f s0_0 s0_1 s0_2 l1 = some r) (m : Nat) (hm : k ≤ m) : spec_l01PickInt.f m l1 s0_0 s0_1 s0_2 = some (r.1, s0_0, r.2.1, r.2.2) := by
  rw [PK.spec_l01PickInt.f] at h
  rw [spec_l01PickInt.f]
  try simp only [w64_eq, wu8_eq, gt_iff_lt, ge_iff_le, int_beq, fdiv33, fdiv45, bt_eq, tmodN, rdOfB] at h
  try simp only [shlR]
  try simp only [w64_eq, wu8_eq, gt_iff_lt, ge_iff_le, int_beq, fdiv33, fdiv45, bt_eq, tmodN, rdOfB, rdT3_eq, rdT5_eq, seq, maxI, minI, emp_eq, rdn3, rdn5, rdn48, rdn33, rdn9, rdn36, rdn40]
  refine (bnE h (fun _ g h => (fun g => (itE h (fun q h => (itE h (fun q h => ?_) (fun q h => (noE h)))) (fun q h => (noE h)))) (spec_l01Below.rel m _ _ _ _ _ g m (by omega))))
  all_goals (try cases h)
  all_goals (try simp only [*, if_true, if_false, ↓reduceIte, Option.bind_some, List.length_cons, List.length_nil, List.length_append, Bool.not_true, Bool.not_false, Bool.true_eq_false, Bool.false_eq_true])
  all_goals (repeat first | rw [if_pos (by omega)] | rw [if_neg (by omega)])
  all_goals first | exact h | exact h _ | exact h _ _ | exact h _ _ _ | exact h _ _ _ _ | exact h _ _ _ _ _ | exact h _ _ _ _ _ _ | exact h _ _ _ _ _ _ _ | exact h _ _ _ _ _ _ _ _ | rfl | (simp_all [-Bool.forall_bool]; done) | (simp_all [-Bool.forall_bool]; first | exact h | exact h _ | exact h _ _ | exact h _ _ _ | exact h _ _ _ _ | exact h _ _ _ _ _ | exact h _ _ _ _ _ _ | exact h _ _ _ _ _ _ _ | exact h _ _ _ _ _ _ _ _) | (simp_all [-Bool.forall_bool, emp_eq, int_beq]; done) | (simp_all [-Bool.forall_bool]; (intros; simp_all; done)) | (simp_all [-Bool.forall_bool, rdset3, rdset5, rdset48, rdset33, rdset9, rdset36, rdset40]; done) | grind
end Go.Proofs.Ytkbfmompapcekaa.M2

/- What the print's plain functions answer, the own ones answer. Written by a program of this session. -/
namespace Go.Proofs.Ytkbfmompapcekaa.M2
open Go Go.RowKit Go.Proofs.YtkbfmompapcekaaW.PrintWords Go.Proofs.Ytkbfmompapcekaa.PK
set_option linter.unusedVariables false
set_option linter.unusedSimpArgs false
theorem spec_l09Rec.rel (k : Nat) (s0_0 : List Int) (s0_1 : Int) (s0_2 : Int) (r) (h : PK.spec_l09Rec.f s0_0 s0_1 s0_2 = some r) (m : Nat) (hm : k ≤ m) : spec_l09Rec.f m s0_0 s0_1 s0_2 = some (r.1, r.2.1, r.2.2.1, r.2.2.2.1, s0_0, r.2.2.2.2.1, r.2.2.2.2.2) := by
  rw [PK.spec_l09Rec.f] at h
  rw [spec_l09Rec.f]
  try simp only [w64_eq, wu8_eq, gt_iff_lt, ge_iff_le, int_beq, fdiv33, fdiv45, bt_eq, tmodN, rdOfB] at h
  try simp only [shlR]
  try simp only [w64_eq, wu8_eq, gt_iff_lt, ge_iff_le, int_beq, fdiv33, fdiv45, bt_eq, tmodN, rdOfB, rdT3_eq, rdT5_eq, seq, maxI, minI, emp_eq, rdn3, rdn5, rdn48, rdn33, rdn9, rdn36, rdn40]
  refine (bnE h (fun _ g h => (fun g => (bnE h (fun _ g h => (fun g => (itE h (fun q h => (bnE h (fun _ g h => (fun g => ?_) (spec_l01PickInt.rel m _ _ _ _ _ g m (by omega))))) (fun q h => (itE h (fun q h => (bnE h (fun _ g h => (fun g => (bnE h (fun _ g h => (fun g => ?_) (spec_l01Below.rel m _ _ _ _ _ g m (by omega))))) (spec_l01Below.rel m _ _ _ _ _ g m (by omega))))) (fun q h => (itE h (fun q h => (bnE h (fun _ g h => (fun g => ?_) (spec_l01Below.rel m _ _ _ _ _ g m (by omega))))) (fun q h => ?_))))))) (spec_l01Below.rel m _ _ _ _ _ g m (by omega))))) (spec_l01PickInt.rel m _ _ _ _ _ g m (by omega))))
  all_goals (try cases h)
  all_goals (try simp only [*, if_true, if_false, ↓reduceIte, Option.bind_some, List.length_cons, List.length_nil, List.length_append, Bool.not_true, Bool.not_false, Bool.true_eq_false, Bool.false_eq_true])
  all_goals (repeat first | rw [if_pos (by omega)] | rw [if_neg (by omega)])
  all_goals first | exact h | exact h _ | exact h _ _ | exact h _ _ _ | exact h _ _ _ _ | exact h _ _ _ _ _ | exact h _ _ _ _ _ _ | exact h _ _ _ _ _ _ _ | exact h _ _ _ _ _ _ _ _ | rfl | (simp_all [-Bool.forall_bool]; done) | (simp_all [-Bool.forall_bool]; first | exact h | exact h _ | exact h _ _ | exact h _ _ _ | exact h _ _ _ _ | exact h _ _ _ _ _ | exact h _ _ _ _ _ _ | exact h _ _ _ _ _ _ _ | exact h _ _ _ _ _ _ _ _) | (simp_all [-Bool.forall_bool, emp_eq, int_beq]; done) | (simp_all [-Bool.forall_bool]; (intros; simp_all; done)) | (simp_all [-Bool.forall_bool, rdset3, rdset5, rdset48, rdset33, rdset9, rdset36, rdset40]; done) | grind

theorem spec_l09Recs.rel_l (k : Nat) : (∀ x3 x4 x1000 x1001 x1002 r, PK.spec_l09Recs.l0 k x3 x4 x1000 x1001 x1002 = some r → ∀ m, k ≤ m → spec_l09Recs.c3 m x4 x1000 x1001 x1002 x3 = some (r.1, x1000, r.2.1, r.2.2)) := by
  induction k using Nat.strongRecOn with
  | _ k ih =>
  have il0 := fun k' hk' => (ih k' hk')
  clear ih
  intro x3 x4 x1000 x1001 x1002 r h m hm
  cases k with
  | zero => simp only [PK.spec_l09Recs.l0] at h; cases h
  | succ k =>
    obtain ⟨m, rfl⟩ : ∃ m', m = m' + 1 := ⟨m - 1, by omega⟩
    rw [PK.spec_l09Recs.l0] at h
    rw [spec_l09Recs.c3]
    try simp only [w64_eq, wu8_eq, gt_iff_lt, ge_iff_le, int_beq, fdiv33, fdiv45, bt_eq, tmodN, rdOfB] at h
    try simp only [shlR]
    try simp only [w64_eq, wu8_eq, gt_iff_lt, ge_iff_le, int_beq, fdiv33, fdiv45, bt_eq, tmodN, rdOfB, rdT3_eq, rdT5_eq, seq, maxI, minI, emp_eq, rdn3, rdn5, rdn48, rdn33, rdn9, rdn36, rdn40]
    refine (bnE h (fun _ g h => (fun g => (itE h (fun q h => (bnE h (fun _ g h => (fun g => (itE h (fun q h => ((fun h => ?_) (il0 _ (by omega) _ _ _ _ _ _ h m (by omega)))) (fun q h => (noE h)))) (spec_l09Rec.rel m _ _ _ _ g m (by omega))))) (fun q h => ?_))) (spec_l01Below.rel m _ _ _ _ _ g m (by omega))))
    all_goals clear il0
    all_goals (try cases h)
    all_goals (try simp only [*, if_true, if_false, ↓reduceIte, Option.bind_some, List.length_cons, List.length_nil, List.length_append, Bool.not_true, Bool.not_false, Bool.true_eq_false, Bool.false_eq_true])
    all_goals (repeat first | rw [if_pos (by omega)] | rw [if_neg (by omega)])
    all_goals first | exact h | exact h _ | exact h _ _ | exact h _ _ _ | exact h _ _ _ _ | exact h _ _ _ _ _ | exact h _ _ _ _ _ _ | exact h _ _ _ _ _ _ _ | exact h _ _ _ _ _ _ _ _ | rfl | (simp_all [-Bool.forall_bool]; done) | (simp_all [-Bool.forall_bool]; first | exact h | exact h _ | exact h _ _ | exact h _ _ _ | exact h _ _ _ _ | exact h _ _ _ _ _ | exact h _ _ _ _ _ _ | exact h _ _ _ _ _ _ _ | exact h _ _ _ _ _ _ _ _) | (simp_all [-Bool.forall_bool, emp_eq, int_beq]; done) | (simp_all [-Bool.forall_bool]; (intros; simp_all; done)) | (simp_all [-Bool.forall_bool, rdset3, rdset5, rdset48, rdset33, rdset9, rdset36, rdset40]; done) | grind
theorem spec_l09Recs.rel (k : Nat) (s0_0 : List Int) (s0_1 : Int) (s0_2 : Int) (r) (h : PK.spec_l09Recs.f k s0_0 s0_1 s0_2 = some r) (m : Nat) (hm : k ≤ m) : spec_l09Recs.f m s0_0 s0_1 s0_2 = some (r.1, s0_0, r.2.1, r.2.2) := by
  have il0 := fun k' (_ : k' < k + 1) => (spec_l09Recs.rel_l k')
  rw [PK.spec_l09Recs.f] at h
  rw [spec_l09Recs.f]
  try simp only [w64_eq, wu8_eq, gt_iff_lt, ge_iff_le, int_beq, fdiv33, fdiv45, bt_eq, tmodN, rdOfB] at h
  try simp only [shlR]
  try simp only [w64_eq, wu8_eq, gt_iff_lt, ge_iff_le, int_beq, fdiv33, fdiv45, bt_eq, tmodN, rdOfB, rdT3_eq, rdT5_eq, seq, maxI, minI, emp_eq, rdn3, rdn5, rdn48, rdn33, rdn9, rdn36, rdn40]
  refine ((fun h => ?_) (il0 _ (by omega) _ _ _ _ _ _ h m (by omega)))
  all_goals clear il0
  all_goals (try cases h)
  all_goals (try simp only [*, if_true, if_false, ↓reduceIte, Option.bind_some, List.length_cons, List.length_nil, List.length_append, Bool.not_true, Bool.not_false, Bool.true_eq_false, Bool.false_eq_true])
  all_goals (repeat first | rw [if_pos (by omega)] | rw [if_neg (by omega)])
  all_goals first | exact h | exact h _ | exact h _ _ | exact h _ _ _ | exact h _ _ _ _ | exact h _ _ _ _ _ | exact h _ _ _ _ _ _ | exact h _ _ _ _ _ _ _ | exact h _ _ _ _ _ _ _ _ | rfl | (simp_all [-Bool.forall_bool]; done) | (simp_all [-Bool.forall_bool]; first | exact h | exact h _ | exact h _ _ | exact h _ _ _ | exact h _ _ _ _ | exact h _ _ _ _ _ | exact h _ _ _ _ _ _ | exact h _ _ _ _ _ _ _ | exact h _ _ _ _ _ _ _ _) | (simp_all [-Bool.forall_bool, emp_eq, int_beq]; done) | (simp_all [-Bool.forall_bool]; (intros; simp_all; done)) | (simp_all [-Bool.forall_bool, rdset3, rdset5, rdset48, rdset33, rdset9, rdset36, rdset40]; done) | grind
end Go.Proofs.Ytkbfmompapcekaa.M2

/- What the print's plain functions answer, the own ones answer. Written by a program of this session. -/
namespace Go.Proofs.Ytkbfmompapcekaa.M2
open Go Go.RowKit Go.Proofs.YtkbfmompapcekaaW.PrintWords Go.Proofs.Ytkbfmompapcekaa.PK
set_option linter.unusedVariables false
set_option linter.unusedSimpArgs false
theorem laws_sameRecs.rel_l (k : Nat) : (∀ x0 x1 x5 r, PK.laws_sameRecs.l0 k x0 x1 x5 = some r → ∀ m, k ≤ m → laws_sameRecs.c4 m x0 x1 x5 = some r) := by
  induction k using Nat.strongRecOn with
  | _ k ih =>
  have il0 := fun k' hk' => (ih k' hk')
  clear ih
  intro x0 x1 x5 r h m hm
  cases k with
  | zero => simp only [PK.laws_sameRecs.l0] at h; cases h
  | succ k =>
    obtain ⟨m, rfl⟩ : ∃ m', m = m' + 1 := ⟨m - 1, by omega⟩
    rw [PK.laws_sameRecs.l0] at h
    rw [laws_sameRecs.c4]
    try simp only [w64_eq, wu8_eq, gt_iff_lt, ge_iff_le, int_beq, fdiv33, fdiv45, bt_eq, tmodN, rdOfB] at h
    try simp only [shlR]
    try simp only [w64_eq, wu8_eq, gt_iff_lt, ge_iff_le, int_beq, fdiv33, fdiv45, bt_eq, tmodN, rdOfB, rdT3_eq, rdT5_eq, seq, maxI, minI, emp_eq, rdn3, rdn5, rdn48, rdn33, rdn9, rdn36, rdn40]
    refine (itE h (fun q h => (itE h (fun q h => (itE h (fun q h => (itE h (fun q h => ?_) (fun q h => ((fun h => ?_) (il0 _ (by omega) _ _ _ _ h m (by omega)))))) (fun q h => (noE h)))) (fun q h => (noE h)))) (fun q h => ?_))
    all_goals clear il0
    all_goals (try cases h)
    all_goals (try simp only [*, if_true, if_false, ↓reduceIte, Option.bind_some, List.length_cons, List.length_nil, List.length_append, Bool.not_true, Bool.not_false, Bool.true_eq_false, Bool.false_eq_true])
    all_goals (repeat first | rw [if_pos (by omega)] | rw [if_neg (by omega)])
    all_goals first | exact h | exact h _ | exact h _ _ | exact h _ _ _ | exact h _ _ _ _ | exact h _ _ _ _ _ | exact h _ _ _ _ _ _ | exact h _ _ _ _ _ _ _ | exact h _ _ _ _ _ _ _ _ | rfl | (simp_all [-Bool.forall_bool]; done) | (simp_all [-Bool.forall_bool]; first | exact h | exact h _ | exact h _ _ | exact h _ _ _ | exact h _ _ _ _ | exact h _ _ _ _ _ | exact h _ _ _ _ _ _ | exact h _ _ _ _ _ _ _ | exact h _ _ _ _ _ _ _ _) | (simp_all [-Bool.forall_bool, emp_eq, int_beq]; done) | (simp_all [-Bool.forall_bool]; (intros; simp_all; done)) | (simp_all [-Bool.forall_bool, rdset3, rdset5, rdset48, rdset33, rdset9, rdset36, rdset40]; done) | grind
theorem laws_sameRecs.rel (k : Nat) (l0 : List (S48)) (l1 : List (S48)) (r) (h : PK.laws_sameRecs.f k l0 l1 = some r) (m : Nat) (hm : k ≤ m) : laws_sameRecs.f m l0 l1 = some r := by
  have il0 := fun k' (_ : k' < k + 1) => (laws_sameRecs.rel_l k')
  rw [PK.laws_sameRecs.f] at h
  rw [laws_sameRecs.f]
  try simp only [w64_eq, wu8_eq, gt_iff_lt, ge_iff_le, int_beq, fdiv33, fdiv45, bt_eq, tmodN, rdOfB] at h
  try simp only [shlR]
  try simp only [w64_eq, wu8_eq, gt_iff_lt, ge_iff_le, int_beq, fdiv33, fdiv45, bt_eq, tmodN, rdOfB, rdT3_eq, rdT5_eq, seq, maxI, minI, emp_eq, rdn3, rdn5, rdn48, rdn33, rdn9, rdn36, rdn40]
  refine (itE h (fun q h => ((fun h => ?_) (il0 _ (by omega) _ _ _ _ h m (by omega)))) (fun q h => ?_))
  all_goals clear il0
  all_goals (try cases h)
  all_goals (try simp only [*, if_true, if_false, ↓reduceIte, Option.bind_some, List.length_cons, List.length_nil, List.length_append, Bool.not_true, Bool.not_false, Bool.true_eq_false, Bool.false_eq_true])
  all_goals (repeat first | rw [if_pos (by omega)] | rw [if_neg (by omega)])
  all_goals first | exact h | exact h _ | exact h _ _ | exact h _ _ _ | exact h _ _ _ _ | exact h _ _ _ _ _ | exact h _ _ _ _ _ _ | exact h _ _ _ _ _ _ _ | exact h _ _ _ _ _ _ _ _ | rfl | (simp_all [-Bool.forall_bool]; done) | (simp_all [-Bool.forall_bool]; first | exact h | exact h _ | exact h _ _ | exact h _ _ _ | exact h _ _ _ _ | exact h _ _ _ _ _ | exact h _ _ _ _ _ _ | exact h _ _ _ _ _ _ _ | exact h _ _ _ _ _ _ _ _) | (simp_all [-Bool.forall_bool, emp_eq, int_beq]; done) | (simp_all [-Bool.forall_bool]; (intros; simp_all; done)) | (simp_all [-Bool.forall_bool, rdset3, rdset5, rdset48, rdset33, rdset9, rdset36, rdset40]; done) | grind

theorem impl_hasInt.rel_l (k : Nat) : (∀ x1 x7 x8 x9 r, PK.impl_hasInt.l0 k x1 x7 x8 x9 = some r → ∀ m, k ≤ m → impl_hasInt.c2 m x1 x7 x8 x9 = some r) := by
  induction k using Nat.strongRecOn with
  | _ k ih =>
  have il0 := fun k' hk' => (ih k' hk')
  clear ih
  intro x1 x7 x8 x9 r h m hm
  cases k with
  | zero => simp only [PK.impl_hasInt.l0] at h; cases h
  | succ k =>
    obtain ⟨m, rfl⟩ : ∃ m', m = m' + 1 := ⟨m - 1, by omega⟩
    rw [PK.impl_hasInt.l0] at h
    rw [impl_hasInt.c2]
    try simp only [w64_eq, wu8_eq, gt_iff_lt, ge_iff_le, int_beq, fdiv33, fdiv45, bt_eq, tmodN, rdOfB] at h
    try simp only [shlR]
    try simp only [w64_eq, wu8_eq, gt_iff_lt, ge_iff_le, int_beq, fdiv33, fdiv45, bt_eq, tmodN, rdOfB, rdT3_eq, rdT5_eq, seq, maxI, minI, emp_eq, rdn3, rdn5, rdn48, rdn33, rdn9, rdn36, rdn40]
    refine (itE h (fun q h => (itE h (fun q h => (itE h (fun q h => (itE h (fun q h => ?_) (fun q h => ((fun h => ?_) (il0 _ (by omega) _ _ _ _ _ h m (by omega)))))) (fun q h => (noE h)))) (fun q h => (noE h)))) (fun q h => ?_))
    all_goals clear il0
    all_goals (try cases h)
    all_goals (try simp only [*, if_true, if_false, ↓reduceIte, Option.bind_some, List.length_cons, List.length_nil, List.length_append, Bool.not_true, Bool.not_false, Bool.true_eq_false, Bool.false_eq_true])
    all_goals (repeat first | rw [if_pos (by omega)] | rw [if_neg (by omega)])
    all_goals first | exact h | exact h _ | exact h _ _ | exact h _ _ _ | exact h _ _ _ _ | exact h _ _ _ _ _ | exact h _ _ _ _ _ _ | exact h _ _ _ _ _ _ _ | exact h _ _ _ _ _ _ _ _ | rfl | (simp_all [-Bool.forall_bool]; done) | (simp_all [-Bool.forall_bool]; first | exact h | exact h _ | exact h _ _ | exact h _ _ _ | exact h _ _ _ _ | exact h _ _ _ _ _ | exact h _ _ _ _ _ _ | exact h _ _ _ _ _ _ _ | exact h _ _ _ _ _ _ _ _) | (simp_all [-Bool.forall_bool, emp_eq, int_beq]; done) | (simp_all [-Bool.forall_bool]; (intros; simp_all; done)) | (simp_all [-Bool.forall_bool, rdset3, rdset5, rdset48, rdset33, rdset9, rdset36, rdset40]; done) | grind
theorem impl_hasInt.rel (k : Nat) (l0 : List Int) (a1 : Int) (r) (h : PK.impl_hasInt.f k l0 a1 = some r) (m : Nat) (hm : k ≤ m) : impl_hasInt.f m l0 a1 = some r := by
  have il0 := fun k' (_ : k' < k + 1) => (impl_hasInt.rel_l k')
  rw [PK.impl_hasInt.f] at h
  rw [impl_hasInt.f]
  try simp only [w64_eq, wu8_eq, gt_iff_lt, ge_iff_le, int_beq, fdiv33, fdiv45, bt_eq, tmodN, rdOfB] at h
  try simp only [shlR]
  try simp only [w64_eq, wu8_eq, gt_iff_lt, ge_iff_le, int_beq, fdiv33, fdiv45, bt_eq, tmodN, rdOfB, rdT3_eq, rdT5_eq, seq, maxI, minI, emp_eq, rdn3, rdn5, rdn48, rdn33, rdn9, rdn36, rdn40]
  refine ((fun h => ?_) (il0 _ (by omega) _ _ _ _ _ h m (by omega)))
  all_goals clear il0
  all_goals (try cases h)
  all_goals (try simp only [*, if_true, if_false, ↓reduceIte, Option.bind_some, List.length_cons, List.length_nil, List.length_append, Bool.not_true, Bool.not_false, Bool.true_eq_false, Bool.false_eq_true])
  all_goals (repeat first | rw [if_pos (by omega)] | rw [if_neg (by omega)])
  all_goals first | exact h | exact h _ | exact h _ _ | exact h _ _ _ | exact h _ _ _ _ | exact h _ _ _ _ _ | exact h _ _ _ _ _ _ | exact h _ _ _ _ _ _ _ | exact h _ _ _ _ _ _ _ _ | rfl | (simp_all [-Bool.forall_bool]; done) | (simp_all [-Bool.forall_bool]; first | exact h | exact h _ | exact h _ _ | exact h _ _ _ | exact h _ _ _ _ | exact h _ _ _ _ _ | exact h _ _ _ _ _ _ | exact h _ _ _ _ _ _ _ | exact h _ _ _ _ _ _ _ _) | (simp_all [-Bool.forall_bool, emp_eq, int_beq]; done) | (simp_all [-Bool.forall_bool]; (intros; simp_all; done)) | (simp_all [-Bool.forall_bool, rdset3, rdset5, rdset48, rdset33, rdset9, rdset36, rdset40]; done) | grind
end Go.Proofs.Ytkbfmompapcekaa.M2

/- What the print's plain functions answer, the own ones answer. Written by a program of this session. -/
namespace Go.Proofs.Ytkbfmompapcekaa.M2
open Go Go.RowKit Go.Proofs.YtkbfmompapcekaaW.PrintWords Go.Proofs.Ytkbfmompapcekaa.PK
set_option linter.unusedVariables false
set_option linter.unusedSimpArgs false
theorem impl_in.rel (k : Nat) (a0 : Int) (a1 : Int) (a2 : Int) (r) (h : PK.impl_in.f a0 a1 a2 = some r) (m : Nat) (hm : k ≤ m) : impl_in.f m a0 a1 a2 = some r := by
  rw [PK.impl_in.f] at h
  rw [impl_in.f]
  try simp only [w64_eq, wu8_eq, gt_iff_lt, ge_iff_le, int_beq, fdiv33, fdiv45, bt_eq, tmodN, rdOfB] at h
  try simp only [shlR]
  try simp only [w64_eq, wu8_eq, gt_iff_lt, ge_iff_le, int_beq, fdiv33, fdiv45, bt_eq, tmodN, rdOfB, rdT3_eq, rdT5_eq, seq, maxI, minI, emp_eq, rdn3, rdn5, rdn48, rdn33, rdn9, rdn36, rdn40]
  refine (itE h (fun q h => ?_) (fun q h => ?_))
  all_goals (try cases h)
  all_goals (try simp only [*, if_true, if_false, ↓reduceIte, Option.bind_some, List.length_cons, List.length_nil, List.length_append, Bool.not_true, Bool.not_false, Bool.true_eq_false, Bool.false_eq_true])
  all_goals (repeat first | rw [if_pos (by omega)] | rw [if_neg (by omega)])
  all_goals first | exact h | exact h _ | exact h _ _ | exact h _ _ _ | exact h _ _ _ _ | exact h _ _ _ _ _ | exact h _ _ _ _ _ _ | exact h _ _ _ _ _ _ _ | exact h _ _ _ _ _ _ _ _ | rfl | (simp_all [-Bool.forall_bool]; done) | (simp_all [-Bool.forall_bool]; first | exact h | exact h _ | exact h _ _ | exact h _ _ _ | exact h _ _ _ _ | exact h _ _ _ _ _ | exact h _ _ _ _ _ _ | exact h _ _ _ _ _ _ _ | exact h _ _ _ _ _ _ _ _) | (simp_all [-Bool.forall_bool, emp_eq, int_beq]; done) | (simp_all [-Bool.forall_bool]; (intros; simp_all; done)) | (simp_all [-Bool.forall_bool, rdset3, rdset5, rdset48, rdset33, rdset9, rdset36, rdset40]; done) | grind

theorem impl_RecOk.rel (k : Nat) (a0_0 : Int) (a0_1 : Int) (a0_2 : Int) (a0_3 : Int) (r) (h : PK.impl_RecOk.f k a0_0 a0_1 a0_2 a0_3 = some r) (m : Nat) (hm : k ≤ m) : impl_RecOk.f m a0_0 a0_1 a0_2 a0_3 = some r := by
  rw [PK.impl_RecOk.f] at h
  rw [impl_RecOk.f]
  try simp only [w64_eq, wu8_eq, gt_iff_lt, ge_iff_le, int_beq, fdiv33, fdiv45, bt_eq, tmodN, rdOfB] at h
  try simp only [shlR]
  try simp only [w64_eq, wu8_eq, gt_iff_lt, ge_iff_le, int_beq, fdiv33, fdiv45, bt_eq, tmodN, rdOfB, rdT3_eq, rdT5_eq, seq, maxI, minI, emp_eq, rdn3, rdn5, rdn48, rdn33, rdn9, rdn36, rdn40]
  refine (itE h (fun q h => (itE h (fun q h => (bnE h (fun _ g h => (fun g => (itE h (fun q h => ?_) (fun q h => ?_))) (impl_in.rel m _ _ _ _ g m (by omega))))) (fun q h => ?_))) (fun q h => (bnE h (fun _ g h => (fun g => (itE h (fun q h => (itE h (fun q h => (by cases k with | zero => (simp only [PK.impl_RecOk.j0] at h; cases h) | succ k => (rw [PK.impl_RecOk.j0] at h; (try simp only [w64_eq, wu8_eq, gt_iff_lt, ge_iff_le, int_beq, fdiv33, fdiv45, bt_eq, tmodN, rdOfB] at h); refine (itE h (fun q h => ?_) (fun q h => (itE h (fun q h => (bnE h (fun _ g h => (fun g => ?_) (impl_in.rel m _ _ _ _ g m (by omega))))) (fun q h => (itE h (fun q h => ?_) (fun q h => (itE h (fun q h => (bnE h (fun _ g h => (fun g => (itE h (fun q h => (bnE h (fun _ g h => (fun g => ?_) (impl_in.rel m _ _ _ _ g m (by omega))))) (fun q h => ?_))) (impl_in.rel m _ _ _ _ g m (by omega))))) (fun q h => (itE h (fun q h => (bnE h (fun _ g h => (fun g => ?_) (impl_in.rel m _ _ _ _ g m (by omega))))) (fun q h => ?_)))))))))) <;> ((try cases h); (try simp only [*, if_true, if_false, ↓reduceIte, Option.bind_some, List.length_cons, List.length_nil, List.length_append, Bool.not_true, Bool.not_false, Bool.true_eq_false, Bool.false_eq_true]); all_goals (repeat first | rw [if_pos (by omega)] | rw [if_neg (by omega)]); all_goals (first | exact h | exact h _ | exact h _ _ | exact h _ _ _ | exact h _ _ _ _ | exact h _ _ _ _ _ | exact h _ _ _ _ _ _ | exact h _ _ _ _ _ _ _ | exact h _ _ _ _ _ _ _ _ | rfl | (simp_all [-Bool.forall_bool]; done) | (simp_all [-Bool.forall_bool]; first | exact h | exact h _ | exact h _ _ | exact h _ _ _ | exact h _ _ _ _ | exact h _ _ _ _ _ | exact h _ _ _ _ _ _ | exact h _ _ _ _ _ _ _ | exact h _ _ _ _ _ _ _ _) | (simp_all [-Bool.forall_bool, emp_eq, int_beq]; done) | (simp_all [-Bool.forall_bool]; (intros; simp_all; done)) | (simp_all [-Bool.forall_bool, rdset3, rdset5, rdset48, rdset33, rdset9, rdset36, rdset40]; done) | grind))))) (fun q h => (by cases k with | zero => (simp only [PK.impl_RecOk.j0] at h; cases h) | succ k => (rw [PK.impl_RecOk.j0] at h; (try simp only [w64_eq, wu8_eq, gt_iff_lt, ge_iff_le, int_beq, fdiv33, fdiv45, bt_eq, tmodN, rdOfB] at h); refine (itE h (fun q h => ?_) (fun q h => (itE h (fun q h => (bnE h (fun _ g h => (fun g => ?_) (impl_in.rel m _ _ _ _ g m (by omega))))) (fun q h => (itE h (fun q h => ?_) (fun q h => (itE h (fun q h => (bnE h (fun _ g h => (fun g => (itE h (fun q h => (bnE h (fun _ g h => (fun g => ?_) (impl_in.rel m _ _ _ _ g m (by omega))))) (fun q h => ?_))) (impl_in.rel m _ _ _ _ g m (by omega))))) (fun q h => (itE h (fun q h => (bnE h (fun _ g h => (fun g => ?_) (impl_in.rel m _ _ _ _ g m (by omega))))) (fun q h => ?_)))))))))) <;> ((try cases h); (try simp only [*, if_true, if_false, ↓reduceIte, Option.bind_some, List.length_cons, List.length_nil, List.length_append, Bool.not_true, Bool.not_false, Bool.true_eq_false, Bool.false_eq_true]); all_goals (repeat first | rw [if_pos (by omega)] | rw [if_neg (by omega)]); all_goals (first | exact h | exact h _ | exact h _ _ | exact h _ _ _ | exact h _ _ _ _ | exact h _ _ _ _ _ | exact h _ _ _ _ _ _ | exact h _ _ _ _ _ _ _ | exact h _ _ _ _ _ _ _ _ | rfl | (simp_all [-Bool.forall_bool]; done) | (simp_all [-Bool.forall_bool]; first | exact h | exact h _ | exact h _ _ | exact h _ _ _ | exact h _ _ _ _ | exact h _ _ _ _ _ | exact h _ _ _ _ _ _ | exact h _ _ _ _ _ _ _ | exact h _ _ _ _ _ _ _ _) | (simp_all [-Bool.forall_bool, emp_eq, int_beq]; done) | (simp_all [-Bool.forall_bool]; (intros; simp_all; done)) | (simp_all [-Bool.forall_bool, rdset3, rdset5, rdset48, rdset33, rdset9, rdset36, rdset40]; done) | grind))))))) (fun q h => (by cases k with | zero => (simp only [PK.impl_RecOk.j0] at h; cases h) | succ k => (rw [PK.impl_RecOk.j0] at h; (try simp only [w64_eq, wu8_eq, gt_iff_lt, ge_iff_le, int_beq, fdiv33, fdiv45, bt_eq, tmodN, rdOfB] at h); refine (itE h (fun q h => ?_) (fun q h => (itE h (fun q h => (bnE h (fun _ g h => (fun g => ?_) (impl_in.rel m _ _ _ _ g m (by omega))))) (fun q h => (itE h (fun q h => ?_) (fun q h => (itE h (fun q h => (bnE h (fun _ g h => (fun g => (itE h (fun q h => (bnE h (fun _ g h => (fun g => ?_) (impl_in.rel m _ _ _ _ g m (by omega))))) (fun q h => ?_))) (impl_in.rel m _ _ _ _ g m (by omega))))) (fun q h => (itE h (fun q h => (bnE h (fun _ g h => (fun g => ?_) (impl_in.rel m _ _ _ _ g m (by omega))))) (fun q h => ?_)))))))))) <;> ((try cases h); (try simp only [*, if_true, if_false, ↓reduceIte, Option.bind_some, List.length_cons, List.length_nil, List.length_append, Bool.not_true, Bool.not_false, Bool.true_eq_false, Bool.false_eq_true]); all_goals (repeat first | rw [if_pos (by omega)] | rw [if_neg (by omega)]); all_goals (first | exact h | exact h _ | exact h _ _ | exact h _ _ _ | exact h _ _ _ _ | exact h _ _ _ _ _ | exact h _ _ _ _ _ _ | exact h _ _ _ _ _ _ _ | exact h _ _ _ _ _ _ _ _ | rfl | (simp_all [-Bool.forall_bool]; done) | (simp_all [-Bool.forall_bool]; first | exact h | exact h _ | exact h _ _ | exact h _ _ _ | exact h _ _ _ _ | exact h _ _ _ _ _ | exact h _ _ _ _ _ _ | exact h _ _ _ _ _ _ _ | exact h _ _ _ _ _ _ _ _) | (simp_all [-Bool.forall_bool, emp_eq, int_beq]; done) | (simp_all [-Bool.forall_bool]; (intros; simp_all; done)) | (simp_all [-Bool.forall_bool, rdset3, rdset5, rdset48, rdset33, rdset9, rdset36, rdset40]; done) | grind))))))) (impl_in.rel m _ _ _ _ g m (by omega))))))
  all_goals (try cases h)
  all_goals (try simp only [*, if_true, if_false, ↓reduceIte, Option.bind_some, List.length_cons, List.length_nil, List.length_append, Bool.not_true, Bool.not_false, Bool.true_eq_false, Bool.false_eq_true])
  all_goals (repeat first | rw [if_pos (by omega)] | rw [if_neg (by omega)])
  all_goals first | exact h | exact h _ | exact h _ _ | exact h _ _ _ | exact h _ _ _ _ | exact h _ _ _ _ _ | exact h _ _ _ _ _ _ | exact h _ _ _ _ _ _ _ | exact h _ _ _ _ _ _ _ _ | rfl | (simp_all [-Bool.forall_bool]; done) | (simp_all [-Bool.forall_bool]; first | exact h | exact h _ | exact h _ _ | exact h _ _ _ | exact h _ _ _ _ | exact h _ _ _ _ _ | exact h _ _ _ _ _ _ | exact h _ _ _ _ _ _ _ | exact h _ _ _ _ _ _ _ _) | (simp_all [-Bool.forall_bool, emp_eq, int_beq]; done) | (simp_all [-Bool.forall_bool]; (intros; simp_all; done)) | (simp_all [-Bool.forall_bool, rdset3, rdset5, rdset48, rdset33, rdset9, rdset36, rdset40]; done) | grind
end Go.Proofs.Ytkbfmompapcekaa.M2

/- What the print's plain functions answer, the own ones answer. Written by a program of this session. -/
namespace Go.Proofs.Ytkbfmompapcekaa.M2
open Go Go.RowKit Go.Proofs.YtkbfmompapcekaaW.PrintWords Go.Proofs.Ytkbfmompapcekaa.PK
set_option linter.unusedVariables false
set_option linter.unusedSimpArgs false
theorem impl_metaOf.rel_l (k : Nat) : (∀ x1 x2 x3 x13 x14 x15 r, PK.impl_metaOf.l0 k x1 x2 x3 x13 x14 x15 = some r → ∀ m, k ≤ m → ∀ (h64_0 : Int), ∀ (h64_1 : Int), ∀ (h64_2 : Int), ∀ (h64_3 : Int), ∀ (h64_4 : Int), ∀ (h64_5 : ByteArray), impl_metaOf.c2 m x1 x2 x3 x13 x14 x15 h64_0 h64_1 h64_2 h64_3 h64_4 h64_5 = some (r.1, r.2.1, r.2.2.1, r.2.2.2.1, r.2.2.2.2.1, r.2.2.2.2.2.1, r.2.2.2.2.2.2)) := by
  induction k using Nat.strongRecOn with
  | _ k ih =>
  have il0 := fun k' hk' => (ih k' hk')
  clear ih
  intro x1 x2 x3 x13 x14 x15 r h m hm h64_0 h64_1 h64_2 h64_3 h64_4 h64_5
  cases k with
  | zero => simp only [PK.impl_metaOf.l0] at h; cases h
  | succ k =>
    obtain ⟨m, rfl⟩ : ∃ m', m = m' + 1 := ⟨m - 1, by omega⟩
    rw [PK.impl_metaOf.l0] at h
    rw [impl_metaOf.c2]
    try simp only [w64_eq, wu8_eq, gt_iff_lt, ge_iff_le, int_beq, fdiv33, fdiv45, bt_eq, tmodN, rdOfB] at h
    try simp only [shlR]
    try simp only [w64_eq, wu8_eq, gt_iff_lt, ge_iff_le, int_beq, fdiv33, fdiv45, bt_eq, tmodN, rdOfB, rdT3_eq, rdT5_eq, seq, maxI, minI, emp_eq, rdn3, rdn5, rdn48, rdn33, rdn9, rdn36, rdn40]
    refine (itE h (fun q h => (itE h (fun q h => (itE h (fun q h => (itE h (fun q h => (itE h (fun q h => (itE h (fun q h => (itE h (fun q h => ?_) (fun q h => (itE h (fun q h => ?_) (fun q h => ((fun h => ?_) (il0 _ (by omega) _ _ _ _ _ _ _ h m (by omega)))))))) (fun q h => ((fun h => ?_) (il0 _ (by omega) _ _ _ _ _ _ _ h m (by omega)))))) (fun q h => ((fun h => ?_) (il0 _ (by omega) _ _ _ _ _ _ _ h m (by omega)))))) (fun q h => ((fun h => ?_) (il0 _ (by omega) _ _ _ _ _ _ _ h m (by omega)))))) (fun q h => (noE h)))) (fun q h => (noE h)))) (fun q h => ?_))
    all_goals clear il0
    all_goals (try cases h)
    all_goals (try simp only [*, if_true, if_false, ↓reduceIte, Option.bind_some, List.length_cons, List.length_nil, List.length_append, Bool.not_true, Bool.not_false, Bool.true_eq_false, Bool.false_eq_true])
    all_goals (repeat first | rw [if_pos (by omega)] | rw [if_neg (by omega)])
    all_goals first | exact h | exact h _ | exact h _ _ | exact h _ _ _ | exact h _ _ _ _ | exact h _ _ _ _ _ | exact h _ _ _ _ _ _ | exact h _ _ _ _ _ _ _ | exact h _ _ _ _ _ _ _ _ | rfl | (simp_all [-Bool.forall_bool]; done) | (simp_all [-Bool.forall_bool]; first | exact h | exact h _ | exact h _ _ | exact h _ _ _ | exact h _ _ _ _ | exact h _ _ _ _ _ | exact h _ _ _ _ _ _ | exact h _ _ _ _ _ _ _ | exact h _ _ _ _ _ _ _ _) | (simp_all [-Bool.forall_bool, emp_eq, int_beq]; done) | (simp_all [-Bool.forall_bool]; (intros; simp_all; done)) | (simp_all [-Bool.forall_bool, rdset3, rdset5, rdset48, rdset33, rdset9, rdset36, rdset40]; done) | grind
theorem impl_metaOf.rel (k : Nat) (l0 : List (S36)) (a1 : Int) (a2 : Int) (a3 : Int) (r) (h : PK.impl_metaOf.f k l0 a1 a2 a3 = some r) (m : Nat) (hm : k ≤ m) : impl_metaOf.f m l0 a1 a2 a3 = some (r.1, r.2.1, r.2.2.1, r.2.2.2.1, r.2.2.2.2.1, r.2.2.2.2.2.1, r.2.2.2.2.2.2) := by
  have il0 := fun k' (_ : k' < k + 1) => (impl_metaOf.rel_l k')
  rw [PK.impl_metaOf.f] at h
  rw [impl_metaOf.f]
  try simp only [w64_eq, wu8_eq, gt_iff_lt, ge_iff_le, int_beq, fdiv33, fdiv45, bt_eq, tmodN, rdOfB] at h
  try simp only [shlR]
  try simp only [w64_eq, wu8_eq, gt_iff_lt, ge_iff_le, int_beq, fdiv33, fdiv45, bt_eq, tmodN, rdOfB, rdT3_eq, rdT5_eq, seq, maxI, minI, emp_eq, rdn3, rdn5, rdn48, rdn33, rdn9, rdn36, rdn40]
  refine ((fun h => ?_) (il0 _ (by omega) _ _ _ _ _ _ _ h m (by omega)))
  all_goals clear il0
  all_goals (try cases h)
  all_goals (try simp only [*, if_true, if_false, ↓reduceIte, Option.bind_some, List.length_cons, List.length_nil, List.length_append, Bool.not_true, Bool.not_false, Bool.true_eq_false, Bool.false_eq_true])
  all_goals (repeat first | rw [if_pos (by omega)] | rw [if_neg (by omega)])
  all_goals first | exact h | exact h _ | exact h _ _ | exact h _ _ _ | exact h _ _ _ _ | exact h _ _ _ _ _ | exact h _ _ _ _ _ _ | exact h _ _ _ _ _ _ _ | exact h _ _ _ _ _ _ _ _ | rfl | (simp_all [-Bool.forall_bool]; done) | (simp_all [-Bool.forall_bool]; first | exact h | exact h _ | exact h _ _ | exact h _ _ _ | exact h _ _ _ _ | exact h _ _ _ _ _ | exact h _ _ _ _ _ _ | exact h _ _ _ _ _ _ _ | exact h _ _ _ _ _ _ _ _) | (simp_all [-Bool.forall_bool, emp_eq, int_beq]; done) | (simp_all [-Bool.forall_bool]; (intros; simp_all; done)) | (simp_all [-Bool.forall_bool, rdset3, rdset5, rdset48, rdset33, rdset9, rdset36, rdset40]; done) | grind

theorem impl_ReadVar.rel_l (k : Nat) : (∀ x0 x1 x7 x8 r, PK.impl_ReadVar.l0 k x0 x1 x7 x8 = some r → ∀ m, k ≤ m → impl_ReadVar.c3 m x0 x1 x7 x8 = some (r.1, r.2.1, r.2.2)) := by
  induction k using Nat.strongRecOn with
  | _ k ih =>
  have il0 := fun k' hk' => (ih k' hk')
  clear ih
  intro x0 x1 x7 x8 r h m hm
  cases k with
  | zero => simp only [PK.impl_ReadVar.l0] at h; cases h
  | succ k =>
    obtain ⟨m, rfl⟩ : ∃ m', m = m' + 1 := ⟨m - 1, by omega⟩
    rw [PK.impl_ReadVar.l0] at h
    rw [impl_ReadVar.c3]
    try simp only [w64_eq, wu8_eq, gt_iff_lt, ge_iff_le, int_beq, fdiv33, fdiv45, bt_eq, tmodN, rdOfB] at h
    try simp only [shlR]
    try simp only [w64_eq, wu8_eq, gt_iff_lt, ge_iff_le, int_beq, fdiv33, fdiv45, bt_eq, tmodN, rdOfB, rdT3_eq, rdT5_eq, seq, maxI, minI, emp_eq, rdn3, rdn5, rdn48, rdn33, rdn9, rdn36, rdn40]
    refine (itE h (fun q h => (itE h (fun q h => (by cases k with | zero => (simp only [PK.impl_ReadVar.j1] at h; cases h) | succ k => (rw [PK.impl_ReadVar.j1] at h; (try simp only [w64_eq, wu8_eq, gt_iff_lt, ge_iff_le, int_beq, fdiv33, fdiv45, bt_eq, tmodN, rdOfB] at h); refine (itE h (fun q h => (itE h (fun q h => (itE h (fun q h => (itE h (fun q h => (itE h (fun q h => ((fun h => ?_) (il0 _ (by omega) _ _ _ _ _ h m (by omega)))) (fun q h => (itE h (fun q h => (itE h (fun q h => ?_) (fun q h => (itE h (fun q h => ?_) (fun q h => ?_))))) (fun q h => (itE h (fun q h => ?_) (fun q h => ?_))))))) (fun q h => (noE h)))) (fun q h => (noE h)))) (fun q h => (noE h)))) (fun q h => ?_)) <;> ((try cases h); (try simp only [*, if_true, if_false, ↓reduceIte, Option.bind_some, List.length_cons, List.length_nil, List.length_append, Bool.not_true, Bool.not_false, Bool.true_eq_false, Bool.false_eq_true]); all_goals (repeat first | rw [if_pos (by omega)] | rw [if_neg (by omega)]); all_goals (first | exact h | exact h _ | exact h _ _ | exact h _ _ _ | exact h _ _ _ _ | exact h _ _ _ _ _ | exact h _ _ _ _ _ _ | exact h _ _ _ _ _ _ _ | exact h _ _ _ _ _ _ _ _ | rfl | (simp_all [-Bool.forall_bool]; done) | (simp_all [-Bool.forall_bool]; first | exact h | exact h _ | exact h _ _ | exact h _ _ _ | exact h _ _ _ _ | exact h _ _ _ _ _ | exact h _ _ _ _ _ _ | exact h _ _ _ _ _ _ _ | exact h _ _ _ _ _ _ _ _) | (simp_all [-Bool.forall_bool, emp_eq, int_beq]; done) | (simp_all [-Bool.forall_bool]; (intros; simp_all; done)) | (simp_all [-Bool.forall_bool, rdset3, rdset5, rdset48, rdset33, rdset9, rdset36, rdset40]; done) | grind))))) (fun q h => (by cases k with | zero => (simp only [PK.impl_ReadVar.j1] at h; cases h) | succ k => (rw [PK.impl_ReadVar.j1] at h; (try simp only [w64_eq, wu8_eq, gt_iff_lt, ge_iff_le, int_beq, fdiv33, fdiv45, bt_eq, tmodN, rdOfB] at h); refine (itE h (fun q h => (itE h (fun q h => (itE h (fun q h => (itE h (fun q h => (itE h (fun q h => ((fun h => ?_) (il0 _ (by omega) _ _ _ _ _ h m (by omega)))) (fun q h => (itE h (fun q h => (itE h (fun q h => ?_) (fun q h => (itE h (fun q h => ?_) (fun q h => ?_))))) (fun q h => (itE h (fun q h => ?_) (fun q h => ?_))))))) (fun q h => (noE h)))) (fun q h => (noE h)))) (fun q h => (noE h)))) (fun q h => ?_)) <;> ((try cases h); (try simp only [*, if_true, if_false, ↓reduceIte, Option.bind_some, List.length_cons, List.length_nil, List.length_append, Bool.not_true, Bool.not_false, Bool.true_eq_false, Bool.false_eq_true]); all_goals (repeat first | rw [if_pos (by omega)] | rw [if_neg (by omega)]); all_goals (first | exact h | exact h _ | exact h _ _ | exact h _ _ _ | exact h _ _ _ _ | exact h _ _ _ _ _ | exact h _ _ _ _ _ _ | exact h _ _ _ _ _ _ _ | exact h _ _ _ _ _ _ _ _ | rfl | (simp_all [-Bool.forall_bool]; done) | (simp_all [-Bool.forall_bool]; first | exact h | exact h _ | exact h _ _ | exact h _ _ _ | exact h _ _ _ _ | exact h _ _ _ _ _ | exact h _ _ _ _ _ _ | exact h _ _ _ _ _ _ _ | exact h _ _ _ _ _ _ _ _) | (simp_all [-Bool.forall_bool, emp_eq, int_beq]; done) | (simp_all [-Bool.forall_bool]; (intros; simp_all; done)) | (simp_all [-Bool.forall_bool, rdset3, rdset5, rdset48, rdset33, rdset9, rdset36, rdset40]; done) | grind))))))) (fun q h => (by cases k with | zero => (simp only [PK.impl_ReadVar.j1] at h; cases h) | succ k => (rw [PK.impl_ReadVar.j1] at h; (try simp only [w64_eq, wu8_eq, gt_iff_lt, ge_iff_le, int_beq, fdiv33, fdiv45, bt_eq, tmodN, rdOfB] at h); refine (itE h (fun q h => (itE h (fun q h => (itE h (fun q h => (itE h (fun q h => (itE h (fun q h => ((fun h => ?_) (il0 _ (by omega) _ _ _ _ _ h m (by omega)))) (fun q h => (itE h (fun q h => (itE h (fun q h => ?_) (fun q h => (itE h (fun q h => ?_) (fun q h => ?_))))) (fun q h => (itE h (fun q h => ?_) (fun q h => ?_))))))) (fun q h => (noE h)))) (fun q h => (noE h)))) (fun q h => (noE h)))) (fun q h => ?_)) <;> ((try cases h); (try simp only [*, if_true, if_false, ↓reduceIte, Option.bind_some, List.length_cons, List.length_nil, List.length_append, Bool.not_true, Bool.not_false, Bool.true_eq_false, Bool.false_eq_true]); all_goals (repeat first | rw [if_pos (by omega)] | rw [if_neg (by omega)]); all_goals (first | exact h | exact h _ | exact h _ _ | exact h _ _ _ | exact h _ _ _ _ | exact h _ _ _ _ _ | exact h _ _ _ _ _ _ | exact h _ _ _ _ _ _ _ | exact h _ _ _ _ _ _ _ _ | rfl | (simp_all [-Bool.forall_bool]; done) | (simp_all [-Bool.forall_bool]; first | exact h | exact h _ | exact h _ _ | exact h _ _ _ | exact h _ _ _ _ | exact h _ _ _ _ _ | exact h _ _ _ _ _ _ | exact h _ _ _ _ _ _ _ | exact h _ _ _ _ _ _ _ _) | (simp_all [-Bool.forall_bool, emp_eq, int_beq]; done) | (simp_all [-Bool.forall_bool]; (intros; simp_all; done)) | (simp_all [-Bool.forall_bool, rdset3, rdset5, rdset48, rdset33, rdset9, rdset36, rdset40]; done) | grind))))))
    all_goals clear il0
    all_goals (try cases h)
    all_goals (try simp only [*, if_true, if_false, ↓reduceIte, Option.bind_some, List.length_cons, List.length_nil, List.length_append, Bool.not_true, Bool.not_false, Bool.true_eq_false, Bool.false_eq_true])
    all_goals (repeat first | rw [if_pos (by omega)] | rw [if_neg (by omega)])
    all_goals first | exact h | exact h _ | exact h _ _ | exact h _ _ _ | exact h _ _ _ _ | exact h _ _ _ _ _ | exact h _ _ _ _ _ _ | exact h _ _ _ _ _ _ _ | exact h _ _ _ _ _ _ _ _ | rfl | (simp_all [-Bool.forall_bool]; done) | (simp_all [-Bool.forall_bool]; first | exact h | exact h _ | exact h _ _ | exact h _ _ _ | exact h _ _ _ _ | exact h _ _ _ _ _ | exact h _ _ _ _ _ _ | exact h _ _ _ _ _ _ _ | exact h _ _ _ _ _ _ _ _) | (simp_all [-Bool.forall_bool, emp_eq, int_beq]; done) | (simp_all [-Bool.forall_bool]; (intros; simp_all; done)) | (simp_all [-Bool.forall_bool, rdset3, rdset5, rdset48, rdset33, rdset9, rdset36, rdset40]; done) | grind
theorem impl_ReadVar.rel (k : Nat) (a0 : ByteArray) (a1 : Int) (r) (h : PK.impl_ReadVar.f k a0 a1 = some r) (m : Nat) (hm : k ≤ m) : impl_ReadVar.f m a0 a1 = some (r.1, r.2.1, r.2.2) := by
  have il0 := fun k' (_ : k' < k + 1) => (impl_ReadVar.rel_l k')
  rw [PK.impl_ReadVar.f] at h
  rw [impl_ReadVar.f]
  try simp only [w64_eq, wu8_eq, gt_iff_lt, ge_iff_le, int_beq, fdiv33, fdiv45, bt_eq, tmodN, rdOfB] at h
  try simp only [shlR]
  try simp only [w64_eq, wu8_eq, gt_iff_lt, ge_iff_le, int_beq, fdiv33, fdiv45, bt_eq, tmodN, rdOfB, rdT3_eq, rdT5_eq, seq, maxI, minI, emp_eq, rdn3, rdn5, rdn48, rdn33, rdn9, rdn36, rdn40]
  refine ((fun h => ?_) (il0 _ (by omega) _ _ _ _ _ h m (by omega)))
  all_goals clear il0
  all_goals (try cases h)
  all_goals (try simp only [*, if_true, if_false, ↓reduceIte, Option.bind_some, List.length_cons, List.length_nil, List.length_append, Bool.not_true, Bool.not_false, Bool.true_eq_false, Bool.false_eq_true])
  all_goals (repeat first | rw [if_pos (by omega)] | rw [if_neg (by omega)])
  all_goals first | exact h | exact h _ | exact h _ _ | exact h _ _ _ | exact h _ _ _ _ | exact h _ _ _ _ _ | exact h _ _ _ _ _ _ | exact h _ _ _ _ _ _ _ | exact h _ _ _ _ _ _ _ _ | rfl | (simp_all [-Bool.forall_bool]; done) | (simp_all [-Bool.forall_bool]; first | exact h | exact h _ | exact h _ _ | exact h _ _ _ | exact h _ _ _ _ | exact h _ _ _ _ _ | exact h _ _ _ _ _ _ | exact h _ _ _ _ _ _ _ | exact h _ _ _ _ _ _ _ _) | (simp_all [-Bool.forall_bool, emp_eq, int_beq]; done) | (simp_all [-Bool.forall_bool]; (intros; simp_all; done)) | (simp_all [-Bool.forall_bool, rdset3, rdset5, rdset48, rdset33, rdset9, rdset36, rdset40]; done) | grind
end Go.Proofs.Ytkbfmompapcekaa.M2

/- What the print's plain functions answer, the own ones answer. Written by a program of this session. -/
namespace Go.Proofs.Ytkbfmompapcekaa.M2
open Go Go.RowKit Go.Proofs.YtkbfmompapcekaaW.PrintWords Go.Proofs.Ytkbfmompapcekaa.PK
set_option linter.unusedVariables false
set_option linter.unusedSimpArgs false
theorem impl_ReadRecs.rel_l (k : Nat) : (∀ x0 x4 x5 r, PK.impl_ReadRecs.l0 k x0 x4 x5 = some r → ∀ m, k ≤ m → impl_ReadRecs.c3 m x0 x5 x4 = some (r.1, r.2)) := by
  induction k using Nat.strongRecOn with
  | _ k ih =>
  have il0 := fun k' hk' => (ih k' hk')
  clear ih
  intro x0 x4 x5 r h m hm
  cases k with
  | zero => simp only [PK.impl_ReadRecs.l0] at h; cases h
  | succ k =>
    obtain ⟨m, rfl⟩ : ∃ m', m = m' + 1 := ⟨m - 1, by omega⟩
    rw [PK.impl_ReadRecs.l0] at h
    rw [impl_ReadRecs.c3]
    try simp only [w64_eq, wu8_eq, gt_iff_lt, ge_iff_le, int_beq, fdiv33, fdiv45, bt_eq, tmodN, rdOfB] at h
    try simp only [shlR]
    try simp only [w64_eq, wu8_eq, gt_iff_lt, ge_iff_le, int_beq, fdiv33, fdiv45, bt_eq, tmodN, rdOfB, rdT3_eq, rdT5_eq, seq, maxI, minI, emp_eq, rdn3, rdn5, rdn48, rdn33, rdn9, rdn36, rdn40]
    refine (itE h (fun q h => (bnE h (fun _ g h => (fun g => (bnE h (fun _ g h => (fun g => (itE h (fun q h => (itE h (fun q h => (itE h (fun q h => (bnE h (fun _ g h => (fun g => (itE h (fun q h => (itE h (fun q h => ((fun h => ?_) (il0 _ (by omega) _ _ _ _ h m (by omega)))) (fun q h => (noE h)))) (fun q h => ?_))) (impl_RecOk.rel _ _ _ _ _ _ g m (by omega))))) (fun q h => ?_))) (fun q h => ?_))) (fun q h => (noE h)))) (impl_ReadVar.rel _ _ _ _ g m (by omega))))) (impl_ReadVar.rel _ _ _ _ g m (by omega))))) (fun q h => ?_))
    all_goals clear il0
    all_goals (try cases h)
    all_goals (try simp only [*, if_true, if_false, ↓reduceIte, Option.bind_some, List.length_cons, List.length_nil, List.length_append, Bool.not_true, Bool.not_false, Bool.true_eq_false, Bool.false_eq_true])
    all_goals (repeat first | rw [if_pos (by omega)] | rw [if_neg (by omega)])
    all_goals first | exact h | exact h _ | exact h _ _ | exact h _ _ _ | exact h _ _ _ _ | exact h _ _ _ _ _ | exact h _ _ _ _ _ _ | exact h _ _ _ _ _ _ _ | exact h _ _ _ _ _ _ _ _ | rfl | (simp_all [-Bool.forall_bool]; done) | (simp_all [-Bool.forall_bool]; first | exact h | exact h _ | exact h _ _ | exact h _ _ _ | exact h _ _ _ _ | exact h _ _ _ _ _ | exact h _ _ _ _ _ _ | exact h _ _ _ _ _ _ _ | exact h _ _ _ _ _ _ _ _) | (simp_all [-Bool.forall_bool, emp_eq, int_beq]; done) | (simp_all [-Bool.forall_bool]; (intros; simp_all; done)) | (simp_all [-Bool.forall_bool, rdset3, rdset5, rdset48, rdset33, rdset9, rdset36, rdset40]; done) | grind
theorem impl_ReadRecs.rel (k : Nat) (a0 : ByteArray) (r) (h : PK.impl_ReadRecs.f k a0 = some r) (m : Nat) (hm : k ≤ m) : impl_ReadRecs.f m a0 = some (r.1, r.2) := by
  have il0 := fun k' (_ : k' < k + 1) => (impl_ReadRecs.rel_l k')
  rw [PK.impl_ReadRecs.f] at h
  rw [impl_ReadRecs.f]
  try simp only [w64_eq, wu8_eq, gt_iff_lt, ge_iff_le, int_beq, fdiv33, fdiv45, bt_eq, tmodN, rdOfB] at h
  try simp only [shlR]
  try simp only [w64_eq, wu8_eq, gt_iff_lt, ge_iff_le, int_beq, fdiv33, fdiv45, bt_eq, tmodN, rdOfB, rdT3_eq, rdT5_eq, seq, maxI, minI, emp_eq, rdn3, rdn5, rdn48, rdn33, rdn9, rdn36, rdn40]
  refine ((fun h => ?_) (il0 _ (by omega) _ _ _ _ h m (by omega)))
  all_goals clear il0
  all_goals (try cases h)
  all_goals (try simp only [*, if_true, if_false, ↓reduceIte, Option.bind_some, List.length_cons, List.length_nil, List.length_append, Bool.not_true, Bool.not_false, Bool.true_eq_false, Bool.false_eq_true])
  all_goals (repeat first | rw [if_pos (by omega)] | rw [if_neg (by omega)])
  all_goals first | exact h | exact h _ | exact h _ _ | exact h _ _ _ | exact h _ _ _ _ | exact h _ _ _ _ _ | exact h _ _ _ _ _ _ | exact h _ _ _ _ _ _ _ | exact h _ _ _ _ _ _ _ _ | rfl | (simp_all [-Bool.forall_bool]; done) | (simp_all [-Bool.forall_bool]; first | exact h | exact h _ | exact h _ _ | exact h _ _ _ | exact h _ _ _ _ | exact h _ _ _ _ _ | exact h _ _ _ _ _ _ | exact h _ _ _ _ _ _ _ | exact h _ _ _ _ _ _ _ _) | (simp_all [-Bool.forall_bool, emp_eq, int_beq]; done) | (simp_all [-Bool.forall_bool]; (intros; simp_all; done)) | (simp_all [-Bool.forall_bool, rdset3, rdset5, rdset48, rdset33, rdset9, rdset36, rdset40]; done) | grind

theorem impl_gathered.rel_l (k : Nat) : (∀ x0 x1 x8 x9 x10 x443000 x443001 x443002 x443003 x443004 x443005 r, PK.impl_gathered.l0 k x0 x1 x8 x9 x10 x443000 x443001 x443002 x443003 x443004 x443005 = some r → ∀ m, k ≤ m → ∀ (h65 : List S48), ∀ (h64_0 : Int), ∀ (h64_1 : Int), impl_gathered.c6 m x0 x1 x8 x9 x10 h65 h64_0 h64_1 x443000 x443001 x443002 x443003 x443004 x443005 = some (r.1, r.2.1, r.2.2.1, r.2.2.2)) := by
  induction k using Nat.strongRecOn with
  | _ k ih =>
  have il0 := fun k' hk' => (ih k' hk')
  clear ih
  intro x0 x1 x8 x9 x10 x443000 x443001 x443002 x443003 x443004 x443005 r h m hm h65 h64_0 h64_1
  cases k with
  | zero => simp only [PK.impl_gathered.l0] at h; cases h
  | succ k =>
    obtain ⟨m, rfl⟩ : ∃ m', m = m' + 1 := ⟨m - 1, by omega⟩
    rw [PK.impl_gathered.l0] at h
    rw [impl_gathered.c6]
    try simp only [w64_eq, wu8_eq, gt_iff_lt, ge_iff_le, int_beq, fdiv33, fdiv45, bt_eq, tmodN, rdOfB] at h
    try simp only [shlR]
    try simp only [w64_eq, wu8_eq, gt_iff_lt, ge_iff_le, int_beq, fdiv33, fdiv45, bt_eq, tmodN, rdOfB, rdT3_eq, rdT5_eq, seq, maxI, minI, emp_eq, rdn3, rdn5, rdn48, rdn33, rdn9, rdn36, rdn40]
    refine (itE h (fun q h => (bnE h (fun _ g h => (fun g => (itE h (fun q h => (itE h (fun q h => ((fun h => ?_) (il0 _ (by omega) _ _ _ _ _ _ _ _ _ _ _ _ h m (by omega)))) (fun q h => (noE h)))) (fun q h => ?_))) (impl_metaOf.rel _ _ _ _ _ _ g m (by omega))))) (fun q h => (bnE h (fun _ g h => (fun g => ?_) (impl_ReadRecs.rel _ _ _ g m (by omega))))))
    all_goals clear il0
    all_goals (try cases h)
    all_goals (try simp only [*, if_true, if_false, ↓reduceIte, Option.bind_some, List.length_cons, List.length_nil, List.length_append, Bool.not_true, Bool.not_false, Bool.true_eq_false, Bool.false_eq_true])
    all_goals (repeat first | rw [if_pos (by omega)] | rw [if_neg (by omega)])
    all_goals first | exact h | exact h _ | exact h _ _ | exact h _ _ _ | exact h _ _ _ _ | exact h _ _ _ _ _ | exact h _ _ _ _ _ _ | exact h _ _ _ _ _ _ _ | exact h _ _ _ _ _ _ _ _ | rfl | (simp_all [-Bool.forall_bool]; done) | (simp_all [-Bool.forall_bool]; first | exact h | exact h _ | exact h _ _ | exact h _ _ _ | exact h _ _ _ _ | exact h _ _ _ _ _ | exact h _ _ _ _ _ _ | exact h _ _ _ _ _ _ _ | exact h _ _ _ _ _ _ _ _) | (simp_all [-Bool.forall_bool, emp_eq, int_beq]; done) | (simp_all [-Bool.forall_bool]; (intros; simp_all; done)) | (simp_all [-Bool.forall_bool, rdset3, rdset5, rdset48, rdset33, rdset9, rdset36, rdset40]; done) | grind
theorem impl_gathered.rel (k : Nat) (l0 : List (S36)) (a1 : Int) (r) (h : PK.impl_gathered.f k l0 a1 = some r) (m : Nat) (hm : k ≤ m) : impl_gathered.f m l0 a1 = some (r.1, r.2.1, r.2.2.1, r.2.2.2) := by
  have il0 := fun k' (_ : k' < k + 1) => (impl_gathered.rel_l k')
  rw [PK.impl_gathered.f] at h
  rw [impl_gathered.f]
  try simp only [w64_eq, wu8_eq, gt_iff_lt, ge_iff_le, int_beq, fdiv33, fdiv45, bt_eq, tmodN, rdOfB] at h
  try simp only [shlR]
  try simp only [w64_eq, wu8_eq, gt_iff_lt, ge_iff_le, int_beq, fdiv33, fdiv45, bt_eq, tmodN, rdOfB, rdT3_eq, rdT5_eq, seq, maxI, minI, emp_eq, rdn3, rdn5, rdn48, rdn33, rdn9, rdn36, rdn40]
  refine (bnE h (fun _ g h => (fun g => (itE h (fun q h => ((fun h => ?_) (il0 _ (by omega) _ _ _ _ _ _ _ _ _ _ _ _ h m (by omega)))) (fun q h => ?_))) (impl_metaOf.rel _ _ _ _ _ _ g m (by omega))))
  all_goals clear il0
  all_goals (try cases h)
  all_goals (try simp only [*, if_true, if_false, ↓reduceIte, Option.bind_some, List.length_cons, List.length_nil, List.length_append, Bool.not_true, Bool.not_false, Bool.true_eq_false, Bool.false_eq_true])
  all_goals (repeat first | rw [if_pos (by omega)] | rw [if_neg (by omega)])
  all_goals first | exact h | exact h _ | exact h _ _ | exact h _ _ _ | exact h _ _ _ _ | exact h _ _ _ _ _ | exact h _ _ _ _ _ _ | exact h _ _ _ _ _ _ _ | exact h _ _ _ _ _ _ _ _ | rfl | (simp_all [-Bool.forall_bool]; done) | (simp_all [-Bool.forall_bool]; first | exact h | exact h _ | exact h _ _ | exact h _ _ _ | exact h _ _ _ _ | exact h _ _ _ _ _ | exact h _ _ _ _ _ _ | exact h _ _ _ _ _ _ _ | exact h _ _ _ _ _ _ _ _) | (simp_all [-Bool.forall_bool, emp_eq, int_beq]; done) | (simp_all [-Bool.forall_bool]; (intros; simp_all; done)) | (simp_all [-Bool.forall_bool, rdset3, rdset5, rdset48, rdset33, rdset9, rdset36, rdset40]; done) | grind
end Go.Proofs.Ytkbfmompapcekaa.M2

/- What the print's plain functions answer, the own ones answer. Written by a program of this session. -/
namespace Go.Proofs.Ytkbfmompapcekaa.M2
open Go Go.RowKit Go.Proofs.YtkbfmompapcekaaW.PrintWords Go.Proofs.Ytkbfmompapcekaa.PK
set_option linter.unusedVariables false
set_option linter.unusedSimpArgs false
theorem impl_Gather.rel_l (k : Nat) : (∀ x0 x3 x11 x12 x13 r, PK.impl_Gather.l0 k x0 x3 x11 x12 x13 = some r → ∀ m, k ≤ m → impl_Gather.c3 m x0 x11 x12 x13 x3 = some r) ∧ (∀ x0 x6 x38 x39 x40 r, PK.impl_Gather.l1 k x0 x6 x38 x39 x40 = some r → ∀ m, k ≤ m → impl_Gather.c11 m x0 x39 x40 x6 x38 = some r) := by
  induction k using Nat.strongRecOn with
  | _ k ih =>
  have il0 := fun k' hk' => (ih k' hk').1
  have il1 := fun k' hk' => (ih k' hk').2
  clear ih
  refine ⟨?_, ?_⟩
  · intro x0 x3 x11 x12 x13 r h m hm
    cases k with
    | zero => simp only [PK.impl_Gather.l0] at h; cases h
    | succ k =>
      obtain ⟨m, rfl⟩ : ∃ m', m = m' + 1 := ⟨m - 1, by omega⟩
      rw [PK.impl_Gather.l0] at h
      rw [impl_Gather.c3]
      try simp only [w64_eq, wu8_eq, gt_iff_lt, ge_iff_le, int_beq, fdiv33, fdiv45, bt_eq, tmodN, rdOfB] at h
      try simp only [shlR]
      try simp only [w64_eq, wu8_eq, gt_iff_lt, ge_iff_le, int_beq, fdiv33, fdiv45, bt_eq, tmodN, rdOfB, rdT3_eq, rdT5_eq, seq, maxI, minI, emp_eq, rdn3, rdn5, rdn48, rdn33, rdn9, rdn36, rdn40]
      refine (itE h (fun q h => (itE h (fun q h => (itE h (fun q h => (itE h (fun q h => (bnE h (fun _ g h => (fun g => (itE h (fun q h => ((fun h => ?_) (il0 _ (by omega) _ _ _ _ _ _ h m (by omega)))) (fun q h => (itE h (fun q h => ((fun h => ?_) (il0 _ (by omega) _ _ _ _ _ _ h m (by omega)))) (fun q h => (noE h)))))) (impl_hasInt.rel _ _ _ _ g m (by omega))))) (fun q h => ((fun h => ?_) (il0 _ (by omega) _ _ _ _ _ _ h m (by omega)))))) (fun q h => (noE h)))) (fun q h => (noE h)))) (fun q h => (bnE h (fun _ g h => (fun g => (fun eL => ((fun h => ?_) (il1 _ (by omega) _ _ _ _ _ _ h m (by omega)))) (sort_Ints.len g)) (sort_Ints.rel _ _ _ g m (by omega))))))
      all_goals clear il0 il1
      all_goals (try cases h)
      all_goals (try simp only [*, if_true, if_false, ↓reduceIte, Option.bind_some, List.length_cons, List.length_nil, List.length_append, Bool.not_true, Bool.not_false, Bool.true_eq_false, Bool.false_eq_true])
      all_goals (repeat first | rw [if_pos (by omega)] | rw [if_neg (by omega)])
      all_goals first | exact h | exact h _ | exact h _ _ | exact h _ _ _ | exact h _ _ _ _ | exact h _ _ _ _ _ | exact h _ _ _ _ _ _ | exact h _ _ _ _ _ _ _ | exact h _ _ _ _ _ _ _ _ | rfl | (simp_all [-Bool.forall_bool]; done) | (simp_all [-Bool.forall_bool]; first | exact h | exact h _ | exact h _ _ | exact h _ _ _ | exact h _ _ _ _ | exact h _ _ _ _ _ | exact h _ _ _ _ _ _ | exact h _ _ _ _ _ _ _ | exact h _ _ _ _ _ _ _ _) | (simp_all [-Bool.forall_bool, emp_eq, int_beq]; done) | (simp_all [-Bool.forall_bool]; (intros; simp_all; done)) | (simp_all [-Bool.forall_bool, rdset3, rdset5, rdset48, rdset33, rdset9, rdset36, rdset40]; done) | grind
  · intro x0 x6 x38 x39 x40 r h m hm
    cases k with
    | zero => simp only [PK.impl_Gather.l1] at h; cases h
    | succ k =>
      obtain ⟨m, rfl⟩ : ∃ m', m = m' + 1 := ⟨m - 1, by omega⟩
      rw [PK.impl_Gather.l1] at h
      rw [impl_Gather.c11]
      try simp only [w64_eq, wu8_eq, gt_iff_lt, ge_iff_le, int_beq, fdiv33, fdiv45, bt_eq, tmodN, rdOfB] at h
      try simp only [shlR]
      try simp only [w64_eq, wu8_eq, gt_iff_lt, ge_iff_le, int_beq, fdiv33, fdiv45, bt_eq, tmodN, rdOfB, rdT3_eq, rdT5_eq, seq, maxI, minI, emp_eq, rdn3, rdn5, rdn48, rdn33, rdn9, rdn36, rdn40]
      refine (itE h (fun q h => (itE h (fun q h => (itE h (fun q h => (bnE h (fun _ g h => (fun g => (itE h (fun q h => (itE h (fun q h => ((fun h => ?_) (il1 _ (by omega) _ _ _ _ _ _ h m (by omega)))) (fun q h => (noE h)))) (fun q h => ((fun h => ?_) (il1 _ (by omega) _ _ _ _ _ _ h m (by omega)))))) (impl_gathered.rel _ _ _ _ g m (by omega))))) (fun q h => (noE h)))) (fun q h => (noE h)))) (fun q h => ?_))
      all_goals clear il0 il1
      all_goals (try cases h)
      all_goals (try simp only [*, if_true, if_false, ↓reduceIte, Option.bind_some, List.length_cons, List.length_nil, List.length_append, Bool.not_true, Bool.not_false, Bool.true_eq_false, Bool.false_eq_true])
      all_goals (repeat first | rw [if_pos (by omega)] | rw [if_neg (by omega)])
      all_goals first | exact h | exact h _ | exact h _ _ | exact h _ _ _ | exact h _ _ _ _ | exact h _ _ _ _ _ | exact h _ _ _ _ _ _ | exact h _ _ _ _ _ _ _ | exact h _ _ _ _ _ _ _ _ | rfl | (simp_all [-Bool.forall_bool]; done) | (simp_all [-Bool.forall_bool]; first | exact h | exact h _ | exact h _ _ | exact h _ _ _ | exact h _ _ _ _ | exact h _ _ _ _ _ | exact h _ _ _ _ _ _ | exact h _ _ _ _ _ _ _ | exact h _ _ _ _ _ _ _ _) | (simp_all [-Bool.forall_bool, emp_eq, int_beq]; done) | (simp_all [-Bool.forall_bool]; (intros; simp_all; done)) | (simp_all [-Bool.forall_bool, rdset3, rdset5, rdset48, rdset33, rdset9, rdset36, rdset40]; done) | grind
theorem impl_Gather.rel (k : Nat) (l0 : List (S36)) (r) (h : PK.impl_Gather.f k l0 = some r) (m : Nat) (hm : k ≤ m) : impl_Gather.f m l0 = some r := by
  have il0 := fun k' (_ : k' < k + 1) => (impl_Gather.rel_l k').1
  have il1 := fun k' (_ : k' < k + 1) => (impl_Gather.rel_l k').2
  rw [PK.impl_Gather.f] at h
  rw [impl_Gather.f]
  try simp only [w64_eq, wu8_eq, gt_iff_lt, ge_iff_le, int_beq, fdiv33, fdiv45, bt_eq, tmodN, rdOfB] at h
  try simp only [shlR]
  try simp only [w64_eq, wu8_eq, gt_iff_lt, ge_iff_le, int_beq, fdiv33, fdiv45, bt_eq, tmodN, rdOfB, rdT3_eq, rdT5_eq, seq, maxI, minI, emp_eq, rdn3, rdn5, rdn48, rdn33, rdn9, rdn36, rdn40]
  refine ((fun h => ?_) (il0 _ (by omega) _ _ _ _ _ _ h m (by omega)))
  all_goals clear il0 il1
  all_goals (try cases h)
  all_goals (try simp only [*, if_true, if_false, ↓reduceIte, Option.bind_some, List.length_cons, List.length_nil, List.length_append, Bool.not_true, Bool.not_false, Bool.true_eq_false, Bool.false_eq_true])
  all_goals (repeat first | rw [if_pos (by omega)] | rw [if_neg (by omega)])
  all_goals first | exact h | exact h _ | exact h _ _ | exact h _ _ _ | exact h _ _ _ _ | exact h _ _ _ _ _ | exact h _ _ _ _ _ _ | exact h _ _ _ _ _ _ _ | exact h _ _ _ _ _ _ _ _ | rfl | (simp_all [-Bool.forall_bool]; done) | (simp_all [-Bool.forall_bool]; first | exact h | exact h _ | exact h _ _ | exact h _ _ _ | exact h _ _ _ _ | exact h _ _ _ _ _ | exact h _ _ _ _ _ _ | exact h _ _ _ _ _ _ _ | exact h _ _ _ _ _ _ _ _) | (simp_all [-Bool.forall_bool, emp_eq, int_beq]; done) | (simp_all [-Bool.forall_bool]; (intros; simp_all; done)) | (simp_all [-Bool.forall_bool, rdset3, rdset5, rdset48, rdset33, rdset9, rdset36, rdset40]; done) | grind
end Go.Proofs.Ytkbfmompapcekaa.M2

/- What the print's plain functions answer, the own ones answer. Written by a program of this session. -/
namespace Go.Proofs.Ytkbfmompapcekaa.M2
open Go Go.RowKit Go.Proofs.YtkbfmompapcekaaW.PrintWords Go.Proofs.Ytkbfmompapcekaa.PK
set_option linter.unusedVariables false
set_option linter.unusedSimpArgs false
theorem spec_l01Once.rel (k : Nat) (s0_0 : List Int) (s0_1 : Int) (s0_2 : Int) (a1 : Int) (r) (h : PK.spec_l01Once.f s0_0 s0_1 s0_2 a1 = some r) (m : Nat) (hm : k ≤ m) : spec_l01Once.f m a1 s0_0 s0_1 s0_2 = some (r.1, s0_0, r.2.1, r.2.2) := by
  rw [PK.spec_l01Once.f] at h
  rw [spec_l01Once.f]
  try simp only [w64_eq, wu8_eq, gt_iff_lt, ge_iff_le, int_beq, fdiv33, fdiv45, bt_eq, tmodN, rdOfB] at h
  try simp only [shlR]
  try simp only [w64_eq, wu8_eq, gt_iff_lt, ge_iff_le, int_beq, fdiv33, fdiv45, bt_eq, tmodN, rdOfB, rdT3_eq, rdT5_eq, seq, maxI, minI, emp_eq, rdn3, rdn5, rdn48, rdn33, rdn9, rdn36, rdn40]
  refine (bnE h (fun _ g h => (fun g => ?_) (spec_l01Below.rel m _ _ _ _ _ g m (by omega))))
  all_goals (try cases h)
  all_goals (try simp only [*, if_true, if_false, ↓reduceIte, Option.bind_some, List.length_cons, List.length_nil, List.length_append, Bool.not_true, Bool.not_false, Bool.true_eq_false, Bool.false_eq_true])
  all_goals (repeat first | rw [if_pos (by omega)] | rw [if_neg (by omega)])
  all_goals first | exact h | exact h _ | exact h _ _ | exact h _ _ _ | exact h _ _ _ _ | exact h _ _ _ _ _ | exact h _ _ _ _ _ _ | exact h _ _ _ _ _ _ _ | exact h _ _ _ _ _ _ _ _ | rfl | (simp_all [-Bool.forall_bool]; done) | (simp_all [-Bool.forall_bool]; first | exact h | exact h _ | exact h _ _ | exact h _ _ _ | exact h _ _ _ _ | exact h _ _ _ _ _ | exact h _ _ _ _ _ _ | exact h _ _ _ _ _ _ _ | exact h _ _ _ _ _ _ _ _) | (simp_all [-Bool.forall_bool, emp_eq, int_beq]; done) | (simp_all [-Bool.forall_bool]; (intros; simp_all; done)) | (simp_all [-Bool.forall_bool, rdset3, rdset5, rdset48, rdset33, rdset9, rdset36, rdset40]; done) | grind

theorem spec_l01New.rel_l (k : Nat) : (∀ x0 x3 x4 r, PK.spec_l01New.l0 k x0 x3 x4 = some r → ∀ m, k ≤ m → spec_l01New.c3 m x0 x3 x4 = some (r.1, r.2.1, r.2.2)) := by
  induction k using Nat.strongRecOn with
  | _ k ih =>
  have il0 := fun k' hk' => (ih k' hk')
  clear ih
  intro x0 x3 x4 r h m hm
  cases k with
  | zero => simp only [PK.spec_l01New.l0] at h; cases h
  | succ k =>
    obtain ⟨m, rfl⟩ : ∃ m', m = m' + 1 := ⟨m - 1, by omega⟩
    rw [PK.spec_l01New.l0] at h
    rw [spec_l01New.c3]
    try simp only [w64_eq, wu8_eq, gt_iff_lt, ge_iff_le, int_beq, fdiv33, fdiv45, bt_eq, tmodN, rdOfB] at h
    try simp only [shlR]
    try simp only [w64_eq, wu8_eq, gt_iff_lt, ge_iff_le, int_beq, fdiv33, fdiv45, bt_eq, tmodN, rdOfB, rdT3_eq, rdT5_eq, seq, maxI, minI, emp_eq, rdn3, rdn5, rdn48, rdn33, rdn9, rdn36, rdn40]
    refine (itE h (fun q h => (itE h (fun q h => (itE h (fun q h => ((fun h => ?_) (il0 _ (by omega) _ _ _ _ h m (by omega)))) (fun q h => (noE h)))) (fun q h => ?_))) (fun q h => ?_))
    all_goals clear il0
    all_goals (try cases h)
    all_goals (try simp only [*, if_true, if_false, ↓reduceIte, Option.bind_some, List.length_cons, List.length_nil, List.length_append, Bool.not_true, Bool.not_false, Bool.true_eq_false, Bool.false_eq_true])
    all_goals (repeat first | rw [if_pos (by omega)] | rw [if_neg (by omega)])
    all_goals first | exact h | exact h _ | exact h _ _ | exact h _ _ _ | exact h _ _ _ _ | exact h _ _ _ _ _ | exact h _ _ _ _ _ _ | exact h _ _ _ _ _ _ _ | exact h _ _ _ _ _ _ _ _ | rfl | (simp_all [-Bool.forall_bool]; done) | (simp_all [-Bool.forall_bool]; first | exact h | exact h _ | exact h _ _ | exact h _ _ _ | exact h _ _ _ _ | exact h _ _ _ _ _ | exact h _ _ _ _ _ _ | exact h _ _ _ _ _ _ _ | exact h _ _ _ _ _ _ _ _) | (simp_all [-Bool.forall_bool, emp_eq, int_beq]; done) | (simp_all [-Bool.forall_bool]; (intros; simp_all; done)) | (simp_all [-Bool.forall_bool, rdset3, rdset5, rdset48, rdset33, rdset9, rdset36, rdset40]; done) | grind
theorem spec_l01New.rel (k : Nat) (l0 : List Int) (r) (h : PK.spec_l01New.f k l0 = some r) (m : Nat) (hm : k ≤ m) : spec_l01New.f m l0 = some (r.1, r.2.1, r.2.2) := by
  have il0 := fun k' (_ : k' < k + 1) => (spec_l01New.rel_l k')
  rw [PK.spec_l01New.f] at h
  rw [spec_l01New.f]
  try simp only [w64_eq, wu8_eq, gt_iff_lt, ge_iff_le, int_beq, fdiv33, fdiv45, bt_eq, tmodN, rdOfB] at h
  try simp only [shlR]
  try simp only [w64_eq, wu8_eq, gt_iff_lt, ge_iff_le, int_beq, fdiv33, fdiv45, bt_eq, tmodN, rdOfB, rdT3_eq, rdT5_eq, seq, maxI, minI, emp_eq, rdn3, rdn5, rdn48, rdn33, rdn9, rdn36, rdn40]
  refine ((fun h => ?_) (il0 _ (by omega) _ _ _ _ h m (by omega)))
  all_goals clear il0
  all_goals (try cases h)
  all_goals (try simp only [*, if_true, if_false, ↓reduceIte, Option.bind_some, List.length_cons, List.length_nil, List.length_append, Bool.not_true, Bool.not_false, Bool.true_eq_false, Bool.false_eq_true])
  all_goals (repeat first | rw [if_pos (by omega)] | rw [if_neg (by omega)])
  all_goals first | exact h | exact h _ | exact h _ _ | exact h _ _ _ | exact h _ _ _ _ | exact h _ _ _ _ _ | exact h _ _ _ _ _ _ | exact h _ _ _ _ _ _ _ | exact h _ _ _ _ _ _ _ _ | rfl | (simp_all [-Bool.forall_bool]; done) | (simp_all [-Bool.forall_bool]; first | exact h | exact h _ | exact h _ _ | exact h _ _ _ | exact h _ _ _ _ | exact h _ _ _ _ _ | exact h _ _ _ _ _ _ | exact h _ _ _ _ _ _ _ | exact h _ _ _ _ _ _ _ _) | (simp_all [-Bool.forall_bool, emp_eq, int_beq]; done) | (simp_all [-Bool.forall_bool]; (intros; simp_all; done)) | (simp_all [-Bool.forall_bool, rdset3, rdset5, rdset48, rdset33, rdset9, rdset36, rdset40]; done) | grind

theorem spec_DrawPlaces.rel_l (k : Nat) : (∀ x4 x5 x190000 x190001 x190002 r, PK.spec_DrawPlaces.l0 k x4 x5 x190000 x190001 x190002 = some r → ∀ m, k ≤ m → spec_DrawPlaces.c5 m x5 x190000 x190001 x190002 x4 = some r) := by
  induction k using Nat.strongRecOn with
  | _ k ih =>
  have il0 := fun k' hk' => (ih k' hk')
  clear ih
  intro x4 x5 x190000 x190001 x190002 r h m hm
  cases k with
  | zero => simp only [PK.spec_DrawPlaces.l0] at h; cases h
  | succ k =>
    obtain ⟨m, rfl⟩ : ∃ m', m = m' + 1 := ⟨m - 1, by omega⟩
    rw [PK.spec_DrawPlaces.l0] at h
    rw [spec_DrawPlaces.c5]
    try simp only [w64_eq, wu8_eq, gt_iff_lt, ge_iff_le, int_beq, fdiv33, fdiv45, bt_eq, tmodN, rdOfB] at h
    try simp only [shlR]
    try simp only [w64_eq, wu8_eq, gt_iff_lt, ge_iff_le, int_beq, fdiv33, fdiv45, bt_eq, tmodN, rdOfB, rdT3_eq, rdT5_eq, seq, maxI, minI, emp_eq, rdn3, rdn5, rdn48, rdn33, rdn9, rdn36, rdn40]
    refine (itE h (fun q h => (bnE h (fun _ g h => (fun g => (itE h (fun q h => ((fun h => ?_) (il0 _ (by omega) _ _ _ _ _ _ h m (by omega)))) (fun q h => (noE h)))) (spec_l01Below.rel m _ _ _ _ _ g m (by omega))))) (fun q h => ?_))
    all_goals clear il0
    all_goals (try cases h)
    all_goals (try simp only [*, if_true, if_false, ↓reduceIte, Option.bind_some, List.length_cons, List.length_nil, List.length_append, Bool.not_true, Bool.not_false, Bool.true_eq_false, Bool.false_eq_true])
    all_goals (repeat first | rw [if_pos (by omega)] | rw [if_neg (by omega)])
    all_goals first | exact h | exact h _ | exact h _ _ | exact h _ _ _ | exact h _ _ _ _ | exact h _ _ _ _ _ | exact h _ _ _ _ _ _ | exact h _ _ _ _ _ _ _ | exact h _ _ _ _ _ _ _ _ | rfl | (simp_all [-Bool.forall_bool]; done) | (simp_all [-Bool.forall_bool]; first | exact h | exact h _ | exact h _ _ | exact h _ _ _ | exact h _ _ _ _ | exact h _ _ _ _ _ | exact h _ _ _ _ _ _ | exact h _ _ _ _ _ _ _ | exact h _ _ _ _ _ _ _ _) | (simp_all [-Bool.forall_bool, emp_eq, int_beq]; done) | (simp_all [-Bool.forall_bool]; (intros; simp_all; done)) | (simp_all [-Bool.forall_bool, rdset3, rdset5, rdset48, rdset33, rdset9, rdset36, rdset40]; done) | grind
theorem spec_DrawPlaces.rel (k : Nat) (l0 : List Int) (r) (h : PK.spec_DrawPlaces.f k l0 = some r) (m : Nat) (hm : k ≤ m) : spec_DrawPlaces.f m l0 = some r := by
  have il0 := fun k' (_ : k' < k + 1) => (spec_DrawPlaces.rel_l k')
  rw [PK.spec_DrawPlaces.f] at h
  rw [spec_DrawPlaces.f]
  try simp only [w64_eq, wu8_eq, gt_iff_lt, ge_iff_le, int_beq, fdiv33, fdiv45, bt_eq, tmodN, rdOfB] at h
  try simp only [shlR]
  try simp only [w64_eq, wu8_eq, gt_iff_lt, ge_iff_le, int_beq, fdiv33, fdiv45, bt_eq, tmodN, rdOfB, rdT3_eq, rdT5_eq, seq, maxI, minI, emp_eq, rdn3, rdn5, rdn48, rdn33, rdn9, rdn36, rdn40]
  refine (bnE h (fun _ g h => (fun g => (bnE h (fun _ g h => (fun g => ((fun h => ?_) (il0 _ (by omega) _ _ _ _ _ _ h m (by omega)))) (spec_l01Byte.rel m _ _ _ _ g m (by omega))))) (spec_l01New.rel _ _ _ g m (by omega))))
  all_goals clear il0
  all_goals (try cases h)
  all_goals (try simp only [*, if_true, if_false, ↓reduceIte, Option.bind_some, List.length_cons, List.length_nil, List.length_append, Bool.not_true, Bool.not_false, Bool.true_eq_false, Bool.false_eq_true])
  all_goals (repeat first | rw [if_pos (by omega)] | rw [if_neg (by omega)])
  all_goals first | exact h | exact h _ | exact h _ _ | exact h _ _ _ | exact h _ _ _ _ | exact h _ _ _ _ _ | exact h _ _ _ _ _ _ | exact h _ _ _ _ _ _ _ | exact h _ _ _ _ _ _ _ _ | rfl | (simp_all [-Bool.forall_bool]; done) | (simp_all [-Bool.forall_bool]; first | exact h | exact h _ | exact h _ _ | exact h _ _ _ | exact h _ _ _ _ | exact h _ _ _ _ _ | exact h _ _ _ _ _ _ | exact h _ _ _ _ _ _ _ | exact h _ _ _ _ _ _ _ _) | (simp_all [-Bool.forall_bool, emp_eq, int_beq]; done) | (simp_all [-Bool.forall_bool]; (intros; simp_all; done)) | (simp_all [-Bool.forall_bool, rdset3, rdset5, rdset48, rdset33, rdset9, rdset36, rdset40]; done) | grind
end Go.Proofs.Ytkbfmompapcekaa.M2

/- What the print's plain functions answer, the own ones answer. Written by a program of this session. -/
namespace Go.Proofs.Ytkbfmompapcekaa.M2
open Go Go.RowKit Go.Proofs.YtkbfmompapcekaaW.PrintWords Go.Proofs.Ytkbfmompapcekaa.PK
set_option linter.unusedVariables false
set_option linter.unusedSimpArgs false
theorem impl_VarText.rel_l (k : Nat) : (∀ x0 x4 r, PK.impl_VarText.l0 k x0 x4 = some r → ∀ m, k ≤ m → impl_VarText.c4 m x0 x4 = some (r.1, r.2)) := by
  induction k using Nat.strongRecOn with
  | _ k ih =>
  have il0 := fun k' hk' => (ih k' hk')
  clear ih
  intro x0 x4 r h m hm
  cases k with
  | zero => simp only [PK.impl_VarText.l0] at h; cases h
  | succ k =>
    obtain ⟨m, rfl⟩ : ∃ m', m = m' + 1 := ⟨m - 1, by omega⟩
    rw [PK.impl_VarText.l0] at h
    rw [impl_VarText.c4]
    try simp only [w64_eq, wu8_eq, gt_iff_lt, ge_iff_le, int_beq, fdiv33, fdiv45, bt_eq, tmodN, rdOfB] at h
    try simp only [shlR]
    try simp only [w64_eq, wu8_eq, gt_iff_lt, ge_iff_le, int_beq, fdiv33, fdiv45, bt_eq, tmodN, rdOfB, rdT3_eq, rdT5_eq, seq, maxI, minI, emp_eq, rdn3, rdn5, rdn48, rdn33, rdn9, rdn36, rdn40]
    refine (itE h (fun q h => (itE h (fun q h => ((fun h => ?_) (il0 _ (by omega) _ _ _ h m (by omega)))) (fun q h => (noE h)))) (fun q h => (itE h (fun q h => ?_) (fun q h => (noE h)))))
    all_goals clear il0
    all_goals (try cases h)
    all_goals (try simp only [*, if_true, if_false, ↓reduceIte, Option.bind_some, List.length_cons, List.length_nil, List.length_append, Bool.not_true, Bool.not_false, Bool.true_eq_false, Bool.false_eq_true])
    all_goals (repeat first | rw [if_pos (by omega)] | rw [if_neg (by omega)])
    all_goals first | exact h | exact h _ | exact h _ _ | exact h _ _ _ | exact h _ _ _ _ | exact h _ _ _ _ _ | exact h _ _ _ _ _ _ | exact h _ _ _ _ _ _ _ | exact h _ _ _ _ _ _ _ _ | rfl | (simp_all [-Bool.forall_bool]; done) | (simp_all [-Bool.forall_bool]; first | exact h | exact h _ | exact h _ _ | exact h _ _ _ | exact h _ _ _ _ | exact h _ _ _ _ _ | exact h _ _ _ _ _ _ | exact h _ _ _ _ _ _ _ | exact h _ _ _ _ _ _ _ _) | (simp_all [-Bool.forall_bool, emp_eq, int_beq]; done) | (simp_all [-Bool.forall_bool]; (intros; simp_all; done)) | (simp_all [-Bool.forall_bool, rdset3, rdset5, rdset48, rdset33, rdset9, rdset36, rdset40]; done) | grind
theorem impl_VarText.rel (k : Nat) (a0 : Int) (r) (h : PK.impl_VarText.f k a0 = some r) (m : Nat) (hm : k ≤ m) : impl_VarText.f m a0 = some (r.1, r.2) := by
  have il0 := fun k' (_ : k' < k + 1) => (impl_VarText.rel_l k')
  rw [PK.impl_VarText.f] at h
  rw [impl_VarText.f]
  try simp only [w64_eq, wu8_eq, gt_iff_lt, ge_iff_le, int_beq, fdiv33, fdiv45, bt_eq, tmodN, rdOfB] at h
  try simp only [shlR]
  try simp only [w64_eq, wu8_eq, gt_iff_lt, ge_iff_le, int_beq, fdiv33, fdiv45, bt_eq, tmodN, rdOfB, rdT3_eq, rdT5_eq, seq, maxI, minI, emp_eq, rdn3, rdn5, rdn48, rdn33, rdn9, rdn36, rdn40]
  refine (bnE h (fun _ g h => (fun g => (itE h (fun q h => ((fun h => ?_) (il0 _ (by omega) _ _ _ h m (by omega)))) (fun q h => ?_))) (impl_in.rel m _ _ _ _ g m (by omega))))
  all_goals clear il0
  all_goals (try cases h)
  all_goals (try simp only [*, if_true, if_false, ↓reduceIte, Option.bind_some, List.length_cons, List.length_nil, List.length_append, Bool.not_true, Bool.not_false, Bool.true_eq_false, Bool.false_eq_true])
  all_goals (repeat first | rw [if_pos (by omega)] | rw [if_neg (by omega)])
  all_goals first | exact h | exact h _ | exact h _ _ | exact h _ _ _ | exact h _ _ _ _ | exact h _ _ _ _ _ | exact h _ _ _ _ _ _ | exact h _ _ _ _ _ _ _ | exact h _ _ _ _ _ _ _ _ | rfl | (simp_all [-Bool.forall_bool]; done) | (simp_all [-Bool.forall_bool]; first | exact h | exact h _ | exact h _ _ | exact h _ _ _ | exact h _ _ _ _ | exact h _ _ _ _ _ | exact h _ _ _ _ _ _ | exact h _ _ _ _ _ _ _ | exact h _ _ _ _ _ _ _ _) | (simp_all [-Bool.forall_bool, emp_eq, int_beq]; done) | (simp_all [-Bool.forall_bool]; (intros; simp_all; done)) | (simp_all [-Bool.forall_bool, rdset3, rdset5, rdset48, rdset33, rdset9, rdset36, rdset40]; done) | grind

theorem impl_varOf.rel (k : Nat) (a0 : Int) (r) (h : PK.impl_varOf.f k a0 = some r) (m : Nat) (hm : k ≤ m) : impl_varOf.f m a0 = some r := by
  rw [PK.impl_varOf.f] at h
  rw [impl_varOf.f]
  try simp only [w64_eq, wu8_eq, gt_iff_lt, ge_iff_le, int_beq, fdiv33, fdiv45, bt_eq, tmodN, rdOfB] at h
  try simp only [shlR]
  try simp only [w64_eq, wu8_eq, gt_iff_lt, ge_iff_le, int_beq, fdiv33, fdiv45, bt_eq, tmodN, rdOfB, rdT3_eq, rdT5_eq, seq, maxI, minI, emp_eq, rdn3, rdn5, rdn48, rdn33, rdn9, rdn36, rdn40]
  refine (bnE h (fun _ g h => (fun g => ?_) (impl_VarText.rel _ _ _ g m (by omega))))
  all_goals (try cases h)
  all_goals (try simp only [*, if_true, if_false, ↓reduceIte, Option.bind_some, List.length_cons, List.length_nil, List.length_append, Bool.not_true, Bool.not_false, Bool.true_eq_false, Bool.false_eq_true])
  all_goals (repeat first | rw [if_pos (by omega)] | rw [if_neg (by omega)])
  all_goals first | exact h | exact h _ | exact h _ _ | exact h _ _ _ | exact h _ _ _ _ | exact h _ _ _ _ _ | exact h _ _ _ _ _ _ | exact h _ _ _ _ _ _ _ | exact h _ _ _ _ _ _ _ _ | rfl | (simp_all [-Bool.forall_bool]; done) | (simp_all [-Bool.forall_bool]; first | exact h | exact h _ | exact h _ _ | exact h _ _ _ | exact h _ _ _ _ | exact h _ _ _ _ _ | exact h _ _ _ _ _ _ | exact h _ _ _ _ _ _ _ | exact h _ _ _ _ _ _ _ _) | (simp_all [-Bool.forall_bool, emp_eq, int_beq]; done) | (simp_all [-Bool.forall_bool]; (intros; simp_all; done)) | (simp_all [-Bool.forall_bool, rdset3, rdset5, rdset48, rdset33, rdset9, rdset36, rdset40]; done) | grind

theorem impl_RecText.rel (k : Nat) (a0_0 : Int) (a0_1 : Int) (a0_2 : Int) (a0_3 : Int) (r) (h : PK.impl_RecText.f k a0_0 a0_1 a0_2 a0_3 = some r) (m : Nat) (hm : k ≤ m) : impl_RecText.f m a0_0 a0_1 a0_2 a0_3 = some (r.1, r.2) := by
  rw [PK.impl_RecText.f] at h
  rw [impl_RecText.f]
  try simp only [w64_eq, wu8_eq, gt_iff_lt, ge_iff_le, int_beq, fdiv33, fdiv45, bt_eq, tmodN, rdOfB] at h
  try simp only [shlR]
  try simp only [w64_eq, wu8_eq, gt_iff_lt, ge_iff_le, int_beq, fdiv33, fdiv45, bt_eq, tmodN, rdOfB, rdT3_eq, rdT5_eq, seq, maxI, minI, emp_eq, rdn3, rdn5, rdn48, rdn33, rdn9, rdn36, rdn40]
  refine (bnE h (fun _ g h => (fun g => (itE h (fun q h => (bsE h (fun h => (bnE h (fun _ g h => (fun g => (itE h (fun q h => (bnE h (fun _ g h => (fun g => (itE h (fun q h => ?_) (fun q h => (noE h)))) (impl_varOf.rel _ _ _ g m (by omega))))) (fun q h => (noE h)))) (impl_varOf.rel _ _ _ g m (by omega))))))) (fun q h => ?_))) (impl_RecOk.rel _ _ _ _ _ _ g m (by omega))))
  all_goals (try cases h)
  all_goals (try simp only [*, if_true, if_false, ↓reduceIte, Option.bind_some, List.length_cons, List.length_nil, List.length_append, Bool.not_true, Bool.not_false, Bool.true_eq_false, Bool.false_eq_true])
  all_goals (repeat first | rw [if_pos (by omega)] | rw [if_neg (by omega)])
  all_goals first | exact h | exact h _ | exact h _ _ | exact h _ _ _ | exact h _ _ _ _ | exact h _ _ _ _ _ | exact h _ _ _ _ _ _ | exact h _ _ _ _ _ _ _ | exact h _ _ _ _ _ _ _ _ | rfl | (simp_all [-Bool.forall_bool]; done) | (simp_all [-Bool.forall_bool]; first | exact h | exact h _ | exact h _ _ | exact h _ _ _ | exact h _ _ _ _ | exact h _ _ _ _ _ | exact h _ _ _ _ _ _ | exact h _ _ _ _ _ _ _ | exact h _ _ _ _ _ _ _ _) | (simp_all [-Bool.forall_bool, emp_eq, int_beq]; done) | (simp_all [-Bool.forall_bool]; (intros; simp_all; done)) | (simp_all [-Bool.forall_bool, rdset3, rdset5, rdset48, rdset33, rdset9, rdset36, rdset40]; done) | grind
end Go.Proofs.Ytkbfmompapcekaa.M2
