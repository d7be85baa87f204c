/- FnCuts: functions of the translation as Lean functions with what their calls come to, plain lemmas on them, and, at the end, the row. Parts of one proof, merged by a program of this session; each part's own sentence stands at its head. -/
import Derived.Test.YtklkhnomnanpoaaMFnCutsb
/- Plain runs of functions: each is a plain Lean function, and keeps its contract. Written by a program of this session. -/
namespace Go.Proofs.Ytklkhnomnanpoaa.M2
open Go Go.Proofs.Ytklkhnomnanpoaa.PK
set_option linter.unusedVariables false
set_option linter.unusedSimpArgs false
set_option maxHeartbeats 4000000
/-! ### laws_big: function 32 -/
noncomputable def laws_big.sp : Nat → Option (Spec Ty) := fun r => none
noncomputable def laws_big.en : Option (Spec Ty) := none
noncomputable def laws_big.ctx (k : Nat) : Ctx Ty D := (fun _ _ _ _ => none)
noncomputable def laws_big.f (k : Nat) (a0 : List Int) : Option (Bool) := (some ((decide ((a0.length : Int) > 1048576))))
noncomputable def laws_big.e (r : Bool) : Res Ty D := (.sc (.bool r), [], [])
noncomputable abbrev laws_big.g (rec : List Item → St Ty D → R) (k : Nat) := go1 Try.f32 (laws_big.ctx k) laws_big.sp 0 laws_big.en rec
set_option maxRecDepth 100000 in
theorem laws_big.te (rec : List Item → St Ty D → R) (k : Nat) (a0 : List Int) : laws_big.g rec k [.code (body Try.f32)] (startSt [.row 0 .t5 a0] []) =
  some (laws_big.e ((decide ((a0.length : Int) > 1048576)))) := by kernel_rfl
set_option maxRecDepth 100000 in
theorem laws_big.oke (k : Nat) (a0 : List Int) : goF Try.f32 laws_big.ctx laws_big.sp 0 laws_big.en (k + 1) [.code (body Try.f32)] (startSt [.row 0 .t5 a0] []) = (laws_big.f k a0).map laws_big.e := by
  rw [laws_big.f]; exact (laws_big.te _ k a0).trans rfl
theorem laws_big.con (k : Nat) (a0 : List Int) (r) (h : laws_big.f k a0 = some r) : Contract Try.prog kit 32 [.row 0 .t5 a0] [] (laws_big.e r).1 (laws_big.e r).2.1 (laws_big.e r).2.2 :=
  con_okG kitOk mix (fun k => CtxOk.nil) (laws_big.oke k a0) h (by kernel_rfl) (by kernel_rfl) (by kernel_rfl) rfl (by kernel_rfl) rfl rfl
noncomputable def laws_big.x (k : Nat) : X := fun ins bs κ => match ins, bs with
  | [.row 0 .t5 a0], [] => (laws_big.f k a0).bind fun r => κ (laws_big.e r).1 (laws_big.e r).2.1 (laws_big.e r).2.2
  | _, _ => none
theorem laws_big.xok (k : Nat) : XOk 32 (laws_big.x k) := by
  intro ins bs κ res h
  unfold laws_big.x at h
  split at h
  · obtain ⟨r, hr, h⟩ := Option.bind_eq_some_iff.1 h
    exact ⟨_, _, _, laws_big.con k _ r hr, h⟩
  · cases h

/-! ### spec_l01New: function 67 -/
noncomputable def spec_l01New.sp : Nat → Option (Spec Ty) := fun r => bif Nat.beq r 3 then some ⟨[(0, .keep), (3, .keep), (4, .keep)], []⟩ else none
noncomputable def spec_l01New.en : Option (Spec Ty) := none
noncomputable def spec_l01New.s3 (x0 : List Int) (x3 : Int) (x4 : Int) : St Ty D := ⟨(Env.put (Env.put (Env.put E (some 0) (.row 1 .t5 x0)) (some 3) (.sc (.int .i64 x3))) (some 4) (.sc (.int .i64 x4))), H0, 1000⟩
noncomputable def spec_l01New.ctx (k : Nat) : Ctx Ty D := (fun _ _ _ _ => none)
noncomputable def spec_l01New.c3 : Nat → (List Int) → Int → Int → Option ((List Int) × Int × Int)
  | 0, _, _, _ => none
  | k + 1, x0, x3, x4 => (if x4 < (x0.length : Int) then (if x4 < 4000 then (if 0 ≤ x4 then (if x4 < (x0.length : Int) then (spec_l01New.c3 k x0 (Go.bits .and .i64 (w64 ((w64 ((w64 (x3 * 131)) + (w64 ((rd_T5 x0 x4))))) + 7)) 1073741823) (w64 (x4 + 1))) else none) else none) else (some (x0, 0, x3))) else (some (x0, 0, x3)))
noncomputable def spec_l01New.f (k : Nat) (a0 : List Int) : Option ((List Int) × Int × Int) := (spec_l01New.c3 k a0 (w64 (36501 + (a0.length : Int))) 0)
noncomputable def spec_l01New.e (r : (List Int) × Int × Int) : Res Ty D := (.pt 0 0 0, [], [.box [.row 1 .t5 r.1, .sc (.int .i64 r.2.1), .sc (.int .i64 r.2.2)]])
noncomputable abbrev spec_l01New.g (rec : List Item → St Ty D → R) (k : Nat) := go1 Try.f67 (spec_l01New.ctx k) spec_l01New.sp 0 spec_l01New.en rec
set_option maxRecDepth 100000 in
theorem spec_l01New.t3 (rec : List Item → St Ty D → R) (k : Nat) (x0 : List Int) (x3 : Int) (x4 : Int) : spec_l01New.g rec k (td Try.f67 3) (spec_l01New.s3 x0 x3 x4) =
  bif decide (x4 < (x0.length : Int)) then bif decide (x4 < 4000) then bif decide (0 ≤ x4) then bif decide (x4 < (x0.length : Int)) then rec (td Try.f67 3) (spec_l01New.s3 x0 (Go.bits .and .i64 (w64 ((w64 ((w64 (x3 * 131)) + (w64 ((rd_T5 x0 x4))))) + 7)) 1073741823) (w64 (x4 + 1))) else none else none else some (spec_l01New.e (x0, 0, x3)) else some (spec_l01New.e (x0, 0, x3)) := by kernel_rfl
set_option maxRecDepth 100000 in
theorem spec_l01New.te (rec : List Item → St Ty D → R) (k : Nat) (a0 : List Int) : spec_l01New.g rec k [.code (body Try.f67)] (startSt [.row 1 .t5 a0] []) =
  rec (td Try.f67 3) (spec_l01New.s3 a0 (w64 (36501 + (a0.length : Int))) 0) := by kernel_rfl
set_option maxRecDepth 100000 in
theorem spec_l01New.ok : ∀ k : Nat, (∀ (x0 : List Int) (x3 : Int) (x4 : Int), goF Try.f67 spec_l01New.ctx spec_l01New.sp 0 spec_l01New.en k (td Try.f67 3) (spec_l01New.s3 x0 x3 x4) = (spec_l01New.c3 k x0 x3 x4).map spec_l01New.e)
  | 0 => fun _ _ _ => rfl
  | k + 1 => by
    have ih := spec_l01New.ok k
    have i3 := ih
    intro x0 x3 x4; rw [spec_l01New.c3]; exact (spec_l01New.t3 _ k x0 x3 x4).trans (cd (cd (cd (cd (i3 _ _ _) rfl) rfl) rfl) rfl)
set_option maxRecDepth 100000 in
theorem spec_l01New.oke (k : Nat) (a0 : List Int) : goF Try.f67 spec_l01New.ctx spec_l01New.sp 0 spec_l01New.en (k + 1) [.code (body Try.f67)] (startSt [.row 1 .t5 a0] []) = (spec_l01New.f k a0).map spec_l01New.e := by
  have i3 := spec_l01New.ok k
  rw [spec_l01New.f]; exact (spec_l01New.te _ k a0).trans (i3 _ _ _)
theorem spec_l01New.con (k : Nat) (a0 : List Int) (r) (h : spec_l01New.f k a0 = some r) : Contract Try.prog kit 67 [.row 1 .t5 a0] [] (spec_l01New.e r).1 (spec_l01New.e r).2.1 (spec_l01New.e r).2.2 :=
  con_okG kitOk mix (fun k => CtxOk.nil) (spec_l01New.oke k a0) h (by kernel_rfl) (by kernel_rfl) (by kernel_rfl) rfl (by kernel_rfl) rfl rfl
noncomputable def spec_l01New.x (k : Nat) : X := fun ins bs κ => match ins, bs with
  | [.row 1 .t5 a0], [] => (spec_l01New.f k a0).bind fun r => κ (spec_l01New.e r).1 (spec_l01New.e r).2.1 (spec_l01New.e r).2.2
  | _, _ => none
theorem spec_l01New.xok (k : Nat) : XOk 67 (spec_l01New.x k) := by
  intro ins bs κ res h
  unfold spec_l01New.x at h
  split at h
  · obtain ⟨r, hr, h⟩ := Option.bind_eq_some_iff.1 h
    exact ⟨_, _, _, spec_l01New.con k _ r hr, h⟩
  · cases h

/-! ### spec_l05Copy: function 56 -/
noncomputable def spec_l05Copy.sp : Nat → Option (Spec Ty) := fun r => bif Nat.beq r 3 then some ⟨[(1, .box [.keep]), (2, .box [.own .t83]), (3, .box [.own .t83]), (4, .keep)], []⟩ else none
noncomputable def spec_l05Copy.en : Option (Spec Ty) := some ⟨[(2, .box [.own .t83])], []⟩
noncomputable def spec_l05Copy.s3 (x4 : Int) (h64_0 : List S83) (h66 : List S83) (h68 : List S83) : St Ty D := ⟨(Env.put (Env.put (Env.put (Env.put E (some 1) (.pt 64 0 0)) (some 2) (.pt 65 0 0)) (some 3) (.pt 67 0 0)) (some 4) (.sc (.int .i64 x4))), Heap.put H0 [(64, some (.box [.row 0 .t83 h64_0])), (66, some (.rowb .t83 h66 0)), (65, some (.box [.sl 66 none])), (68, some (.rowb .t83 h68 0)), (67, some (.box [.sl 68 none]))], 1000⟩
noncomputable def spec_l05Copy.ctx (k : Nat) : Ctx Ty D := (fun _ _ _ _ => none)
noncomputable def spec_l05Copy.c3 : Nat → Int → (List S83) → (List S83) → (List S83) → Option ((List S83))
  | 0, _, _, _, _ => none
  | k + 1, x4, h64_0, h66, h68 => (if x4 < (h64_0.length : Int) then (if 0 ≤ x4 then (if x4 < (h64_0.length : Int) then (if ([] : List S101).length + ((rd_T83 h64_0 x4).f2).length ≤ 5864062014805 then (if h68.length + ([(S83.mk ((rd_T83 h64_0 x4).f0) ((rd_T83 h64_0 x4).f1) (([] : List S101) ++ ((rd_T83 h64_0 x4).f2)))] : List S83).length ≤ 3518437208883 then (spec_l05Copy.c3 k (w64 (x4 + 1)) h64_0 h66 (h68 ++ ([(S83.mk ((rd_T83 h64_0 x4).f0) ((rd_T83 h64_0 x4).f1) (([] : List S101) ++ ((rd_T83 h64_0 x4).f2)))] : List S83))) else none) else none) else none) else none) else (some (h68)))
noncomputable def spec_l05Copy.f (k : Nat) (a0_0 : List S83) : Option ((List S83)) := (spec_l05Copy.c3 k 0 a0_0 ([] : List S83) ([] : List S83))
noncomputable def spec_l05Copy.e (r : (List S83)) : Res Ty D := (.ag [.sl 0 none], [], [.rowb .t83 r 0])
noncomputable abbrev spec_l05Copy.g (rec : List Item → St Ty D → R) (k : Nat) := go1 Try.f56 (spec_l05Copy.ctx k) spec_l05Copy.sp 0 spec_l05Copy.en rec
set_option maxRecDepth 100000 in
theorem spec_l05Copy.t3 (rec : List Item → St Ty D → R) (k : Nat) (x4 : Int) (h64_0 : List S83) (h66 : List S83) (h68 : List S83) : spec_l05Copy.g rec k (td Try.f56 3) (spec_l05Copy.s3 x4 h64_0 h66 h68) =
  bif decide (x4 < (h64_0.length : Int)) then bif decide (0 ≤ x4) then bif decide (x4 < (h64_0.length : Int)) then bif decide (([] : List S101).length + ((rd_T83 h64_0 x4).f2).length ≤ 5864062014805) then bif decide (h68.length + ([(S83.mk ((rd_T83 h64_0 x4).f0) ((rd_T83 h64_0 x4).f1) (([] : List S101) ++ ((rd_T83 h64_0 x4).f2)))] : List S83).length ≤ 3518437208883) then rec (td Try.f56 3) (spec_l05Copy.s3 (w64 (x4 + 1)) h64_0 h66 (h68 ++ ([(S83.mk ((rd_T83 h64_0 x4).f0) ((rd_T83 h64_0 x4).f1) (([] : List S101) ++ ((rd_T83 h64_0 x4).f2)))] : List S83))) else none else none else none else none else some (spec_l05Copy.e (h68)) := by kernel_rfl
set_option maxRecDepth 100000 in
theorem spec_l05Copy.te (rec : List Item → St Ty D → R) (k : Nat) (a0_0 : List S83) : spec_l05Copy.g rec k [.code (body Try.f56)] (startSt [.ag [.row 0 .t83 a0_0]] []) =
  rec (td Try.f56 3) (spec_l05Copy.s3 0 a0_0 ([] : List S83) ([] : List S83)) := by kernel_rfl
set_option maxRecDepth 100000 in
theorem spec_l05Copy.ok : ∀ k : Nat, (∀ (x4 : Int) (h64_0 : List S83) (h66 : List S83) (h68 : List S83), goF Try.f56 spec_l05Copy.ctx spec_l05Copy.sp 0 spec_l05Copy.en k (td Try.f56 3) (spec_l05Copy.s3 x4 h64_0 h66 h68) = (spec_l05Copy.c3 k x4 h64_0 h66 h68).map spec_l05Copy.e)
  | 0 => fun _ _ _ _ => rfl
  | k + 1 => by
    have ih := spec_l05Copy.ok k
    have i3 := ih
    intro x4 h64_0 h66 h68; rw [spec_l05Copy.c3]; exact (spec_l05Copy.t3 _ k x4 h64_0 h66 h68).trans (cd (cd (cd (cd (cd (i3 _ _ _ _) rfl) rfl) rfl) rfl) rfl)
set_option maxRecDepth 100000 in
theorem spec_l05Copy.oke (k : Nat) (a0_0 : List S83) : goF Try.f56 spec_l05Copy.ctx spec_l05Copy.sp 0 spec_l05Copy.en (k + 1) [.code (body Try.f56)] (startSt [.ag [.row 0 .t83 a0_0]] []) = (spec_l05Copy.f k a0_0).map spec_l05Copy.e := by
  have i3 := spec_l05Copy.ok k
  rw [spec_l05Copy.f]; exact (spec_l05Copy.te _ k a0_0).trans (i3 _ _ _ _)
theorem spec_l05Copy.con (k : Nat) (a0_0 : List S83) (r) (h : spec_l05Copy.f k a0_0 = some r) : Contract Try.prog kit 56 [.ag [.row 0 .t83 a0_0]] [] (spec_l05Copy.e r).1 (spec_l05Copy.e r).2.1 (spec_l05Copy.e r).2.2 :=
  con_okG kitOk mix (fun k => CtxOk.nil) (spec_l05Copy.oke k a0_0) h (by kernel_rfl) (by kernel_rfl) (by kernel_rfl) rfl (by kernel_rfl) rfl rfl
noncomputable def spec_l05Copy.x (k : Nat) : X := fun ins bs κ => match ins, bs with
  | [.ag [.row 0 .t83 a0_0]], [] => (spec_l05Copy.f k a0_0).bind fun r => κ (spec_l05Copy.e r).1 (spec_l05Copy.e r).2.1 (spec_l05Copy.e r).2.2
  | _, _ => none
theorem spec_l05Copy.xok (k : Nat) : XOk 56 (spec_l05Copy.x k) := by
  intro ins bs κ res h
  unfold spec_l05Copy.x at h
  split at h
  · obtain ⟨r, hr, h⟩ := Option.bind_eq_some_iff.1 h
    exact ⟨_, _, _, spec_l05Copy.con k _ r hr, h⟩
  · cases h

/-! ### spec_l01Byte: function 70 -/
noncomputable def spec_l01Byte.sp : Nat → Option (Spec Ty) := fun r => none
noncomputable def spec_l01Byte.en : Option (Spec Ty) := none
noncomputable def spec_l01Byte.ctx (k : Nat) : Ctx Ty D := (fun _ _ _ _ => none)
noncomputable def spec_l01Byte.f (k : Nat) (a0_0 : List Int) (a0_1 : Int) (a0_2 : Int) : Option (Int × (List Int) × Int × Int) := (if a0_1 < (a0_0.length : Int) then (if 0 ≤ a0_1 then (if a0_1 < (a0_0.length : Int) then (some ((Go.bits .and .i64 (w64 ((Go.bits .and .i64 (Go.bits .xor .i64 (Int.fdiv (w64 ((w64 (a0_2 * 6364136223846793005)) + 1442695040888963407)) 8589934592) (Int.fdiv (w64 ((w64 (a0_2 * 6364136223846793005)) + 1442695040888963407)) 35184372088832)) 255) + (w64 ((rd_T5 a0_0 a0_1))))) 255), a0_0, (w64 (a0_1 + 1)), (w64 ((w64 (a0_2 * 6364136223846793005)) + 1442695040888963407)))) else none) else none) else (some ((Go.bits .and .i64 (Go.bits .xor .i64 (Int.fdiv (w64 ((w64 (a0_2 * 6364136223846793005)) + 1442695040888963407)) 8589934592) (Int.fdiv (w64 ((w64 (a0_2 * 6364136223846793005)) + 1442695040888963407)) 35184372088832)) 255), a0_0, a0_1, (w64 ((w64 (a0_2 * 6364136223846793005)) + 1442695040888963407)))))
noncomputable def spec_l01Byte.e (r : Int × (List Int) × Int × Int) : Res Ty D := (.sc (.int .i64 r.1), [some (.box [.row 1 .t5 r.2.1, .sc (.int .i64 r.2.2.1), .sc (.int .i64 r.2.2.2)])], [])
noncomputable abbrev spec_l01Byte.g (rec : List Item → St Ty D → R) (k : Nat) := go1 Try.f70 (spec_l01Byte.ctx k) spec_l01Byte.sp 1 spec_l01Byte.en rec
set_option maxRecDepth 100000 in
theorem spec_l01Byte.te (rec : List Item → St Ty D → R) (k : Nat) (a0_0 : List Int) (a0_1 : Int) (a0_2 : Int) : spec_l01Byte.g rec k [.code (body Try.f70)] (startSt [.pt 0 0 0] [.box [.row 1 .t5 a0_0, .sc (.int .i64 a0_1), .sc (.int .i64 a0_2)]]) =
  bif decide (a0_1 < (a0_0.length : Int)) then bif decide (0 ≤ a0_1) then bif decide (a0_1 < (a0_0.length : Int)) then some (spec_l01Byte.e ((Go.bits .and .i64 (w64 ((Go.bits .and .i64 (Go.bits .xor .i64 (Int.fdiv (w64 ((w64 (a0_2 * 6364136223846793005)) + 1442695040888963407)) 8589934592) (Int.fdiv (w64 ((w64 (a0_2 * 6364136223846793005)) + 1442695040888963407)) 35184372088832)) 255) + (w64 ((rd_T5 a0_0 a0_1))))) 255), a0_0, (w64 (a0_1 + 1)), (w64 ((w64 (a0_2 * 6364136223846793005)) + 1442695040888963407)))) else none else none else some (spec_l01Byte.e ((Go.bits .and .i64 (Go.bits .xor .i64 (Int.fdiv (w64 ((w64 (a0_2 * 6364136223846793005)) + 1442695040888963407)) 8589934592) (Int.fdiv (w64 ((w64 (a0_2 * 6364136223846793005)) + 1442695040888963407)) 35184372088832)) 255), a0_0, a0_1, (w64 ((w64 (a0_2 * 6364136223846793005)) + 1442695040888963407)))) := by kernel_rfl
set_option maxRecDepth 100000 in
theorem spec_l01Byte.oke (k : Nat) (a0_0 : List Int) (a0_1 : Int) (a0_2 : Int) : goF Try.f70 spec_l01Byte.ctx spec_l01Byte.sp 1 spec_l01Byte.en (k + 1) [.code (body Try.f70)] (startSt [.pt 0 0 0] [.box [.row 1 .t5 a0_0, .sc (.int .i64 a0_1), .sc (.int .i64 a0_2)]]) = (spec_l01Byte.f k a0_0 a0_1 a0_2).map spec_l01Byte.e := by
  rw [spec_l01Byte.f]; exact (spec_l01Byte.te _ k a0_0 a0_1 a0_2).trans (cd (cd (cd rfl rfl) rfl) rfl)
theorem spec_l01Byte.con (k : Nat) (a0_0 : List Int) (a0_1 : Int) (a0_2 : Int) (r) (h : spec_l01Byte.f k a0_0 a0_1 a0_2 = some r) : Contract Try.prog kit 70 [.pt 0 0 0] [.box [.row 1 .t5 a0_0, .sc (.int .i64 a0_1), .sc (.int .i64 a0_2)]] (spec_l01Byte.e r).1 (spec_l01Byte.e r).2.1 (spec_l01Byte.e r).2.2 :=
  con_okG kitOk mix (fun k => CtxOk.nil) (spec_l01Byte.oke k a0_0 a0_1 a0_2) h (by kernel_rfl) (by kernel_rfl) (by kernel_rfl) rfl (by kernel_rfl) rfl rfl
noncomputable def spec_l01Byte.x (k : Nat) : X := fun ins bs κ => match ins, bs with
  | [.pt 0 0 0], [.box [.row 1 .t5 a0_0, .sc (.int .i64 a0_1), .sc (.int .i64 a0_2)]] => (spec_l01Byte.f k a0_0 a0_1 a0_2).bind fun r => κ (spec_l01Byte.e r).1 (spec_l01Byte.e r).2.1 (spec_l01Byte.e r).2.2
  | _, _ => none
theorem spec_l01Byte.xok (k : Nat) : XOk 70 (spec_l01Byte.x k) := by
  intro ins bs κ res h
  unfold spec_l01Byte.x at h
  split at h
  · obtain ⟨r, hr, h⟩ := Option.bind_eq_some_iff.1 h
    exact ⟨_, _, _, spec_l01Byte.con k _ _ _ r hr, h⟩
  · cases h

/-! ### spec_l01Below: function 71 -/
noncomputable def spec_l01Below.sp : Nat → Option (Spec Ty) := fun r => none
noncomputable def spec_l01Below.en : Option (Spec Ty) := none
noncomputable def spec_l01Below.ctx (k : Nat) : Ctx Ty D := (cons 70 (spec_l01Byte.x k) (fun _ _ _ _ => none))
noncomputable def spec_l01Below.f (k : Nat) (a1 : Int) (a0_0 : List Int) (a0_1 : Int) (a0_2 : Int) : Option (Int × (List Int) × Int × Int) := (if a1 ≤ 0 then (some (0, a0_0, a0_1, a0_2)) else (if a1 ≤ 256 then ((spec_l01Byte.f k a0_0 a0_1 a0_2).bind fun t1 => (if a1 = 0 then none else (some ((Int.tmod t1.1 a1), t1.2.1, t1.2.2.1, t1.2.2.2)))) else ((spec_l01Byte.f k a0_0 a0_1 a0_2).bind fun t2 => ((spec_l01Byte.f k t2.2.1 t2.2.2.1 t2.2.2.2).bind fun t3 => ((spec_l01Byte.f k t3.2.1 t3.2.2.1 t3.2.2.2).bind fun t4 => ((spec_l01Byte.f k t4.2.1 t4.2.2.1 t4.2.2.2).bind fun t5 => (if a1 = 0 then none else (some ((Int.tmod (w64 ((w64 ((w64 ((w64 (t2.1 * 16777216)) + (w64 (t3.1 * 65536)))) + (w64 (t4.1 * 256)))) + t5.1)) a1), t5.2.1, t5.2.2.1, t5.2.2.2)))))))))
noncomputable def spec_l01Below.e (r : Int × (List Int) × Int × Int) : Res Ty D := (.sc (.int .i64 r.1), [some (.box [.row 1 .t5 r.2.1, .sc (.int .i64 r.2.2.1), .sc (.int .i64 r.2.2.2)])], [])
noncomputable abbrev spec_l01Below.g (rec : List Item → St Ty D → R) (k : Nat) := go1 Try.f71 (spec_l01Below.ctx k) spec_l01Below.sp 1 spec_l01Below.en rec
set_option maxRecDepth 100000 in
theorem spec_l01Below.te (rec : List Item → St Ty D → R) (k : Nat) (a1 : Int) (a0_0 : List Int) (a0_1 : Int) (a0_2 : Int) : spec_l01Below.g rec k [.code (body Try.f71)] (startSt [.pt 0 0 0, .sc (.int .i64 a1)] [.box [.row 1 .t5 a0_0, .sc (.int .i64 a0_1), .sc (.int .i64 a0_2)]]) =
  bif decide (a1 ≤ 0) then some (spec_l01Below.e (0, a0_0, a0_1, a0_2)) else bif decide (a1 ≤ 256) then (spec_l01Byte.f k a0_0 a0_1 a0_2).bind fun t1 => bif !decide (a1 = 0) then some (spec_l01Below.e ((Int.tmod t1.1 a1), t1.2.1, t1.2.2.1, t1.2.2.2)) else none else (spec_l01Byte.f k a0_0 a0_1 a0_2).bind fun t2 => (spec_l01Byte.f k t2.2.1 t2.2.2.1 t2.2.2.2).bind fun t3 => (spec_l01Byte.f k t3.2.1 t3.2.2.1 t3.2.2.2).bind fun t4 => (spec_l01Byte.f k t4.2.1 t4.2.2.1 t4.2.2.2).bind fun t5 => bif !decide (a1 = 0) then some (spec_l01Below.e ((Int.tmod (w64 ((w64 ((w64 ((w64 (t2.1 * 16777216)) + (w64 (t3.1 * 65536)))) + (w64 (t4.1 * 256)))) + t5.1)) a1), t5.2.1, t5.2.2.1, t5.2.2.2)) else none := by kernel_rfl
set_option maxRecDepth 100000 in
theorem spec_l01Below.oke (k : Nat) (a1 : Int) (a0_0 : List Int) (a0_1 : Int) (a0_2 : Int) : goF Try.f71 spec_l01Below.ctx spec_l01Below.sp 1 spec_l01Below.en (k + 1) [.code (body Try.f71)] (startSt [.pt 0 0 0, .sc (.int .i64 a1)] [.box [.row 1 .t5 a0_0, .sc (.int .i64 a0_1), .sc (.int .i64 a0_2)]]) = (spec_l01Below.f k a1 a0_0 a0_1 a0_2).map spec_l01Below.e := by
  rw [spec_l01Below.f]; exact (spec_l01Below.te _ k a1 a0_0 a0_1 a0_2).trans (cd rfl (cd (bn (fun t1 => (nd rfl rfl))) (bn (fun t2 => (bn (fun t3 => (bn (fun t4 => (bn (fun t5 => (nd rfl rfl)))))))))))
theorem spec_l01Below.con (k : Nat) (a1 : Int) (a0_0 : List Int) (a0_1 : Int) (a0_2 : Int) (r) (h : spec_l01Below.f k a1 a0_0 a0_1 a0_2 = some r) : Contract Try.prog kit 71 [.pt 0 0 0, .sc (.int .i64 a1)] [.box [.row 1 .t5 a0_0, .sc (.int .i64 a0_1), .sc (.int .i64 a0_2)]] (spec_l01Below.e r).1 (spec_l01Below.e r).2.1 (spec_l01Below.e r).2.2 :=
  con_okG kitOk mix (fun k => (CtxOk.cons (spec_l01Byte.xok k) CtxOk.nil)) (spec_l01Below.oke k a1 a0_0 a0_1 a0_2) h (by kernel_rfl) (by kernel_rfl) (by kernel_rfl) rfl (by kernel_rfl) rfl rfl
noncomputable def spec_l01Below.x (k : Nat) : X := fun ins bs κ => match ins, bs with
  | [.pt 0 0 0, .sc (.int .i64 a1)], [.box [.row 1 .t5 a0_0, .sc (.int .i64 a0_1), .sc (.int .i64 a0_2)]] => (spec_l01Below.f k a1 a0_0 a0_1 a0_2).bind fun r => κ (spec_l01Below.e r).1 (spec_l01Below.e r).2.1 (spec_l01Below.e r).2.2
  | _, _ => none
theorem spec_l01Below.xok (k : Nat) : XOk 71 (spec_l01Below.x k) := by
  intro ins bs κ res h
  unfold spec_l01Below.x at h
  split at h
  · obtain ⟨r, hr, h⟩ := Option.bind_eq_some_iff.1 h
    exact ⟨_, _, _, spec_l01Below.con k _ _ _ _ r hr, h⟩
  · cases h

/-! ### spec_l01Once: function 73 -/
noncomputable def spec_l01Once.sp : Nat → Option (Spec Ty) := fun r => none
noncomputable def spec_l01Once.en : Option (Spec Ty) := none
noncomputable def spec_l01Once.ctx (k : Nat) : Ctx Ty D := (cons 71 (spec_l01Below.x k) (fun _ _ _ _ => none))
noncomputable def spec_l01Once.f (k : Nat) (a1 : Int) (a0_0 : List Int) (a0_1 : Int) (a0_2 : Int) : Option (Bool × (List Int) × Int × Int) := ((spec_l01Below.f k a1 a0_0 a0_1 a0_2).bind fun t1 => (some ((decide (t1.1 = 0)), t1.2.1, t1.2.2.1, t1.2.2.2)))
noncomputable def spec_l01Once.e (r : Bool × (List Int) × Int × Int) : Res Ty D := (.sc (.bool r.1), [some (.box [.row 1 .t5 r.2.1, .sc (.int .i64 r.2.2.1), .sc (.int .i64 r.2.2.2)])], [])
noncomputable abbrev spec_l01Once.g (rec : List Item → St Ty D → R) (k : Nat) := go1 Try.f73 (spec_l01Once.ctx k) spec_l01Once.sp 1 spec_l01Once.en rec
set_option maxRecDepth 100000 in
theorem spec_l01Once.te (rec : List Item → St Ty D → R) (k : Nat) (a1 : Int) (a0_0 : List Int) (a0_1 : Int) (a0_2 : Int) : spec_l01Once.g rec k [.code (body Try.f73)] (startSt [.pt 0 0 0, .sc (.int .i64 a1)] [.box [.row 1 .t5 a0_0, .sc (.int .i64 a0_1), .sc (.int .i64 a0_2)]]) =
  (spec_l01Below.f k a1 a0_0 a0_1 a0_2).bind fun t1 => some (spec_l01Once.e ((decide (t1.1 = 0)), t1.2.1, t1.2.2.1, t1.2.2.2)) := by kernel_rfl
set_option maxRecDepth 100000 in
theorem spec_l01Once.oke (k : Nat) (a1 : Int) (a0_0 : List Int) (a0_1 : Int) (a0_2 : Int) : goF Try.f73 spec_l01Once.ctx spec_l01Once.sp 1 spec_l01Once.en (k + 1) [.code (body Try.f73)] (startSt [.pt 0 0 0, .sc (.int .i64 a1)] [.box [.row 1 .t5 a0_0, .sc (.int .i64 a0_1), .sc (.int .i64 a0_2)]]) = (spec_l01Once.f k a1 a0_0 a0_1 a0_2).map spec_l01Once.e := by
  rw [spec_l01Once.f]; exact (spec_l01Once.te _ k a1 a0_0 a0_1 a0_2).trans (bn (fun t1 => rfl))
theorem spec_l01Once.con (k : Nat) (a1 : Int) (a0_0 : List Int) (a0_1 : Int) (a0_2 : Int) (r) (h : spec_l01Once.f k a1 a0_0 a0_1 a0_2 = some r) : Contract Try.prog kit 73 [.pt 0 0 0, .sc (.int .i64 a1)] [.box [.row 1 .t5 a0_0, .sc (.int .i64 a0_1), .sc (.int .i64 a0_2)]] (spec_l01Once.e r).1 (spec_l01Once.e r).2.1 (spec_l01Once.e r).2.2 :=
  con_okG kitOk mix (fun k => (CtxOk.cons (spec_l01Below.xok k) CtxOk.nil)) (spec_l01Once.oke k a1 a0_0 a0_1 a0_2) h (by kernel_rfl) (by kernel_rfl) (by kernel_rfl) rfl (by kernel_rfl) rfl rfl
noncomputable def spec_l01Once.x (k : Nat) : X := fun ins bs κ => match ins, bs with
  | [.pt 0 0 0, .sc (.int .i64 a1)], [.box [.row 1 .t5 a0_0, .sc (.int .i64 a0_1), .sc (.int .i64 a0_2)]] => (spec_l01Once.f k a1 a0_0 a0_1 a0_2).bind fun r => κ (spec_l01Once.e r).1 (spec_l01Once.e r).2.1 (spec_l01Once.e r).2.2
  | _, _ => none
theorem spec_l01Once.xok (k : Nat) : XOk 73 (spec_l01Once.x k) := by
  intro ins bs κ res h
  unfold spec_l01Once.x at h
  split at h
  · obtain ⟨r, hr, h⟩ := Option.bind_eq_some_iff.1 h
    exact ⟨_, _, _, spec_l01Once.con k _ _ _ _ r hr, h⟩
  · cases h

/-! ### spec_l01In: function 63 -/
noncomputable def spec_l01In.sp : Nat → Option (Spec Ty) := fun r => none
noncomputable def spec_l01In.en : Option (Spec Ty) := none
noncomputable def spec_l01In.ctx (k : Nat) : Ctx Ty D := (fun _ _ _ _ => none)
noncomputable def spec_l01In.f (k : Nat) (a0 : Int) (a1 : Int) (a2 : Int) : Option (Bool) := (if a0 ≥ a1 then (some ((decide (a0 ≤ a2)))) else (some (false)))
noncomputable def spec_l01In.e (r : Bool) : Res Ty D := (.sc (.bool r), [], [])
noncomputable abbrev spec_l01In.g (rec : List Item → St Ty D → R) (k : Nat) := go1 Try.f63 (spec_l01In.ctx k) spec_l01In.sp 0 spec_l01In.en rec
set_option maxRecDepth 100000 in
theorem spec_l01In.te (rec : List Item → St Ty D → R) (k : Nat) (a0 : Int) (a1 : Int) (a2 : Int) : spec_l01In.g rec k [.code (body Try.f63)] (startSt [.sc (.int .i64 a0), .sc (.int .i64 a1), .sc (.int .i64 a2)] []) =
  bif decide (a0 ≥ a1) then some (spec_l01In.e ((decide (a0 ≤ a2)))) else some (spec_l01In.e (false)) := by kernel_rfl
set_option maxRecDepth 100000 in
theorem spec_l01In.oke (k : Nat) (a0 : Int) (a1 : Int) (a2 : Int) : goF Try.f63 spec_l01In.ctx spec_l01In.sp 0 spec_l01In.en (k + 1) [.code (body Try.f63)] (startSt [.sc (.int .i64 a0), .sc (.int .i64 a1), .sc (.int .i64 a2)] []) = (spec_l01In.f k a0 a1 a2).map spec_l01In.e := by
  rw [spec_l01In.f]; exact (spec_l01In.te _ k a0 a1 a2).trans (cd rfl rfl)
theorem spec_l01In.con (k : Nat) (a0 : Int) (a1 : Int) (a2 : Int) (r) (h : spec_l01In.f k a0 a1 a2 = some r) : Contract Try.prog kit 63 [.sc (.int .i64 a0), .sc (.int .i64 a1), .sc (.int .i64 a2)] [] (spec_l01In.e r).1 (spec_l01In.e r).2.1 (spec_l01In.e r).2.2 :=
  con_okG kitOk mix (fun k => CtxOk.nil) (spec_l01In.oke k a0 a1 a2) h (by kernel_rfl) (by kernel_rfl) (by kernel_rfl) rfl (by kernel_rfl) rfl rfl
noncomputable def spec_l01In.x (k : Nat) : X := fun ins bs κ => match ins, bs with
  | [.sc (.int .i64 a0), .sc (.int .i64 a1), .sc (.int .i64 a2)], [] => (spec_l01In.f k a0 a1 a2).bind fun r => κ (spec_l01In.e r).1 (spec_l01In.e r).2.1 (spec_l01In.e r).2.2
  | _, _ => none
theorem spec_l01In.xok (k : Nat) : XOk 63 (spec_l01In.x k) := by
  intro ins bs κ res h
  unfold spec_l01In.x at h
  split at h
  · obtain ⟨r, hr, h⟩ := Option.bind_eq_some_iff.1 h
    exact ⟨_, _, _, spec_l01In.con k _ _ _ r hr, h⟩
  · cases h

/-! ### spec_l05Leaf: function 135 -/
noncomputable def spec_l05Leaf.sp : Nat → Option (Spec Ty) := fun r => none
noncomputable def spec_l05Leaf.en : Option (Spec Ty) := none
noncomputable def spec_l05Leaf.ctx (k : Nat) : Ctx Ty D := (cons 63 (spec_l01In.x k) (fun _ _ _ _ => none))
noncomputable def spec_l05Leaf.f (k : Nat) (a0_0 : Int) (a0_1 : ByteArray) : Option (Bool) := (if a0_0 = 0 then (some ((seq a0_1 (⟨#[]⟩ : ByteArray)))) else (if a0_0 = 1 then ((spec_l01In.f k (a0_1.size : Int) 1 120).bind fun t1 => (some (t1))) else (if a0_0 = 2 then (some ((decide ((a0_1.size : Int) ≤ 120)))) else (some (false)))))
noncomputable def spec_l05Leaf.e (r : Bool) : Res Ty D := (.sc (.bool r), [], [])
noncomputable abbrev spec_l05Leaf.g (rec : List Item → St Ty D → R) (k : Nat) := go1 Try.f135 (spec_l05Leaf.ctx k) spec_l05Leaf.sp 0 spec_l05Leaf.en rec
set_option maxRecDepth 100000 in
theorem spec_l05Leaf.te (rec : List Item → St Ty D → R) (k : Nat) (a0_0 : Int) (a0_1 : ByteArray) : spec_l05Leaf.g rec k [.code (body Try.f135)] (startSt [.ag [.sc (.int .i64 a0_0), .sc (.string a0_1)]] []) =
  bif decide (a0_0 = 0) then some (spec_l05Leaf.e ((seq a0_1 (⟨#[]⟩ : ByteArray)))) else bif decide (a0_0 = 1) then (spec_l01In.f k (a0_1.size : Int) 1 120).bind fun t1 => some (spec_l05Leaf.e (t1)) else bif decide (a0_0 = 2) then some (spec_l05Leaf.e ((decide ((a0_1.size : Int) ≤ 120)))) else some (spec_l05Leaf.e (false)) := by kernel_rfl
set_option maxRecDepth 100000 in
theorem spec_l05Leaf.oke (k : Nat) (a0_0 : Int) (a0_1 : ByteArray) : goF Try.f135 spec_l05Leaf.ctx spec_l05Leaf.sp 0 spec_l05Leaf.en (k + 1) [.code (body Try.f135)] (startSt [.ag [.sc (.int .i64 a0_0), .sc (.string a0_1)]] []) = (spec_l05Leaf.f k a0_0 a0_1).map spec_l05Leaf.e := by
  rw [spec_l05Leaf.f]; exact (spec_l05Leaf.te _ k a0_0 a0_1).trans (cd rfl (cd (bn (fun t1 => rfl)) (cd rfl rfl)))
theorem spec_l05Leaf.con (k : Nat) (a0_0 : Int) (a0_1 : ByteArray) (r) (h : spec_l05Leaf.f k a0_0 a0_1 = some r) : Contract Try.prog kit 135 [.ag [.sc (.int .i64 a0_0), .sc (.string a0_1)]] [] (spec_l05Leaf.e r).1 (spec_l05Leaf.e r).2.1 (spec_l05Leaf.e r).2.2 :=
  con_okG kitOk mix (fun k => (CtxOk.cons (spec_l01In.xok k) CtxOk.nil)) (spec_l05Leaf.oke k a0_0 a0_1) h (by kernel_rfl) (by kernel_rfl) (by kernel_rfl) rfl (by kernel_rfl) rfl rfl
noncomputable def spec_l05Leaf.x (k : Nat) : X := fun ins bs κ => match ins, bs with
  | [.ag [.sc (.int .i64 a0_0), .sc (.string a0_1)]], [] => (spec_l05Leaf.f k a0_0 a0_1).bind fun r => κ (spec_l05Leaf.e r).1 (spec_l05Leaf.e r).2.1 (spec_l05Leaf.e r).2.2
  | _, _ => none
theorem spec_l05Leaf.xok (k : Nat) : XOk 135 (spec_l05Leaf.x k) := by
  intro ins bs κ res h
  unfold spec_l05Leaf.x at h
  split at h
  · obtain ⟨r, hr, h⟩ := Option.bind_eq_some_iff.1 h
    exact ⟨_, _, _, spec_l05Leaf.con k _ _ r hr, h⟩
  · cases h

/-! ### spec_FlashOk: function 108 -/
noncomputable def spec_FlashOk.sp : Nat → Option (Spec Ty) := fun r => bif Nat.beq r 2 then some ⟨[(1, .box [.keep]), (3, .keep)], []⟩ else bif Nat.beq r 8 then some ⟨[(1, .box [.keep]), (3, .keep), (4, .box [.keep, .keep, .keep]), (5, .keep), (23, .box [.keep, .keep, .keep]), (24, .keep), (25, .keep), (26, .keep)], []⟩ else none
noncomputable def spec_FlashOk.en : Option (Spec Ty) := none
noncomputable def spec_FlashOk.s2 (x3 : Int) (h64_0 : List S83) : St Ty D := ⟨(Env.put (Env.put E (some 1) (.pt 64 0 0)) (some 3) (.sc (.int .i64 x3))), Heap.put H0 [(64, some (.box [.row 0 .t83 h64_0]))], 1000⟩
noncomputable def spec_FlashOk.s8 (x3 : Int) (x5 : Int) (x24 : Int) (x25 : Bool) (x26 : Bool) (h64_0 : List S83) (h65_0 : Bool) (h65_1 : Int) (h65_2 : List S101) : St Ty D := ⟨(Env.put (Env.put (Env.put (Env.put (Env.put (Env.put (Env.put (Env.put E (some 1) (.pt 64 0 0)) (some 3) (.sc (.int .i64 x3))) (some 4) (.pt 65 0 0)) (some 5) (.sc (.int .i64 x5))) (some 23) (.pt 65 0 1)) (some 24) (.sc (.int .i64 x24))) (some 25) (.sc (.bool x25))) (some 26) (.sc (.bool x26))), Heap.put H0 [(64, some (.box [.row 0 .t83 h64_0])), (65, some (.box [.sc (.bool h65_0), .sc (.int .i64 h65_1), .row 0 .t101 h65_2]))], 1000⟩
noncomputable def spec_FlashOk.ctx (k : Nat) : Ctx Ty D := (cons 63 (spec_l01In.x k) (cons 135 (spec_l05Leaf.x k) (fun _ _ _ _ => none)))
mutual
noncomputable def spec_FlashOk.c2 : Nat → Int → (List S83) → Option (Bool)
  | 0, _, _ => none
  | k + 1, x3, h64_0 => (if x3 < (h64_0.length : Int) then (if 0 ≤ x3 then (if x3 < (h64_0.length : Int) then (if (((rd_T83 h64_0 x3).f2).length : Int) = 4 then ((spec_l01In.f k ((rd_T83 h64_0 x3).f1) 0 1000000000).bind fun t1 => (if t1 = true then (spec_FlashOk.c8 k x3 0 ((rd_T83 h64_0 x3).f1) t1 (!t1) h64_0 ((rd_T83 h64_0 x3).f0) ((rd_T83 h64_0 x3).f1) ((rd_T83 h64_0 x3).f2)) else (some (false)))) else (some (false))) else none) else none) else ((spec_l01In.f k (h64_0.length : Int) 3 10).bind fun t2 => (some (t2))))
noncomputable def spec_FlashOk.c8 : Nat → Int → Int → Int → Bool → Bool → (List S83) → Bool → Int → (List S101) → Option (Bool)
  | 0, _, _, _, _, _, _, _, _, _ => none
  | k + 1, x3, x5, x24, x25, x26, h64_0, h65_0, h65_1, h65_2 => (if x5 < (h65_2.length : Int) then (if 0 ≤ x5 then (if x5 < (h65_2.length : Int) then ((spec_l05Leaf.f k ((rd_T101 h65_2 x5).f0) ((rd_T101 h65_2 x5).f1)).bind fun t3 => (if t3 = true then (if x5 > 0 then (if 0 ≤ (w64 (x5 - 1)) then (if (w64 (x5 - 1)) < (h65_2.length : Int) then (if ((rd_T101 h65_2 (w64 (x5 - 1))).f0) = 0 then (if 0 ≤ x5 then (if x5 < (h65_2.length : Int) then (if ((rd_T101 h65_2 x5).f0) = 0 then (spec_FlashOk.c8 k x3 (w64 (x5 + 1)) x24 x25 x26 h64_0 h65_0 h65_1 h65_2) else (some (false))) else none) else none) else (spec_FlashOk.c8 k x3 (w64 (x5 + 1)) x24 x25 x26 h64_0 h65_0 h65_1 h65_2)) else none) else none) else (spec_FlashOk.c8 k x3 (w64 (x5 + 1)) x24 x25 x26 h64_0 h65_0 h65_1 h65_2)) else (some (false)))) else none) else none) else (spec_FlashOk.c2 k (w64 (x3 + 1)) h64_0))
end
noncomputable def spec_FlashOk.f (k : Nat) (a0_0 : List S83) : Option (Bool) := (spec_FlashOk.c2 k 0 a0_0)
noncomputable def spec_FlashOk.e (r : Bool) : Res Ty D := (.sc (.bool r), [], [])
noncomputable abbrev spec_FlashOk.g (rec : List Item → St Ty D → R) (k : Nat) := go1 Try.f108 (spec_FlashOk.ctx k) spec_FlashOk.sp 0 spec_FlashOk.en rec
set_option maxRecDepth 100000 in
theorem spec_FlashOk.t2 (rec : List Item → St Ty D → R) (k : Nat) (x3 : Int) (h64_0 : List S83) : spec_FlashOk.g rec k (td Try.f108 2) (spec_FlashOk.s2 x3 h64_0) =
  bif decide (x3 < (h64_0.length : Int)) then bif decide (0 ≤ x3) then bif decide (x3 < (h64_0.length : Int)) then bif !decide ((((rd_T83 h64_0 x3).f2).length : Int) = 4) then some (spec_FlashOk.e (false)) else (spec_l01In.f k ((rd_T83 h64_0 x3).f1) 0 1000000000).bind fun t1 => bif !t1 then some (spec_FlashOk.e (false)) else rec (td Try.f108 8) (spec_FlashOk.s8 x3 0 ((rd_T83 h64_0 x3).f1) t1 (!t1) h64_0 ((rd_T83 h64_0 x3).f0) ((rd_T83 h64_0 x3).f1) ((rd_T83 h64_0 x3).f2)) else none else none else (spec_l01In.f k (h64_0.length : Int) 3 10).bind fun t2 => some (spec_FlashOk.e (t2)) := by kernel_rfl
set_option maxRecDepth 100000 in
theorem spec_FlashOk.t8 (rec : List Item → St Ty D → R) (k : Nat) (x3 : Int) (x5 : Int) (x24 : Int) (x25 : Bool) (x26 : Bool) (h64_0 : List S83) (h65_0 : Bool) (h65_1 : Int) (h65_2 : List S101) : spec_FlashOk.g rec k (td Try.f108 8) (spec_FlashOk.s8 x3 x5 x24 x25 x26 h64_0 h65_0 h65_1 h65_2) =
  bif decide (x5 < (h65_2.length : Int)) then bif decide (0 ≤ x5) then bif decide (x5 < (h65_2.length : Int)) then (spec_l05Leaf.f k ((rd_T101 h65_2 x5).f0) ((rd_T101 h65_2 x5).f1)).bind fun t3 => bif !t3 then some (spec_FlashOk.e (false)) else bif decide (x5 > 0) then bif decide (0 ≤ (w64 (x5 - 1))) then bif decide ((w64 (x5 - 1)) < (h65_2.length : Int)) then bif decide (((rd_T101 h65_2 (w64 (x5 - 1))).f0) = 0) then bif decide (0 ≤ x5) then bif decide (x5 < (h65_2.length : Int)) then bif !decide (((rd_T101 h65_2 x5).f0) = 0) then some (spec_FlashOk.e (false)) else rec (td Try.f108 8) (spec_FlashOk.s8 x3 (w64 (x5 + 1)) x24 x25 x26 h64_0 h65_0 h65_1 h65_2) else none else none else rec (td Try.f108 8) (spec_FlashOk.s8 x3 (w64 (x5 + 1)) x24 x25 x26 h64_0 h65_0 h65_1 h65_2) else none else none else rec (td Try.f108 8) (spec_FlashOk.s8 x3 (w64 (x5 + 1)) x24 x25 x26 h64_0 h65_0 h65_1 h65_2) else none else none else rec (td Try.f108 2) (spec_FlashOk.s2 (w64 (x3 + 1)) h64_0) := by kernel_rfl
set_option maxRecDepth 100000 in
theorem spec_FlashOk.te (rec : List Item → St Ty D → R) (k : Nat) (a0_0 : List S83) : spec_FlashOk.g rec k [.code (body Try.f108)] (startSt [.ag [.row 0 .t83 a0_0]] []) =
  rec (td Try.f108 2) (spec_FlashOk.s2 0 a0_0) := by kernel_rfl
set_option maxRecDepth 100000 in
theorem spec_FlashOk.ok : ∀ k : Nat, (∀ (x3 : Int) (h64_0 : List S83), goF Try.f108 spec_FlashOk.ctx spec_FlashOk.sp 0 spec_FlashOk.en k (td Try.f108 2) (spec_FlashOk.s2 x3 h64_0) = (spec_FlashOk.c2 k x3 h64_0).map spec_FlashOk.e) ∧ (∀ (x3 : Int) (x5 : Int) (x24 : Int) (x25 : Bool) (x26 : Bool) (h64_0 : List S83) (h65_0 : Bool) (h65_1 : Int) (h65_2 : List S101), goF Try.f108 spec_FlashOk.ctx spec_FlashOk.sp 0 spec_FlashOk.en k (td Try.f108 8) (spec_FlashOk.s8 x3 x5 x24 x25 x26 h64_0 h65_0 h65_1 h65_2) = (spec_FlashOk.c8 k x3 x5 x24 x25 x26 h64_0 h65_0 h65_1 h65_2).map spec_FlashOk.e)
  | 0 => ⟨fun _ _ => rfl, fun _ _ _ _ _ _ _ _ _ => rfl⟩
  | k + 1 => by
    have ih := spec_FlashOk.ok k
    obtain ⟨i2, i8⟩ := ih
    refine ⟨?_, ?_⟩
    · intro x3 h64_0; rw [spec_FlashOk.c2]; exact (spec_FlashOk.t2 _ k x3 h64_0).trans (cd (cd (cd (nd rfl (bn (fun t1 => (nb rfl (i8 _ _ _ _ _ _ _ _ _))))) rfl) rfl) (bn (fun t2 => rfl)))
    · intro x3 x5 x24 x25 x26 h64_0 h65_0 h65_1 h65_2; rw [spec_FlashOk.c8]; exact (spec_FlashOk.t8 _ k x3 x5 x24 x25 x26 h64_0 h65_0 h65_1 h65_2).trans (cd (cd (cd (bn (fun t3 => (nb rfl (cd (cd (cd (cd (cd (cd (nd rfl (i8 _ _ _ _ _ _ _ _ _)) rfl) rfl) (i8 _ _ _ _ _ _ _ _ _)) rfl) rfl) (i8 _ _ _ _ _ _ _ _ _))))) rfl) rfl) (i2 _ _))
set_option maxRecDepth 100000 in
theorem spec_FlashOk.oke (k : Nat) (a0_0 : List S83) : goF Try.f108 spec_FlashOk.ctx spec_FlashOk.sp 0 spec_FlashOk.en (k + 1) [.code (body Try.f108)] (startSt [.ag [.row 0 .t83 a0_0]] []) = (spec_FlashOk.f k a0_0).map spec_FlashOk.e := by
  obtain ⟨i2, i8⟩ := spec_FlashOk.ok k
  rw [spec_FlashOk.f]; exact (spec_FlashOk.te _ k a0_0).trans (i2 _ _)
theorem spec_FlashOk.con (k : Nat) (a0_0 : List S83) (r) (h : spec_FlashOk.f k a0_0 = some r) : Contract Try.prog kit 108 [.ag [.row 0 .t83 a0_0]] [] (spec_FlashOk.e r).1 (spec_FlashOk.e r).2.1 (spec_FlashOk.e r).2.2 :=
  con_okG kitOk mix (fun k => (CtxOk.cons (spec_l01In.xok k) (CtxOk.cons (spec_l05Leaf.xok k) CtxOk.nil))) (spec_FlashOk.oke k a0_0) h (by kernel_rfl) (by kernel_rfl) (by kernel_rfl) rfl (by kernel_rfl) rfl rfl
noncomputable def spec_FlashOk.x (k : Nat) : X := fun ins bs κ => match ins, bs with
  | [.ag [.row 0 .t83 a0_0]], [] => (spec_FlashOk.f k a0_0).bind fun r => κ (spec_FlashOk.e r).1 (spec_FlashOk.e r).2.1 (spec_FlashOk.e r).2.2
  | _, _ => none
theorem spec_FlashOk.xok (k : Nat) : XOk 108 (spec_FlashOk.x k) := by
  intro ins bs κ res h
  unfold spec_FlashOk.x at h
  split at h
  · obtain ⟨r, hr, h⟩ := Option.bind_eq_some_iff.1 h
    exact ⟨_, _, _, spec_FlashOk.con k _ r hr, h⟩
  · cases h

/-! ### spec_NextBlank: function 113 -/
noncomputable def spec_NextBlank.sp : Nat → Option (Spec Ty) := fun r => bif Nat.beq r 2 then some ⟨[(1, .box [.keep, .keep, .keep]), (3, .keep)], []⟩ else none
noncomputable def spec_NextBlank.en : Option (Spec Ty) := none
noncomputable def spec_NextBlank.s2 (x3 : Int) (h64_0 : Bool) (h64_1 : Int) (h64_2 : List S101) : St Ty D := ⟨(Env.put (Env.put E (some 1) (.pt 64 0 0)) (some 3) (.sc (.int .i64 x3))), Heap.put H0 [(64, some (.box [.sc (.bool h64_0), .sc (.int .i64 h64_1), .row 0 .t101 h64_2]))], 1000⟩
noncomputable def spec_NextBlank.ctx (k : Nat) : Ctx Ty D := (fun _ _ _ _ => none)
noncomputable def spec_NextBlank.c2 : Nat → Int → Bool → Int → (List S101) → Option (Int)
  | 0, _, _, _, _ => none
  | k + 1, x3, h64_0, h64_1, h64_2 => (if x3 < (h64_2.length : Int) then (if 0 ≤ x3 then (if x3 < (h64_2.length : Int) then (if ((rd_T101 h64_2 x3).f0) = 0 then (some (x3)) else (spec_NextBlank.c2 k (w64 (x3 + 1)) h64_0 h64_1 h64_2)) else none) else none) else (some (4)))
noncomputable def spec_NextBlank.f (k : Nat) (a0_0 : Bool) (a0_1 : Int) (a0_2 : List S101) : Option (Int) := (spec_NextBlank.c2 k 0 a0_0 a0_1 a0_2)
noncomputable def spec_NextBlank.e (r : Int) : Res Ty D := (.sc (.int .i64 r), [], [])
noncomputable abbrev spec_NextBlank.g (rec : List Item → St Ty D → R) (k : Nat) := go1 Try.f113 (spec_NextBlank.ctx k) spec_NextBlank.sp 0 spec_NextBlank.en rec
set_option maxRecDepth 100000 in
theorem spec_NextBlank.t2 (rec : List Item → St Ty D → R) (k : Nat) (x3 : Int) (h64_0 : Bool) (h64_1 : Int) (h64_2 : List S101) : spec_NextBlank.g rec k (td Try.f113 2) (spec_NextBlank.s2 x3 h64_0 h64_1 h64_2) =
  bif decide (x3 < (h64_2.length : Int)) then bif decide (0 ≤ x3) then bif decide (x3 < (h64_2.length : Int)) then bif decide (((rd_T101 h64_2 x3).f0) = 0) then some (spec_NextBlank.e (x3)) else rec (td Try.f113 2) (spec_NextBlank.s2 (w64 (x3 + 1)) h64_0 h64_1 h64_2) else none else none else some (spec_NextBlank.e (4)) := by kernel_rfl
set_option maxRecDepth 100000 in
theorem spec_NextBlank.te (rec : List Item → St Ty D → R) (k : Nat) (a0_0 : Bool) (a0_1 : Int) (a0_2 : List S101) : spec_NextBlank.g rec k [.code (body Try.f113)] (startSt [.ag [.sc (.bool a0_0), .sc (.int .i64 a0_1), .row 0 .t101 a0_2]] []) =
  rec (td Try.f113 2) (spec_NextBlank.s2 0 a0_0 a0_1 a0_2) := by kernel_rfl
set_option maxRecDepth 100000 in
theorem spec_NextBlank.ok : ∀ k : Nat, (∀ (x3 : Int) (h64_0 : Bool) (h64_1 : Int) (h64_2 : List S101), goF Try.f113 spec_NextBlank.ctx spec_NextBlank.sp 0 spec_NextBlank.en k (td Try.f113 2) (spec_NextBlank.s2 x3 h64_0 h64_1 h64_2) = (spec_NextBlank.c2 k x3 h64_0 h64_1 h64_2).map spec_NextBlank.e)
  | 0 => fun _ _ _ _ => rfl
  | k + 1 => by
    have ih := spec_NextBlank.ok k
    have i2 := ih
    intro x3 h64_0 h64_1 h64_2; rw [spec_NextBlank.c2]; exact (spec_NextBlank.t2 _ k x3 h64_0 h64_1 h64_2).trans (cd (cd (cd (cd rfl (i2 _ _ _ _)) rfl) rfl) rfl)
set_option maxRecDepth 100000 in
theorem spec_NextBlank.oke (k : Nat) (a0_0 : Bool) (a0_1 : Int) (a0_2 : List S101) : goF Try.f113 spec_NextBlank.ctx spec_NextBlank.sp 0 spec_NextBlank.en (k + 1) [.code (body Try.f113)] (startSt [.ag [.sc (.bool a0_0), .sc (.int .i64 a0_1), .row 0 .t101 a0_2]] []) = (spec_NextBlank.f k a0_0 a0_1 a0_2).map spec_NextBlank.e := by
  have i2 := spec_NextBlank.ok k
  rw [spec_NextBlank.f]; exact (spec_NextBlank.te _ k a0_0 a0_1 a0_2).trans (i2 _ _ _ _)
theorem spec_NextBlank.con (k : Nat) (a0_0 : Bool) (a0_1 : Int) (a0_2 : List S101) (r) (h : spec_NextBlank.f k a0_0 a0_1 a0_2 = some r) : Contract Try.prog kit 113 [.ag [.sc (.bool a0_0), .sc (.int .i64 a0_1), .row 0 .t101 a0_2]] [] (spec_NextBlank.e r).1 (spec_NextBlank.e r).2.1 (spec_NextBlank.e r).2.2 :=
  con_okG kitOk mix (fun k => CtxOk.nil) (spec_NextBlank.oke k a0_0 a0_1 a0_2) h (by kernel_rfl) (by kernel_rfl) (by kernel_rfl) rfl (by kernel_rfl) rfl rfl
noncomputable def spec_NextBlank.x (k : Nat) : X := fun ins bs κ => match ins, bs with
  | [.ag [.sc (.bool a0_0), .sc (.int .i64 a0_1), .row 0 .t101 a0_2]], [] => (spec_NextBlank.f k a0_0 a0_1 a0_2).bind fun r => κ (spec_NextBlank.e r).1 (spec_NextBlank.e r).2.1 (spec_NextBlank.e r).2.2
  | _, _ => none
theorem spec_NextBlank.xok (k : Nat) : XOk 113 (spec_NextBlank.x k) := by
  intro ins bs κ res h
  unfold spec_NextBlank.x at h
  split at h
  · obtain ⟨r, hr, h⟩ := Option.bind_eq_some_iff.1 h
    exact ⟨_, _, _, spec_NextBlank.con k _ _ _ r hr, h⟩
  · cases h
end Go.Proofs.Ytklkhnomnanpoaa.M2

/- Plain runs of functions: each is a plain Lean function, and keeps its contract. Written by a program of this session. -/
namespace Go.Proofs.Ytklkhnomnanpoaa.M2
open Go Go.Proofs.Ytklkhnomnanpoaa.PK
set_option linter.unusedVariables false
set_option linter.unusedSimpArgs false
set_option maxHeartbeats 4000000
/-! ### spec_l05May: function 109 -/
noncomputable def spec_l05May.sp : Nat → Option (Spec Ty) := fun r => none
noncomputable def spec_l05May.en : Option (Spec Ty) := none
noncomputable def spec_l05May.ctx (k : Nat) : Ctx Ty D := (cons 63 (spec_l01In.x k) (cons 113 (spec_NextBlank.x k) (fun _ _ _ _ => none)))
noncomputable def spec_l05May.f (k : Nat) (a0_0 : List S83) (a1 : Int) (a2 : Int) (a3 : ByteArray) : Option (Bool) := ((spec_l01In.f k a1 0 (w64 ((a0_0.length : Int) - 1))).bind fun t1 => (if t1 = true then (if 0 ≤ a1 then (if a1 < (a0_0.length : Int) then (if ((rd_T83 a0_0 a1).f0) = true then (some (false)) else (if a2 < 4 then (if 0 ≤ a1 then (if a1 < (a0_0.length : Int) then ((spec_NextBlank.f k ((rd_T83 a0_0 a1).f0) ((rd_T83 a0_0 a1).f1) ((rd_T83 a0_0 a1).f2)).bind fun t2 => (if a2 = t2 then ((spec_l01In.f k (a3.size : Int) 1 120).bind fun t3 => (some (t3))) else (some (false)))) else none) else none) else (some (false)))) else none) else none) else (some (false))))
noncomputable def spec_l05May.e (r : Bool) : Res Ty D := (.sc (.bool r), [], [])
noncomputable abbrev spec_l05May.g (rec : List Item → St Ty D → R) (k : Nat) := go1 Try.f109 (spec_l05May.ctx k) spec_l05May.sp 0 spec_l05May.en rec
set_option maxRecDepth 100000 in
theorem spec_l05May.te (rec : List Item → St Ty D → R) (k : Nat) (a0_0 : List S83) (a1 : Int) (a2 : Int) (a3 : ByteArray) : spec_l05May.g rec k [.code (body Try.f109)] (startSt [.ag [.row 0 .t83 a0_0], .sc (.int .i64 a1), .sc (.int .i64 a2), .sc (.string a3)] []) =
  (spec_l01In.f k a1 0 (w64 ((a0_0.length : Int) - 1))).bind fun t1 => bif t1 then bif decide (0 ≤ a1) then bif decide (a1 < (a0_0.length : Int)) then bif !((rd_T83 a0_0 a1).f0) then bif decide (a2 < 4) then bif decide (0 ≤ a1) then bif decide (a1 < (a0_0.length : Int)) then (spec_NextBlank.f k ((rd_T83 a0_0 a1).f0) ((rd_T83 a0_0 a1).f1) ((rd_T83 a0_0 a1).f2)).bind fun t2 => bif decide (a2 = t2) then (spec_l01In.f k (a3.size : Int) 1 120).bind fun t3 => some (spec_l05May.e (t3)) else some (spec_l05May.e (false)) else none else none else some (spec_l05May.e (false)) else some (spec_l05May.e (false)) else none else none else some (spec_l05May.e (false)) := by kernel_rfl
set_option maxRecDepth 100000 in
theorem spec_l05May.oke (k : Nat) (a0_0 : List S83) (a1 : Int) (a2 : Int) (a3 : ByteArray) : goF Try.f109 spec_l05May.ctx spec_l05May.sp 0 spec_l05May.en (k + 1) [.code (body Try.f109)] (startSt [.ag [.row 0 .t83 a0_0], .sc (.int .i64 a1), .sc (.int .i64 a2), .sc (.string a3)] []) = (spec_l05May.f k a0_0 a1 a2 a3).map spec_l05May.e := by
  rw [spec_l05May.f]; exact (spec_l05May.te _ k a0_0 a1 a2 a3).trans (bn (fun t1 => (cb (cd (cd (nb (cd (cd (cd (bn (fun t2 => (cd (bn (fun t3 => rfl)) rfl))) rfl) rfl) rfl) rfl) rfl) rfl) rfl)))
theorem spec_l05May.con (k : Nat) (a0_0 : List S83) (a1 : Int) (a2 : Int) (a3 : ByteArray) (r) (h : spec_l05May.f k a0_0 a1 a2 a3 = some r) : Contract Try.prog kit 109 [.ag [.row 0 .t83 a0_0], .sc (.int .i64 a1), .sc (.int .i64 a2), .sc (.string a3)] [] (spec_l05May.e r).1 (spec_l05May.e r).2.1 (spec_l05May.e r).2.2 :=
  con_okG kitOk mix (fun k => (CtxOk.cons (spec_l01In.xok k) (CtxOk.cons (spec_NextBlank.xok k) CtxOk.nil))) (spec_l05May.oke k a0_0 a1 a2 a3) h (by kernel_rfl) (by kernel_rfl) (by kernel_rfl) rfl (by kernel_rfl) rfl rfl
noncomputable def spec_l05May.x (k : Nat) : X := fun ins bs κ => match ins, bs with
  | [.ag [.row 0 .t83 a0_0], .sc (.int .i64 a1), .sc (.int .i64 a2), .sc (.string a3)], [] => (spec_l05May.f k a0_0 a1 a2 a3).bind fun r => κ (spec_l05May.e r).1 (spec_l05May.e r).2.1 (spec_l05May.e r).2.2
  | _, _ => none
theorem spec_l05May.xok (k : Nat) : XOk 109 (spec_l05May.x k) := by
  intro ins bs κ res h
  unfold spec_l05May.x at h
  split at h
  · obtain ⟨r, hr, h⟩ := Option.bind_eq_some_iff.1 h
    exact ⟨_, _, _, spec_l05May.con k _ _ _ _ r hr, h⟩
  · cases h

/-! ### spec_Program: function 86 -/
noncomputable def spec_Program.sp : Nat → Option (Spec Ty) := fun r => none
noncomputable def spec_Program.en : Option (Spec Ty) := some ⟨[(8, .box [.own .t83]), (9, .keep)], []⟩
noncomputable def spec_Program.ctx (k : Nat) : Ctx Ty D := (cons 56 (spec_l05Copy.x k) (cons 108 (spec_FlashOk.x k) (cons 109 (spec_l05May.x k) (fun _ _ _ _ => none))))
noncomputable def spec_Program.f (k : Nat) (a0_0 : List S83) (a1 : Int) (a2 : Int) (a3 : ByteArray) : Option ((List S83) × Bool) := ((spec_l05Copy.f k a0_0).bind fun t1 => ((spec_FlashOk.f k a0_0).bind fun t2 => (if t2 = true then ((spec_l05May.f k a0_0 a1 a2 a3).bind fun t3 => (if t3 = true then (if 0 ≤ a1 then (if a1 < (t1.length : Int) then (if 0 ≤ a2 then (if a2 < (((rd_T83 t1 a1).f2).length : Int) then (some ((t1.set a1.toNat (S83.mk ((rd_T83 t1 a1).f0) ((rd_T83 t1 a1).f1) (((rd_T83 t1 a1).f2).set a2.toNat (S101.mk 1 a3)))), true)) else none) else none) else none) else none) else (some (t1, false)))) else (some (t1, false)))))
noncomputable def spec_Program.e (r : (List S83) × Bool) : Res Ty D := (.tu [.ag [.sl 0 none], .sc (.bool r.2)], [], [.rowb .t83 r.1 0])
noncomputable abbrev spec_Program.g (rec : List Item → St Ty D → R) (k : Nat) := go1 Try.f86 (spec_Program.ctx k) spec_Program.sp 0 spec_Program.en rec
set_option maxRecDepth 100000 in
theorem spec_Program.te (rec : List Item → St Ty D → R) (k : Nat) (a0_0 : List S83) (a1 : Int) (a2 : Int) (a3 : ByteArray) : spec_Program.g rec k [.code (body Try.f86)] (startSt [.ag [.row 0 .t83 a0_0], .sc (.int .i64 a1), .sc (.int .i64 a2), .sc (.string a3)] []) =
  (spec_l05Copy.f k a0_0).bind fun t1 => (spec_FlashOk.f k a0_0).bind fun t2 => bif !t2 then some (spec_Program.e (t1, false)) else (spec_l05May.f k a0_0 a1 a2 a3).bind fun t3 => bif !t3 then some (spec_Program.e (t1, false)) else bif decide (0 ≤ a1) then bif decide (a1 < (t1.length : Int)) then bif decide (0 ≤ a2) then bif decide (a2 < (((rd_T83 t1 a1).f2).length : Int)) then some (spec_Program.e ((t1.set a1.toNat (S83.mk ((rd_T83 t1 a1).f0) ((rd_T83 t1 a1).f1) (((rd_T83 t1 a1).f2).set a2.toNat (S101.mk 1 a3)))), true)) else none else none else none else none := by kernel_rfl
set_option maxRecDepth 100000 in
theorem spec_Program.oke (k : Nat) (a0_0 : List S83) (a1 : Int) (a2 : Int) (a3 : ByteArray) : goF Try.f86 spec_Program.ctx spec_Program.sp 0 spec_Program.en (k + 1) [.code (body Try.f86)] (startSt [.ag [.row 0 .t83 a0_0], .sc (.int .i64 a1), .sc (.int .i64 a2), .sc (.string a3)] []) = (spec_Program.f k a0_0 a1 a2 a3).map spec_Program.e := by
  rw [spec_Program.f]; exact (spec_Program.te _ k a0_0 a1 a2 a3).trans (bn (fun t1 => (bn (fun t2 => (nb rfl (bn (fun t3 => (nb rfl (cd (cd (cd (cd rfl rfl) rfl) rfl) rfl)))))))))
theorem spec_Program.con (k : Nat) (a0_0 : List S83) (a1 : Int) (a2 : Int) (a3 : ByteArray) (r) (h : spec_Program.f k a0_0 a1 a2 a3 = some r) : Contract Try.prog kit 86 [.ag [.row 0 .t83 a0_0], .sc (.int .i64 a1), .sc (.int .i64 a2), .sc (.string a3)] [] (spec_Program.e r).1 (spec_Program.e r).2.1 (spec_Program.e r).2.2 :=
  con_okG kitOk mix (fun k => (CtxOk.cons (spec_l05Copy.xok k) (CtxOk.cons (spec_FlashOk.xok k) (CtxOk.cons (spec_l05May.xok k) CtxOk.nil)))) (spec_Program.oke k a0_0 a1 a2 a3) h (by kernel_rfl) (by kernel_rfl) (by kernel_rfl) rfl (by kernel_rfl) rfl rfl
noncomputable def spec_Program.x (k : Nat) : X := fun ins bs κ => match ins, bs with
  | [.ag [.row 0 .t83 a0_0], .sc (.int .i64 a1), .sc (.int .i64 a2), .sc (.string a3)], [] => (spec_Program.f k a0_0 a1 a2 a3).bind fun r => κ (spec_Program.e r).1 (spec_Program.e r).2.1 (spec_Program.e r).2.2
  | _, _ => none
theorem spec_Program.xok (k : Nat) : XOk 86 (spec_Program.x k) := by
  intro ins bs κ res h
  unfold spec_Program.x at h
  split at h
  · obtain ⟨r, hr, h⟩ := Option.bind_eq_some_iff.1 h
    exact ⟨_, _, _, spec_Program.con k _ _ _ _ r hr, h⟩
  · cases h

/-! ### spec_Wipe: function 87 -/
noncomputable def spec_Wipe.sp : Nat → Option (Spec Ty) := fun r => none
noncomputable def spec_Wipe.en : Option (Spec Ty) := some ⟨[(4, .box [.own .t83]), (5, .keep)], []⟩
noncomputable def spec_Wipe.ctx (k : Nat) : Ctx Ty D := (cons 56 (spec_l05Copy.x k) (cons 63 (spec_l01In.x k) (cons 108 (spec_FlashOk.x k) (fun _ _ _ _ => none))))
noncomputable def spec_Wipe.f (k : Nat) (a0_0 : List S83) (a1 : Int) : Option ((List S83) × Bool) := ((spec_l05Copy.f k a0_0).bind fun t1 => ((spec_FlashOk.f k a0_0).bind fun t2 => (if t2 = true then ((spec_l01In.f k a1 0 (w64 ((a0_0.length : Int) - 1))).bind fun t3 => (if t3 = true then (if 0 ≤ a1 then (if a1 < (a0_0.length : Int) then (if ((rd_T83 a0_0 a1).f0) = true then (some (t1, false)) else (if 0 ≤ a1 then (if a1 < (a0_0.length : Int) then (if ((rd_T83 a0_0 a1).f1) = 1000000000 then (some (t1, false)) else (if 0 ≤ a1 then (if a1 < (a0_0.length : Int) then (if 0 ≤ a1 then (if a1 < (t1.length : Int) then (some ((t1.set a1.toNat (S83.mk false (w64 (((rd_T83 a0_0 a1).f1) + 1)) (List.replicate 4 z101))), true)) else none) else none) else none) else none)) else none) else none)) else none) else none) else (some (t1, false)))) else (some (t1, false)))))
noncomputable def spec_Wipe.e (r : (List S83) × Bool) : Res Ty D := (.tu [.ag [.sl 0 none], .sc (.bool r.2)], [], [.rowb .t83 r.1 0])
noncomputable abbrev spec_Wipe.g (rec : List Item → St Ty D → R) (k : Nat) := go1 Try.f87 (spec_Wipe.ctx k) spec_Wipe.sp 0 spec_Wipe.en rec
set_option maxRecDepth 100000 in
theorem spec_Wipe.te (rec : List Item → St Ty D → R) (k : Nat) (a0_0 : List S83) (a1 : Int) : spec_Wipe.g rec k [.code (body Try.f87)] (startSt [.ag [.row 0 .t83 a0_0], .sc (.int .i64 a1)] []) =
  (spec_l05Copy.f k a0_0).bind fun t1 => (spec_FlashOk.f k a0_0).bind fun t2 => bif !t2 then some (spec_Wipe.e (t1, false)) else (spec_l01In.f k a1 0 (w64 ((a0_0.length : Int) - 1))).bind fun t3 => bif !t3 then some (spec_Wipe.e (t1, false)) else bif decide (0 ≤ a1) then bif decide (a1 < (a0_0.length : Int)) then bif ((rd_T83 a0_0 a1).f0) then some (spec_Wipe.e (t1, false)) else bif decide (0 ≤ a1) then bif decide (a1 < (a0_0.length : Int)) then bif decide (((rd_T83 a0_0 a1).f1) = 1000000000) then some (spec_Wipe.e (t1, false)) else bif decide (0 ≤ a1) then bif decide (a1 < (a0_0.length : Int)) then bif decide (0 ≤ a1) then bif decide (a1 < (t1.length : Int)) then some (spec_Wipe.e ((t1.set a1.toNat (S83.mk false (w64 (((rd_T83 a0_0 a1).f1) + 1)) (List.replicate 4 z101))), true)) else none else none else none else none else none else none else none else none := by kernel_rfl
set_option maxRecDepth 100000 in
theorem spec_Wipe.oke (k : Nat) (a0_0 : List S83) (a1 : Int) : goF Try.f87 spec_Wipe.ctx spec_Wipe.sp 0 spec_Wipe.en (k + 1) [.code (body Try.f87)] (startSt [.ag [.row 0 .t83 a0_0], .sc (.int .i64 a1)] []) = (spec_Wipe.f k a0_0 a1).map spec_Wipe.e := by
  rw [spec_Wipe.f]; exact (spec_Wipe.te _ k a0_0 a1).trans (bn (fun t1 => (bn (fun t2 => (nb rfl (bn (fun t3 => (nb rfl (cd (cd (cb rfl (cd (cd (cd rfl (cd (cd (cd (cd rfl rfl) rfl) rfl) rfl)) rfl) rfl)) rfl) rfl)))))))))
theorem spec_Wipe.con (k : Nat) (a0_0 : List S83) (a1 : Int) (r) (h : spec_Wipe.f k a0_0 a1 = some r) : Contract Try.prog kit 87 [.ag [.row 0 .t83 a0_0], .sc (.int .i64 a1)] [] (spec_Wipe.e r).1 (spec_Wipe.e r).2.1 (spec_Wipe.e r).2.2 :=
  con_okG kitOk mix (fun k => (CtxOk.cons (spec_l05Copy.xok k) (CtxOk.cons (spec_l01In.xok k) (CtxOk.cons (spec_FlashOk.xok k) CtxOk.nil)))) (spec_Wipe.oke k a0_0 a1) h (by kernel_rfl) (by kernel_rfl) (by kernel_rfl) rfl (by kernel_rfl) rfl rfl
noncomputable def spec_Wipe.x (k : Nat) : X := fun ins bs κ => match ins, bs with
  | [.ag [.row 0 .t83 a0_0], .sc (.int .i64 a1)], [] => (spec_Wipe.f k a0_0 a1).bind fun r => κ (spec_Wipe.e r).1 (spec_Wipe.e r).2.1 (spec_Wipe.e r).2.2
  | _, _ => none
theorem spec_Wipe.xok (k : Nat) : XOk 87 (spec_Wipe.x k) := by
  intro ins bs κ res h
  unfold spec_Wipe.x at h
  split at h
  · obtain ⟨r, hr, h⟩ := Option.bind_eq_some_iff.1 h
    exact ⟨_, _, _, spec_Wipe.con k _ _ r hr, h⟩
  · cases h

/-! ### spec_l01Text: function 95 -/
noncomputable def spec_l01Text.sp : Nat → Option (Spec Ty) := fun r => bif Nat.beq r 5 then some ⟨[(0, .box [.keep, .keep, .keep]), (1, .keep), (5, .own .t5), (6, .keep)], [(0, some [.keep, .keep, .keep])]⟩ else none
noncomputable def spec_l01Text.en : Option (Spec Ty) := none
noncomputable def spec_l01Text.s5 (x1 : Int) (x6 : Int) (h0_0 : List Int) (h0_1 : Int) (h0_2 : Int) (h64 : List Int) : St Ty D := ⟨(Env.put (Env.put (Env.put (Env.put E (some 0) (.pt 0 0 0)) (some 1) (.sc (.int .i64 x1))) (some 5) (.sl 64 none)) (some 6) (.sc (.int .i64 x6))), Heap.put H0 [(0, some (.box [.row 1 .t5 h0_0, .sc (.int .i64 h0_1), .sc (.int .i64 h0_2)])), (64, some (.rowb .t5 h64 0))], 1000⟩
noncomputable def spec_l01Text.ctx (k : Nat) : Ctx Ty D := (cons 70 (spec_l01Byte.x k) (fun _ _ _ _ => none))
noncomputable def spec_l01Text.c5 : Nat → Int → Int → (List Int) → Int → Int → (List Int) → Option (ByteArray × (List Int) × Int × Int)
  | 0, _, _, _, _, _, _ => none
  | k + 1, x1, x6, h0_0, h0_1, h0_2, h64 => (if x6 < x1 then ((spec_l01Byte.f k h0_0 h0_1 h0_2).bind fun t1 => (if h64.length + ([(Go.IntKind.wrap .u8 (t1.1))] : List Int).length ≤ 140737488355328 then (spec_l01Text.c5 k x1 (w64 (x6 + 1)) t1.2.1 t1.2.2.1 t1.2.2.2 (h64 ++ ([(Go.IntKind.wrap .u8 (t1.1))] : List Int))) else none)) else (some ((strOfNums h64), h0_0, h0_1, h0_2)))
noncomputable def spec_l01Text.f (k : Nat) (a1 : Int) (a0_0 : List Int) (a0_1 : Int) (a0_2 : Int) : Option (ByteArray × (List Int) × Int × Int) := (if a1 > 5000 then (spec_l01Text.c5 k 5000 0 a0_0 a0_1 a0_2 ([] : List Int)) else (spec_l01Text.c5 k a1 0 a0_0 a0_1 a0_2 ([] : List Int)))
noncomputable def spec_l01Text.e (r : ByteArray × (List Int) × Int × Int) : Res Ty D := (.sc (.string r.1), [some (.box [.row 1 .t5 r.2.1, .sc (.int .i64 r.2.2.1), .sc (.int .i64 r.2.2.2)])], [])
noncomputable abbrev spec_l01Text.g (rec : List Item → St Ty D → R) (k : Nat) := go1 Try.f95 (spec_l01Text.ctx k) spec_l01Text.sp 1 spec_l01Text.en rec
set_option maxRecDepth 100000 in
theorem spec_l01Text.t5 (rec : List Item → St Ty D → R) (k : Nat) (x1 : Int) (x6 : Int) (h0_0 : List Int) (h0_1 : Int) (h0_2 : Int) (h64 : List Int) : spec_l01Text.g rec k (td Try.f95 5) (spec_l01Text.s5 x1 x6 h0_0 h0_1 h0_2 h64) =
  bif decide (x6 < x1) then (spec_l01Byte.f k h0_0 h0_1 h0_2).bind fun t1 => bif decide (h64.length + ([(Go.IntKind.wrap .u8 (t1.1))] : List Int).length ≤ 140737488355328) then rec (td Try.f95 5) (spec_l01Text.s5 x1 (w64 (x6 + 1)) t1.2.1 t1.2.2.1 t1.2.2.2 (h64 ++ ([(Go.IntKind.wrap .u8 (t1.1))] : List Int))) else none else some (spec_l01Text.e ((strOfNums h64), h0_0, h0_1, h0_2)) := by kernel_rfl
set_option maxRecDepth 100000 in
theorem spec_l01Text.te (rec : List Item → St Ty D → R) (k : Nat) (a1 : Int) (a0_0 : List Int) (a0_1 : Int) (a0_2 : Int) : spec_l01Text.g rec k [.code (body Try.f95)] (startSt [.pt 0 0 0, .sc (.int .i64 a1)] [.box [.row 1 .t5 a0_0, .sc (.int .i64 a0_1), .sc (.int .i64 a0_2)]]) =
  bif decide (a1 > 5000) then rec (td Try.f95 5) (spec_l01Text.s5 5000 0 a0_0 a0_1 a0_2 ([] : List Int)) else rec (td Try.f95 5) (spec_l01Text.s5 a1 0 a0_0 a0_1 a0_2 ([] : List Int)) := by kernel_rfl
set_option maxRecDepth 100000 in
theorem spec_l01Text.ok : ∀ k : Nat, (∀ (x1 : Int) (x6 : Int) (h0_0 : List Int) (h0_1 : Int) (h0_2 : Int) (h64 : List Int), goF Try.f95 spec_l01Text.ctx spec_l01Text.sp 1 spec_l01Text.en k (td Try.f95 5) (spec_l01Text.s5 x1 x6 h0_0 h0_1 h0_2 h64) = (spec_l01Text.c5 k x1 x6 h0_0 h0_1 h0_2 h64).map spec_l01Text.e)
  | 0 => fun _ _ _ _ _ _ => rfl
  | k + 1 => by
    have ih := spec_l01Text.ok k
    have i5 := ih
    intro x1 x6 h0_0 h0_1 h0_2 h64; rw [spec_l01Text.c5]; exact (spec_l01Text.t5 _ k x1 x6 h0_0 h0_1 h0_2 h64).trans (cd (bn (fun t1 => (cd (i5 _ _ _ _ _ _) rfl))) rfl)
set_option maxRecDepth 100000 in
theorem spec_l01Text.oke (k : Nat) (a1 : Int) (a0_0 : List Int) (a0_1 : Int) (a0_2 : Int) : goF Try.f95 spec_l01Text.ctx spec_l01Text.sp 1 spec_l01Text.en (k + 1) [.code (body Try.f95)] (startSt [.pt 0 0 0, .sc (.int .i64 a1)] [.box [.row 1 .t5 a0_0, .sc (.int .i64 a0_1), .sc (.int .i64 a0_2)]]) = (spec_l01Text.f k a1 a0_0 a0_1 a0_2).map spec_l01Text.e := by
  have i5 := spec_l01Text.ok k
  rw [spec_l01Text.f]; exact (spec_l01Text.te _ k a1 a0_0 a0_1 a0_2).trans (cd (i5 _ _ _ _ _ _) (i5 _ _ _ _ _ _))
theorem spec_l01Text.con (k : Nat) (a1 : Int) (a0_0 : List Int) (a0_1 : Int) (a0_2 : Int) (r) (h : spec_l01Text.f k a1 a0_0 a0_1 a0_2 = some r) : Contract Try.prog kit 95 [.pt 0 0 0, .sc (.int .i64 a1)] [.box [.row 1 .t5 a0_0, .sc (.int .i64 a0_1), .sc (.int .i64 a0_2)]] (spec_l01Text.e r).1 (spec_l01Text.e r).2.1 (spec_l01Text.e r).2.2 :=
  con_okG kitOk mix (fun k => (CtxOk.cons (spec_l01Byte.xok k) CtxOk.nil)) (spec_l01Text.oke k a1 a0_0 a0_1 a0_2) h (by kernel_rfl) (by kernel_rfl) (by kernel_rfl) rfl (by kernel_rfl) rfl rfl
noncomputable def spec_l01Text.x (k : Nat) : X := fun ins bs κ => match ins, bs with
  | [.pt 0 0 0, .sc (.int .i64 a1)], [.box [.row 1 .t5 a0_0, .sc (.int .i64 a0_1), .sc (.int .i64 a0_2)]] => (spec_l01Text.f k a1 a0_0 a0_1 a0_2).bind fun r => κ (spec_l01Text.e r).1 (spec_l01Text.e r).2.1 (spec_l01Text.e r).2.2
  | _, _ => none
theorem spec_l01Text.xok (k : Nat) : XOk 95 (spec_l01Text.x k) := by
  intro ins bs κ res h
  unfold spec_l01Text.x at h
  split at h
  · obtain ⟨r, hr, h⟩ := Option.bind_eq_some_iff.1 h
    exact ⟨_, _, _, spec_l01Text.con k _ _ _ _ r hr, h⟩
  · cases h

/-! ### spec_FlashNew: function 112 -/
noncomputable def spec_FlashNew.sp : Nat → Option (Spec Ty) := fun r => bif Nat.beq r 5 then some ⟨[(0, .keep), (2, .box [.own .t83]), (4, .box [.own .t83]), (5, .keep)], []⟩ else none
noncomputable def spec_FlashNew.en : Option (Spec Ty) := some ⟨[(2, .box [.own .t83]), (3, .keep)], []⟩
noncomputable def spec_FlashNew.s5 (x0 : Int) (x5 : Int) (h65 : List S83) (h67 : List S83) : St Ty D := ⟨(Env.put (Env.put (Env.put (Env.put E (some 0) (.sc (.int .i64 x0))) (some 2) (.pt 64 0 0)) (some 4) (.pt 66 0 0)) (some 5) (.sc (.int .i64 x5))), Heap.put H0 [(65, some (.rowb .t83 h65 0)), (64, some (.box [.sl 65 none])), (67, some (.rowb .t83 h67 0)), (66, some (.box [.sl 67 none]))], 1000⟩
noncomputable def spec_FlashNew.ctx (k : Nat) : Ctx Ty D := (cons 63 (spec_l01In.x k) (fun _ _ _ _ => none))
noncomputable def spec_FlashNew.c5 : Nat → Int → Int → (List S83) → (List S83) → Option ((List S83) × Bool)
  | 0, _, _, _, _ => none
  | k + 1, x0, x5, h65, h67 => (if x5 < x0 then (if h67.length + ([(S83.mk false 0 (List.replicate 4 z101))] : List S83).length ≤ 3518437208883 then (spec_FlashNew.c5 k x0 (w64 (x5 + 1)) h65 (h67 ++ ([(S83.mk false 0 (List.replicate 4 z101))] : List S83))) else none) else (some (h67, true)))
noncomputable def spec_FlashNew.f (k : Nat) (a0 : Int) : Option ((List S83) × Bool) := ((spec_l01In.f k a0 3 10).bind fun t1 => (if t1 = true then (spec_FlashNew.c5 k a0 0 ([] : List S83) ([] : List S83)) else (some (([] : List S83), false))))
noncomputable def spec_FlashNew.e (r : (List S83) × Bool) : Res Ty D := (.tu [.ag [.sl 0 none], .sc (.bool r.2)], [], [.rowb .t83 r.1 0])
noncomputable abbrev spec_FlashNew.g (rec : List Item → St Ty D → R) (k : Nat) := go1 Try.f112 (spec_FlashNew.ctx k) spec_FlashNew.sp 0 spec_FlashNew.en rec
set_option maxRecDepth 100000 in
theorem spec_FlashNew.t5 (rec : List Item → St Ty D → R) (k : Nat) (x0 : Int) (x5 : Int) (h65 : List S83) (h67 : List S83) : spec_FlashNew.g rec k (td Try.f112 5) (spec_FlashNew.s5 x0 x5 h65 h67) =
  bif decide (x5 < x0) then bif decide (h67.length + ([(S83.mk false 0 (List.replicate 4 z101))] : List S83).length ≤ 3518437208883) then rec (td Try.f112 5) (spec_FlashNew.s5 x0 (w64 (x5 + 1)) h65 (h67 ++ ([(S83.mk false 0 (List.replicate 4 z101))] : List S83))) else none else some (spec_FlashNew.e (h67, true)) := by kernel_rfl
set_option maxRecDepth 100000 in
theorem spec_FlashNew.te (rec : List Item → St Ty D → R) (k : Nat) (a0 : Int) : spec_FlashNew.g rec k [.code (body Try.f112)] (startSt [.sc (.int .i64 a0)] []) =
  (spec_l01In.f k a0 3 10).bind fun t1 => bif !t1 then some (spec_FlashNew.e (([] : List S83), false)) else rec (td Try.f112 5) (spec_FlashNew.s5 a0 0 ([] : List S83) ([] : List S83)) := by kernel_rfl
set_option maxRecDepth 100000 in
theorem spec_FlashNew.ok : ∀ k : Nat, (∀ (x0 : Int) (x5 : Int) (h65 : List S83) (h67 : List S83), goF Try.f112 spec_FlashNew.ctx spec_FlashNew.sp 0 spec_FlashNew.en k (td Try.f112 5) (spec_FlashNew.s5 x0 x5 h65 h67) = (spec_FlashNew.c5 k x0 x5 h65 h67).map spec_FlashNew.e)
  | 0 => fun _ _ _ _ => rfl
  | k + 1 => by
    have ih := spec_FlashNew.ok k
    have i5 := ih
    intro x0 x5 h65 h67; rw [spec_FlashNew.c5]; exact (spec_FlashNew.t5 _ k x0 x5 h65 h67).trans (cd (cd (i5 _ _ _ _) rfl) rfl)
set_option maxRecDepth 100000 in
theorem spec_FlashNew.oke (k : Nat) (a0 : Int) : goF Try.f112 spec_FlashNew.ctx spec_FlashNew.sp 0 spec_FlashNew.en (k + 1) [.code (body Try.f112)] (startSt [.sc (.int .i64 a0)] []) = (spec_FlashNew.f k a0).map spec_FlashNew.e := by
  have i5 := spec_FlashNew.ok k
  rw [spec_FlashNew.f]; exact (spec_FlashNew.te _ k a0).trans (bn (fun t1 => (nb rfl (i5 _ _ _ _))))
theorem spec_FlashNew.con (k : Nat) (a0 : Int) (r) (h : spec_FlashNew.f k a0 = some r) : Contract Try.prog kit 112 [.sc (.int .i64 a0)] [] (spec_FlashNew.e r).1 (spec_FlashNew.e r).2.1 (spec_FlashNew.e r).2.2 :=
  con_okG kitOk mix (fun k => (CtxOk.cons (spec_l01In.xok k) CtxOk.nil)) (spec_FlashNew.oke k a0) h (by kernel_rfl) (by kernel_rfl) (by kernel_rfl) rfl (by kernel_rfl) rfl rfl
noncomputable def spec_FlashNew.x (k : Nat) : X := fun ins bs κ => match ins, bs with
  | [.sc (.int .i64 a0)], [] => (spec_FlashNew.f k a0).bind fun r => κ (spec_FlashNew.e r).1 (spec_FlashNew.e r).2.1 (spec_FlashNew.e r).2.2
  | _, _ => none
theorem spec_FlashNew.xok (k : Nat) : XOk 112 (spec_FlashNew.x k) := by
  intro ins bs κ res h
  unfold spec_FlashNew.x at h
  split at h
  · obtain ⟨r, hr, h⟩ := Option.bind_eq_some_iff.1 h
    exact ⟨_, _, _, spec_FlashNew.con k _ r hr, h⟩
  · cases h

/-! ### spec_MarkBad: function 114 -/
noncomputable def spec_MarkBad.sp : Nat → Option (Spec Ty) := fun r => none
noncomputable def spec_MarkBad.en : Option (Spec Ty) := some ⟨[(4, .box [.own .t83])], []⟩
noncomputable def spec_MarkBad.ctx (k : Nat) : Ctx Ty D := (cons 56 (spec_l05Copy.x k) (cons 63 (spec_l01In.x k) (fun _ _ _ _ => none)))
noncomputable def spec_MarkBad.f (k : Nat) (a0_0 : List S83) (a1 : Int) : Option ((List S83)) := ((spec_l05Copy.f k a0_0).bind fun t1 => ((spec_l01In.f k a1 0 (w64 ((a0_0.length : Int) - 1))).bind fun t2 => (if t2 = true then (if 0 ≤ a1 then (if a1 < (t1.length : Int) then (some ((t1.set a1.toNat (S83.mk true ((rd_T83 t1 a1).f1) ((rd_T83 t1 a1).f2))))) else none) else none) else (some (t1)))))
noncomputable def spec_MarkBad.e (r : (List S83)) : Res Ty D := (.ag [.sl 0 none], [], [.rowb .t83 r 0])
noncomputable abbrev spec_MarkBad.g (rec : List Item → St Ty D → R) (k : Nat) := go1 Try.f114 (spec_MarkBad.ctx k) spec_MarkBad.sp 0 spec_MarkBad.en rec
set_option maxRecDepth 100000 in
theorem spec_MarkBad.te (rec : List Item → St Ty D → R) (k : Nat) (a0_0 : List S83) (a1 : Int) : spec_MarkBad.g rec k [.code (body Try.f114)] (startSt [.ag [.row 0 .t83 a0_0], .sc (.int .i64 a1)] []) =
  (spec_l05Copy.f k a0_0).bind fun t1 => (spec_l01In.f k a1 0 (w64 ((a0_0.length : Int) - 1))).bind fun t2 => bif t2 then bif decide (0 ≤ a1) then bif decide (a1 < (t1.length : Int)) then some (spec_MarkBad.e ((t1.set a1.toNat (S83.mk true ((rd_T83 t1 a1).f1) ((rd_T83 t1 a1).f2))))) else none else none else some (spec_MarkBad.e (t1)) := by kernel_rfl
set_option maxRecDepth 100000 in
theorem spec_MarkBad.oke (k : Nat) (a0_0 : List S83) (a1 : Int) : goF Try.f114 spec_MarkBad.ctx spec_MarkBad.sp 0 spec_MarkBad.en (k + 1) [.code (body Try.f114)] (startSt [.ag [.row 0 .t83 a0_0], .sc (.int .i64 a1)] []) = (spec_MarkBad.f k a0_0 a1).map spec_MarkBad.e := by
  rw [spec_MarkBad.f]; exact (spec_MarkBad.te _ k a0_0 a1).trans (bn (fun t1 => (bn (fun t2 => (cb (cd (cd rfl rfl) rfl) rfl)))))
theorem spec_MarkBad.con (k : Nat) (a0_0 : List S83) (a1 : Int) (r) (h : spec_MarkBad.f k a0_0 a1 = some r) : Contract Try.prog kit 114 [.ag [.row 0 .t83 a0_0], .sc (.int .i64 a1)] [] (spec_MarkBad.e r).1 (spec_MarkBad.e r).2.1 (spec_MarkBad.e r).2.2 :=
  con_okG kitOk mix (fun k => (CtxOk.cons (spec_l05Copy.xok k) (CtxOk.cons (spec_l01In.xok k) CtxOk.nil))) (spec_MarkBad.oke k a0_0 a1) h (by kernel_rfl) (by kernel_rfl) (by kernel_rfl) rfl (by kernel_rfl) rfl rfl
noncomputable def spec_MarkBad.x (k : Nat) : X := fun ins bs κ => match ins, bs with
  | [.ag [.row 0 .t83 a0_0], .sc (.int .i64 a1)], [] => (spec_MarkBad.f k a0_0 a1).bind fun r => κ (spec_MarkBad.e r).1 (spec_MarkBad.e r).2.1 (spec_MarkBad.e r).2.2
  | _, _ => none
theorem spec_MarkBad.xok (k : Nat) : XOk 114 (spec_MarkBad.x k) := by
  intro ins bs κ res h
  unfold spec_MarkBad.x at h
  split at h
  · obtain ⟨r, hr, h⟩ := Option.bind_eq_some_iff.1 h
    exact ⟨_, _, _, spec_MarkBad.con k _ _ r hr, h⟩
  · cases h

/-! ### spec_l05Flash: function 93 -/
noncomputable def spec_l05Flash.sp : Nat → Option (Spec Ty) := fun r => bif Nat.beq r 3 then some ⟨[(0, .box [.keep, .keep, .keep]), (2, .box [.own .t83]), (3, .box [.own .t83]), (5, .keep)], [(0, some [.keep, .keep, .keep])]⟩ else none
noncomputable def spec_l05Flash.en : Option (Spec Ty) := some ⟨[(2, .box [.own .t83])], [(0, some [.keep, .keep, .keep])]⟩
noncomputable def spec_l05Flash.s3 (x5 : Int) (h0_0 : List Int) (h0_1 : Int) (h0_2 : Int) (h65 : List S83) (h67 : List S83) : St Ty D := ⟨(Env.put (Env.put (Env.put (Env.put E (some 0) (.pt 0 0 0)) (some 2) (.pt 64 0 0)) (some 3) (.pt 66 0 0)) (some 5) (.sc (.int .i64 x5))), Heap.put H0 [(0, some (.box [.row 1 .t5 h0_0, .sc (.int .i64 h0_1), .sc (.int .i64 h0_2)])), (65, some (.rowb .t83 h65 0)), (64, some (.box [.sl 65 none])), (67, some (.rowb .t83 h67 0)), (66, some (.box [.sl 67 none]))], 1000⟩
noncomputable def spec_l05Flash.ctx (k : Nat) : Ctx Ty D := (cons 71 (spec_l01Below.x k) (cons 73 (spec_l01Once.x k) (cons 86 (spec_Program.x k) (cons 87 (spec_Wipe.x k) (cons 95 (spec_l01Text.x k) (cons 112 (spec_FlashNew.x k) (cons 113 (spec_NextBlank.x k) (cons 114 (spec_MarkBad.x k) (fun _ _ _ _ => none)))))))))
noncomputable def spec_l05Flash.c3 : Nat → Int → (List Int) → Int → Int → (List S83) → (List S83) → Option ((List S83) × (List Int) × Int × Int)
  | 0, _, _, _, _, _, _ => none
  | k + 1, x5, h0_0, h0_1, h0_2, h65, h67 => ((spec_l01Below.f k 20 h0_0 h0_1 h0_2).bind fun t3 => (if x5 < t3.1 then ((spec_l01Below.f k (h67.length : Int) t3.2.1 t3.2.2.1 t3.2.2.2).bind fun t4 => ((spec_l01Below.f k 8 t4.2.1 t4.2.2.1 t4.2.2.2).bind fun t5 => (if t5.1 = 0 then ((spec_Wipe.f k h67 t4.1).bind fun t6 => (spec_l05Flash.c3 k (w64 (x5 + 1)) t5.2.1 t5.2.2.1 t5.2.2.2 h65 t6.1)) else (if t5.1 = 1 then (if 0 ≤ t4.1 then (if t4.1 < (h67.length : Int) then ((spec_NextBlank.f k ((rd_T83 h67 t4.1).f0) ((rd_T83 h67 t4.1).f1) ((rd_T83 h67 t4.1).f2)).bind fun t7 => (if t7 < 4 then (if 0 ≤ t4.1 then (if t4.1 < (h67.length : Int) then (if 0 ≤ t4.1 then (if t4.1 < (h67.length : Int) then ((spec_NextBlank.f k ((rd_T83 h67 t4.1).f0) ((rd_T83 h67 t4.1).f1) ((rd_T83 h67 t4.1).f2)).bind fun t8 => (if 0 ≤ t8 then (if t8 < (((rd_T83 h67 t4.1).f2).length : Int) then (spec_l05Flash.c3 k (w64 (x5 + 1)) t5.2.1 t5.2.2.1 t5.2.2.2 h65 (h67.set t4.1.toNat (S83.mk ((rd_T83 h67 t4.1).f0) ((rd_T83 h67 t4.1).f1) (((rd_T83 h67 t4.1).f2).set t8.toNat (S101.mk 2 (⟨#[116, 111]⟩ : ByteArray)))))) else none) else none)) else none) else none) else none) else none) else (spec_l05Flash.c3 k (w64 (x5 + 1)) t5.2.1 t5.2.2.1 t5.2.2.2 h65 h67))) else none) else none) else (if 0 ≤ t4.1 then (if t4.1 < (h67.length : Int) then ((spec_NextBlank.f k ((rd_T83 h67 t4.1).f0) ((rd_T83 h67 t4.1).f1) ((rd_T83 h67 t4.1).f2)).bind fun t9 => ((spec_l01Below.f k 5 t5.2.1 t5.2.2.1 t5.2.2.2).bind fun t10 => ((spec_l01Text.f k (w64 (1 + t10.1)) t10.2.1 t10.2.2.1 t10.2.2.2).bind fun t11 => ((spec_Program.f k h67 t4.1 t9 t11.1).bind fun t12 => (spec_l05Flash.c3 k (w64 (x5 + 1)) t11.2.1 t11.2.2.1 t11.2.2.2 h65 t12.1))))) else none) else none))))) else ((spec_l01Once.f k 4 t3.2.1 t3.2.2.1 t3.2.2.2).bind fun t13 => (if t13.1 = true then ((spec_l01Below.f k (h67.length : Int) t13.2.1 t13.2.2.1 t13.2.2.2).bind fun t14 => ((spec_MarkBad.f k h67 t14.1).bind fun t15 => (some (t15, t14.2.1, t14.2.2.1, t14.2.2.2)))) else (some (h67, t13.2.1, t13.2.2.1, t13.2.2.2))))))
noncomputable def spec_l05Flash.f (k : Nat) (a0_0 : List Int) (a0_1 : Int) (a0_2 : Int) : Option ((List S83) × (List Int) × Int × Int) := ((spec_l01Below.f k 5 a0_0 a0_1 a0_2).bind fun t1 => ((spec_FlashNew.f k (w64 (3 + t1.1))).bind fun t2 => (spec_l05Flash.c3 k 0 t1.2.1 t1.2.2.1 t1.2.2.2 ([] : List S83) t2.1)))
noncomputable def spec_l05Flash.e (r : (List S83) × (List Int) × Int × Int) : Res Ty D := (.ag [.sl 1 none], [some (.box [.row 1 .t5 r.2.1, .sc (.int .i64 r.2.2.1), .sc (.int .i64 r.2.2.2)])], [.rowb .t83 r.1 0])
noncomputable abbrev spec_l05Flash.g (rec : List Item → St Ty D → R) (k : Nat) := go1 Try.f93 (spec_l05Flash.ctx k) spec_l05Flash.sp 1 spec_l05Flash.en rec
set_option maxRecDepth 100000 in
theorem spec_l05Flash.t3 (rec : List Item → St Ty D → R) (k : Nat) (x5 : Int) (h0_0 : List Int) (h0_1 : Int) (h0_2 : Int) (h65 : List S83) (h67 : List S83) : spec_l05Flash.g rec k (td Try.f93 3) (spec_l05Flash.s3 x5 h0_0 h0_1 h0_2 h65 h67) =
  (spec_l01Below.f k 20 h0_0 h0_1 h0_2).bind fun t3 => bif decide (x5 < t3.1) then (spec_l01Below.f k (h67.length : Int) t3.2.1 t3.2.2.1 t3.2.2.2).bind fun t4 => (spec_l01Below.f k 8 t4.2.1 t4.2.2.1 t4.2.2.2).bind fun t5 => bif decide (t5.1 = 0) then (spec_Wipe.f k h67 t4.1).bind fun t6 => rec (td Try.f93 3) (spec_l05Flash.s3 (w64 (x5 + 1)) t5.2.1 t5.2.2.1 t5.2.2.2 h65 t6.1) else bif decide (t5.1 = 1) then bif decide (0 ≤ t4.1) then bif decide (t4.1 < (h67.length : Int)) then (spec_NextBlank.f k ((rd_T83 h67 t4.1).f0) ((rd_T83 h67 t4.1).f1) ((rd_T83 h67 t4.1).f2)).bind fun t7 => bif decide (t7 < 4) then bif decide (0 ≤ t4.1) then bif decide (t4.1 < (h67.length : Int)) then bif decide (0 ≤ t4.1) then bif decide (t4.1 < (h67.length : Int)) then (spec_NextBlank.f k ((rd_T83 h67 t4.1).f0) ((rd_T83 h67 t4.1).f1) ((rd_T83 h67 t4.1).f2)).bind fun t8 => bif decide (0 ≤ t8) then bif decide (t8 < (((rd_T83 h67 t4.1).f2).length : Int)) then rec (td Try.f93 3) (spec_l05Flash.s3 (w64 (x5 + 1)) t5.2.1 t5.2.2.1 t5.2.2.2 h65 (h67.set t4.1.toNat (S83.mk ((rd_T83 h67 t4.1).f0) ((rd_T83 h67 t4.1).f1) (((rd_T83 h67 t4.1).f2).set t8.toNat (S101.mk 2 (⟨#[116, 111]⟩ : ByteArray)))))) else none else none else none else none else none else none else rec (td Try.f93 3) (spec_l05Flash.s3 (w64 (x5 + 1)) t5.2.1 t5.2.2.1 t5.2.2.2 h65 h67) else none else none else bif decide (0 ≤ t4.1) then bif decide (t4.1 < (h67.length : Int)) then (spec_NextBlank.f k ((rd_T83 h67 t4.1).f0) ((rd_T83 h67 t4.1).f1) ((rd_T83 h67 t4.1).f2)).bind fun t9 => (spec_l01Below.f k 5 t5.2.1 t5.2.2.1 t5.2.2.2).bind fun t10 => (spec_l01Text.f k (w64 (1 + t10.1)) t10.2.1 t10.2.2.1 t10.2.2.2).bind fun t11 => (spec_Program.f k h67 t4.1 t9 t11.1).bind fun t12 => rec (td Try.f93 3) (spec_l05Flash.s3 (w64 (x5 + 1)) t11.2.1 t11.2.2.1 t11.2.2.2 h65 t12.1) else none else none else (spec_l01Once.f k 4 t3.2.1 t3.2.2.1 t3.2.2.2).bind fun t13 => bif t13.1 then (spec_l01Below.f k (h67.length : Int) t13.2.1 t13.2.2.1 t13.2.2.2).bind fun t14 => (spec_MarkBad.f k h67 t14.1).bind fun t15 => some (spec_l05Flash.e (t15, t14.2.1, t14.2.2.1, t14.2.2.2)) else some (spec_l05Flash.e (h67, t13.2.1, t13.2.2.1, t13.2.2.2)) := by kernel_rfl
set_option maxRecDepth 100000 in
theorem spec_l05Flash.te (rec : List Item → St Ty D → R) (k : Nat) (a0_0 : List Int) (a0_1 : Int) (a0_2 : Int) : spec_l05Flash.g rec k [.code (body Try.f93)] (startSt [.pt 0 0 0] [.box [.row 1 .t5 a0_0, .sc (.int .i64 a0_1), .sc (.int .i64 a0_2)]]) =
  (spec_l01Below.f k 5 a0_0 a0_1 a0_2).bind fun t1 => (spec_FlashNew.f k (w64 (3 + t1.1))).bind fun t2 => rec (td Try.f93 3) (spec_l05Flash.s3 0 t1.2.1 t1.2.2.1 t1.2.2.2 ([] : List S83) t2.1) := by kernel_rfl
set_option maxRecDepth 100000 in
theorem spec_l05Flash.ok : ∀ k : Nat, (∀ (x5 : Int) (h0_0 : List Int) (h0_1 : Int) (h0_2 : Int) (h65 : List S83) (h67 : List S83), goF Try.f93 spec_l05Flash.ctx spec_l05Flash.sp 1 spec_l05Flash.en k (td Try.f93 3) (spec_l05Flash.s3 x5 h0_0 h0_1 h0_2 h65 h67) = (spec_l05Flash.c3 k x5 h0_0 h0_1 h0_2 h65 h67).map spec_l05Flash.e)
  | 0 => fun _ _ _ _ _ _ => rfl
  | k + 1 => by
    have ih := spec_l05Flash.ok k
    have i3 := ih
    intro x5 h0_0 h0_1 h0_2 h65 h67; rw [spec_l05Flash.c3]; exact (spec_l05Flash.t3 _ k x5 h0_0 h0_1 h0_2 h65 h67).trans (bn (fun t3 => (cd (bn (fun t4 => (bn (fun t5 => (cd (bn (fun t6 => (i3 _ _ _ _ _ _))) (cd (cd (cd (bn (fun t7 => (cd (cd (cd (cd (cd (bn (fun t8 => (cd (cd (i3 _ _ _ _ _ _) rfl) rfl))) rfl) rfl) rfl) rfl) (i3 _ _ _ _ _ _)))) rfl) rfl) (cd (cd (bn (fun t9 => (bn (fun t10 => (bn (fun t11 => (bn (fun t12 => (i3 _ _ _ _ _ _))))))))) rfl) rfl))))))) (bn (fun t13 => (cb (bn (fun t14 => (bn (fun t15 => rfl)))) rfl))))))
set_option maxRecDepth 100000 in
theorem spec_l05Flash.oke (k : Nat) (a0_0 : List Int) (a0_1 : Int) (a0_2 : Int) : goF Try.f93 spec_l05Flash.ctx spec_l05Flash.sp 1 spec_l05Flash.en (k + 1) [.code (body Try.f93)] (startSt [.pt 0 0 0] [.box [.row 1 .t5 a0_0, .sc (.int .i64 a0_1), .sc (.int .i64 a0_2)]]) = (spec_l05Flash.f k a0_0 a0_1 a0_2).map spec_l05Flash.e := by
  have i3 := spec_l05Flash.ok k
  rw [spec_l05Flash.f]; exact (spec_l05Flash.te _ k a0_0 a0_1 a0_2).trans (bn (fun t1 => (bn (fun t2 => (i3 _ _ _ _ _ _)))))
theorem spec_l05Flash.con (k : Nat) (a0_0 : List Int) (a0_1 : Int) (a0_2 : Int) (r) (h : spec_l05Flash.f k a0_0 a0_1 a0_2 = some r) : Contract Try.prog kit 93 [.pt 0 0 0] [.box [.row 1 .t5 a0_0, .sc (.int .i64 a0_1), .sc (.int .i64 a0_2)]] (spec_l05Flash.e r).1 (spec_l05Flash.e r).2.1 (spec_l05Flash.e r).2.2 :=
  con_okG kitOk mix (fun k => (CtxOk.cons (spec_l01Below.xok k) (CtxOk.cons (spec_l01Once.xok k) (CtxOk.cons (spec_Program.xok k) (CtxOk.cons (spec_Wipe.xok k) (CtxOk.cons (spec_l01Text.xok k) (CtxOk.cons (spec_FlashNew.xok k) (CtxOk.cons (spec_NextBlank.xok k) (CtxOk.cons (spec_MarkBad.xok k) CtxOk.nil))))))))) (spec_l05Flash.oke k a0_0 a0_1 a0_2) h (by kernel_rfl) (by kernel_rfl) (by kernel_rfl) rfl (by kernel_rfl) rfl rfl
noncomputable def spec_l05Flash.x (k : Nat) : X := fun ins bs κ => match ins, bs with
  | [.pt 0 0 0], [.box [.row 1 .t5 a0_0, .sc (.int .i64 a0_1), .sc (.int .i64 a0_2)]] => (spec_l05Flash.f k a0_0 a0_1 a0_2).bind fun r => κ (spec_l05Flash.e r).1 (spec_l05Flash.e r).2.1 (spec_l05Flash.e r).2.2
  | _, _ => none
theorem spec_l05Flash.xok (k : Nat) : XOk 93 (spec_l05Flash.x k) := by
  intro ins bs κ res h
  unfold spec_l05Flash.x at h
  split at h
  · obtain ⟨r, hr, h⟩ := Option.bind_eq_some_iff.1 h
    exact ⟨_, _, _, spec_l05Flash.con k _ _ _ r hr, h⟩
  · cases h

/-! ### spec_l01PickInt: function 94 -/
noncomputable def spec_l01PickInt.sp : Nat → Option (Spec Ty) := fun r => none
noncomputable def spec_l01PickInt.en : Option (Spec Ty) := none
noncomputable def spec_l01PickInt.ctx (k : Nat) : Ctx Ty D := (cons 71 (spec_l01Below.x k) (fun _ _ _ _ => none))
noncomputable def spec_l01PickInt.f (k : Nat) (a1 : List Int) (a0_0 : List Int) (a0_1 : Int) (a0_2 : Int) : Option (Int × (List Int) × Int × Int) := ((spec_l01Below.f k (a1.length : Int) a0_0 a0_1 a0_2).bind fun t1 => (if 0 ≤ t1.1 then (if t1.1 < (a1.length : Int) then (some ((rd_T3 a1 t1.1), t1.2.1, t1.2.2.1, t1.2.2.2)) else none) else none))
noncomputable def spec_l01PickInt.e (r : Int × (List Int) × Int × Int) : Res Ty D := (.sc (.int .i64 r.1), [some (.box [.row 1 .t5 r.2.1, .sc (.int .i64 r.2.2.1), .sc (.int .i64 r.2.2.2)])], [])
noncomputable abbrev spec_l01PickInt.g (rec : List Item → St Ty D → R) (k : Nat) := go1 Try.f94 (spec_l01PickInt.ctx k) spec_l01PickInt.sp 1 spec_l01PickInt.en rec
set_option maxRecDepth 100000 in
theorem spec_l01PickInt.te (rec : List Item → St Ty D → R) (k : Nat) (a1 : List Int) (a0_0 : List Int) (a0_1 : Int) (a0_2 : Int) : spec_l01PickInt.g rec k [.code (body Try.f94)] (startSt [.pt 0 0 0, .row 0 .t3 a1] [.box [.row 1 .t5 a0_0, .sc (.int .i64 a0_1), .sc (.int .i64 a0_2)]]) =
  (spec_l01Below.f k (a1.length : Int) a0_0 a0_1 a0_2).bind fun t1 => bif decide (0 ≤ t1.1) then bif decide (t1.1 < (a1.length : Int)) then some (spec_l01PickInt.e ((rd_T3 a1 t1.1), t1.2.1, t1.2.2.1, t1.2.2.2)) else none else none := by kernel_rfl
set_option maxRecDepth 100000 in
theorem spec_l01PickInt.oke (k : Nat) (a1 : List Int) (a0_0 : List Int) (a0_1 : Int) (a0_2 : Int) : goF Try.f94 spec_l01PickInt.ctx spec_l01PickInt.sp 1 spec_l01PickInt.en (k + 1) [.code (body Try.f94)] (startSt [.pt 0 0 0, .row 0 .t3 a1] [.box [.row 1 .t5 a0_0, .sc (.int .i64 a0_1), .sc (.int .i64 a0_2)]]) = (spec_l01PickInt.f k a1 a0_0 a0_1 a0_2).map spec_l01PickInt.e := by
  rw [spec_l01PickInt.f]; exact (spec_l01PickInt.te _ k a1 a0_0 a0_1 a0_2).trans (bn (fun t1 => (cd (cd rfl rfl) rfl)))
theorem spec_l01PickInt.con (k : Nat) (a1 : List Int) (a0_0 : List Int) (a0_1 : Int) (a0_2 : Int) (r) (h : spec_l01PickInt.f k a1 a0_0 a0_1 a0_2 = some r) : Contract Try.prog kit 94 [.pt 0 0 0, .row 0 .t3 a1] [.box [.row 1 .t5 a0_0, .sc (.int .i64 a0_1), .sc (.int .i64 a0_2)]] (spec_l01PickInt.e r).1 (spec_l01PickInt.e r).2.1 (spec_l01PickInt.e r).2.2 :=
  con_okG kitOk mix (fun k => (CtxOk.cons (spec_l01Below.xok k) CtxOk.nil)) (spec_l01PickInt.oke k a1 a0_0 a0_1 a0_2) h (by kernel_rfl) (by kernel_rfl) (by kernel_rfl) rfl (by kernel_rfl) rfl rfl
noncomputable def spec_l01PickInt.x (k : Nat) : X := fun ins bs κ => match ins, bs with
  | [.pt 0 0 0, .row 0 .t3 a1], [.box [.row 1 .t5 a0_0, .sc (.int .i64 a0_1), .sc (.int .i64 a0_2)]] => (spec_l01PickInt.f k a1 a0_0 a0_1 a0_2).bind fun r => κ (spec_l01PickInt.e r).1 (spec_l01PickInt.e r).2.1 (spec_l01PickInt.e r).2.2
  | _, _ => none
theorem spec_l01PickInt.xok (k : Nat) : XOk 94 (spec_l01PickInt.x k) := by
  intro ins bs κ res h
  unfold spec_l01PickInt.x at h
  split at h
  · obtain ⟨r, hr, h⟩ := Option.bind_eq_some_iff.1 h
    exact ⟨_, _, _, spec_l01PickInt.con k _ _ _ _ r hr, h⟩
  · cases h

/-! ### spec_l05Any: function 68 -/
noncomputable def spec_l05Any.sp : Nat → Option (Spec Ty) := fun r => none
noncomputable def spec_l05Any.en : Option (Spec Ty) := some ⟨[(2, .box [.own .t83])], [(0, some [.keep, .keep, .keep])]⟩
noncomputable def spec_l05Any.ctx (k : Nat) : Ctx Ty D := (cons 56 (spec_l05Copy.x k) (cons 71 (spec_l01Below.x k) (cons 93 (spec_l05Flash.x k) (cons 94 (spec_l01PickInt.x k) (fun _ _ _ _ => none)))))
noncomputable def spec_l05Any.f (k : Nat) (a0_0 : List Int) (a0_1 : Int) (a0_2 : Int) : Option ((List S83) × (List Int) × Int × Int) := ((spec_l05Flash.f k a0_0 a0_1 a0_2).bind fun t1 => ((spec_l05Copy.f k t1.1).bind fun t2 => ((spec_l01Below.f k (t2.length : Int) t1.2.1 t1.2.2.1 t1.2.2.2).bind fun t3 => ((spec_l01Below.f k 16 t3.2.1 t3.2.2.1 t3.2.2.2).bind fun t4 => (if t4.1 = 0 then (if 0 ≤ t3.1 then (if t3.1 < (t2.length : Int) then ((spec_l01Below.f k 4 t4.2.1 t4.2.2.1 t4.2.2.2).bind fun t5 => ((spec_l01Below.f k 5 t5.2.1 t5.2.2.1 t5.2.2.2).bind fun t6 => (if 0 ≤ t5.1 then (if t5.1 < (((rd_T83 t2 t3.1).f2).length : Int) then (some ((t2.set t3.1.toNat (S83.mk ((rd_T83 t2 t3.1).f0) ((rd_T83 t2 t3.1).f1) (((rd_T83 t2 t3.1).f2).set t5.1.toNat (S101.mk t6.1 ((rd_T101 ((rd_T83 t2 t3.1).f2) t5.1).f1))))), t6.2.1, t6.2.2.1, t6.2.2.2)) else none) else none))) else none) else none) else (if t4.1 = 1 then (if 0 ≤ t3.1 then (if t3.1 < (t2.length : Int) then (if 1 ≤ (((rd_T83 t2 t3.1).f2).length : Int) then (if 0 ≤ t3.1 then (if t3.1 < (t2.length : Int) then (if (Nat.beq t3.1.toNat t3.1.toNat) = true then (some ((t2.set t3.1.toNat (S83.mk ((rd_T83 t2 t3.1).f0) ((rd_T83 t2 t3.1).f1) ((((rd_T83 t2 t3.1).f2).drop 1).take (((rd_T83 t2 t3.1).f2).length - 1)))), t4.2.1, t4.2.2.1, t4.2.2.2)) else none) else none) else none) else none) else none) else none) else (if t4.1 = 2 then ((spec_l01PickInt.f k ([(-1), 1000000000, 1000000001] : List Int) t4.2.1 t4.2.2.1 t4.2.2.2).bind fun t7 => (if 0 ≤ t3.1 then (if t3.1 < (t2.length : Int) then (some ((t2.set t3.1.toNat (S83.mk ((rd_T83 t2 t3.1).f0) t7.1 ((rd_T83 t2 t3.1).f2))), t7.2.1, t7.2.2.1, t7.2.2.2)) else none) else none)) else (if t4.1 = 3 then ((spec_l01Below.f k 3 t4.2.1 t4.2.2.1 t4.2.2.2).bind fun t8 => (if 0 ≤ t8.1 then (if t8.1 ≤ (t2.length : Int) then (some (((t2.drop 0).take (t8.1.toNat - 0)), t8.2.1, t8.2.2.1, t8.2.2.2)) else none) else none)) else (some (t2, t4.2.1, t4.2.2.1, t4.2.2.2))))))))))
noncomputable def spec_l05Any.e (r : (List S83) × (List Int) × Int × Int) : Res Ty D := (.ag [.sl 1 none], [some (.box [.row 1 .t5 r.2.1, .sc (.int .i64 r.2.2.1), .sc (.int .i64 r.2.2.2)])], [.rowb .t83 r.1 0])
noncomputable abbrev spec_l05Any.g (rec : List Item → St Ty D → R) (k : Nat) := go1 Try.f68 (spec_l05Any.ctx k) spec_l05Any.sp 1 spec_l05Any.en rec
set_option maxRecDepth 100000 in
theorem spec_l05Any.te (rec : List Item → St Ty D → R) (k : Nat) (a0_0 : List Int) (a0_1 : Int) (a0_2 : Int) : spec_l05Any.g rec k [.code (body Try.f68)] (startSt [.pt 0 0 0] [.box [.row 1 .t5 a0_0, .sc (.int .i64 a0_1), .sc (.int .i64 a0_2)]]) =
  (spec_l05Flash.f k a0_0 a0_1 a0_2).bind fun t1 => (spec_l05Copy.f k t1.1).bind fun t2 => (spec_l01Below.f k (t2.length : Int) t1.2.1 t1.2.2.1 t1.2.2.2).bind fun t3 => (spec_l01Below.f k 16 t3.2.1 t3.2.2.1 t3.2.2.2).bind fun t4 => bif decide (t4.1 = 0) then bif decide (0 ≤ t3.1) then bif decide (t3.1 < (t2.length : Int)) then (spec_l01Below.f k 4 t4.2.1 t4.2.2.1 t4.2.2.2).bind fun t5 => (spec_l01Below.f k 5 t5.2.1 t5.2.2.1 t5.2.2.2).bind fun t6 => bif decide (0 ≤ t5.1) then bif decide (t5.1 < (((rd_T83 t2 t3.1).f2).length : Int)) then some (spec_l05Any.e ((t2.set t3.1.toNat (S83.mk ((rd_T83 t2 t3.1).f0) ((rd_T83 t2 t3.1).f1) (((rd_T83 t2 t3.1).f2).set t5.1.toNat (S101.mk t6.1 ((rd_T101 ((rd_T83 t2 t3.1).f2) t5.1).f1))))), t6.2.1, t6.2.2.1, t6.2.2.2)) else none else none else none else none else bif decide (t4.1 = 1) then bif decide (0 ≤ t3.1) then bif decide (t3.1 < (t2.length : Int)) then bif decide (1 ≤ (((rd_T83 t2 t3.1).f2).length : Int)) then bif decide (0 ≤ t3.1) then bif decide (t3.1 < (t2.length : Int)) then bif (Nat.beq t3.1.toNat t3.1.toNat) then some (spec_l05Any.e ((t2.set t3.1.toNat (S83.mk ((rd_T83 t2 t3.1).f0) ((rd_T83 t2 t3.1).f1) ((((rd_T83 t2 t3.1).f2).drop 1).take (((rd_T83 t2 t3.1).f2).length - 1)))), t4.2.1, t4.2.2.1, t4.2.2.2)) else none else none else none else none else none else none else bif decide (t4.1 = 2) then (spec_l01PickInt.f k ([(-1), 1000000000, 1000000001] : List Int) t4.2.1 t4.2.2.1 t4.2.2.2).bind fun t7 => bif decide (0 ≤ t3.1) then bif decide (t3.1 < (t2.length : Int)) then some (spec_l05Any.e ((t2.set t3.1.toNat (S83.mk ((rd_T83 t2 t3.1).f0) t7.1 ((rd_T83 t2 t3.1).f2))), t7.2.1, t7.2.2.1, t7.2.2.2)) else none else none else bif decide (t4.1 = 3) then (spec_l01Below.f k 3 t4.2.1 t4.2.2.1 t4.2.2.2).bind fun t8 => bif decide (0 ≤ t8.1) then bif decide (t8.1 ≤ (t2.length : Int)) then some (spec_l05Any.e (((t2.drop 0).take (t8.1.toNat - 0)), t8.2.1, t8.2.2.1, t8.2.2.2)) else none else none else some (spec_l05Any.e (t2, t4.2.1, t4.2.2.1, t4.2.2.2)) := by kernel_rfl
set_option maxRecDepth 100000 in
theorem spec_l05Any.oke (k : Nat) (a0_0 : List Int) (a0_1 : Int) (a0_2 : Int) : goF Try.f68 spec_l05Any.ctx spec_l05Any.sp 1 spec_l05Any.en (k + 1) [.code (body Try.f68)] (startSt [.pt 0 0 0] [.box [.row 1 .t5 a0_0, .sc (.int .i64 a0_1), .sc (.int .i64 a0_2)]]) = (spec_l05Any.f k a0_0 a0_1 a0_2).map spec_l05Any.e := by
  rw [spec_l05Any.f]; exact (spec_l05Any.te _ k a0_0 a0_1 a0_2).trans (bn (fun t1 => (bn (fun t2 => (bn (fun t3 => (bn (fun t4 => (cd (cd (cd (bn (fun t5 => (bn (fun t6 => (cd (cd rfl rfl) rfl))))) rfl) rfl) (cd (cd (cd (cd (cd (cd (cb rfl rfl) rfl) rfl) rfl) rfl) rfl) (cd (bn (fun t7 => (cd (cd rfl rfl) rfl))) (cd (bn (fun t8 => (cd (cd rfl rfl) rfl))) rfl))))))))))))
theorem spec_l05Any.con (k : Nat) (a0_0 : List Int) (a0_1 : Int) (a0_2 : Int) (r) (h : spec_l05Any.f k a0_0 a0_1 a0_2 = some r) : Contract Try.prog kit 68 [.pt 0 0 0] [.box [.row 1 .t5 a0_0, .sc (.int .i64 a0_1), .sc (.int .i64 a0_2)]] (spec_l05Any.e r).1 (spec_l05Any.e r).2.1 (spec_l05Any.e r).2.2 :=
  con_okG kitOk mix (fun k => (CtxOk.cons (spec_l05Copy.xok k) (CtxOk.cons (spec_l01Below.xok k) (CtxOk.cons (spec_l05Flash.xok k) (CtxOk.cons (spec_l01PickInt.xok k) CtxOk.nil))))) (spec_l05Any.oke k a0_0 a0_1 a0_2) h (by kernel_rfl) (by kernel_rfl) (by kernel_rfl) rfl (by kernel_rfl) rfl rfl
noncomputable def spec_l05Any.x (k : Nat) : X := fun ins bs κ => match ins, bs with
  | [.pt 0 0 0], [.box [.row 1 .t5 a0_0, .sc (.int .i64 a0_1), .sc (.int .i64 a0_2)]] => (spec_l05Any.f k a0_0 a0_1 a0_2).bind fun r => κ (spec_l05Any.e r).1 (spec_l05Any.e r).2.1 (spec_l05Any.e r).2.2
  | _, _ => none
theorem spec_l05Any.xok (k : Nat) : XOk 68 (spec_l05Any.x k) := by
  intro ins bs κ res h
  unfold spec_l05Any.x at h
  split at h
  · obtain ⟨r, hr, h⟩ := Option.bind_eq_some_iff.1 h
    exact ⟨_, _, _, spec_l05Any.con k _ _ _ r hr, h⟩
  · cases h
end Go.Proofs.Ytklkhnomnanpoaa.M2

/- Plain runs of functions: each is a plain Lean function, and keeps its contract. Written by a program of this session. -/
namespace Go.Proofs.Ytklkhnomnanpoaa.M2
open Go Go.Proofs.Ytklkhnomnanpoaa.PK
set_option linter.unusedVariables false
set_option linter.unusedSimpArgs false
set_option maxHeartbeats 4000000
/-! ### spec_DoStep: function 55 -/
noncomputable def spec_DoStep.sp : Nat → Option (Spec Ty) := fun r => none
noncomputable def spec_DoStep.en : Option (Spec Ty) := some ⟨[(4, .box [.own .t83]), (5, .keep)], []⟩
noncomputable def spec_DoStep.ctx (k : Nat) : Ctx Ty D := (cons 56 (spec_l05Copy.x k) (cons 86 (spec_Program.x k) (cons 87 (spec_Wipe.x k) (fun _ _ _ _ => none))))
noncomputable def spec_DoStep.f (k : Nat) (a0_0 : List S83) (a1_0 : Int) (a1_1 : Int) (a1_2 : Int) (a1_3 : ByteArray) : Option ((List S83) × Bool) := (if a1_0 = 1 then ((spec_Program.f k a0_0 a1_1 a1_2 a1_3).bind fun t1 => (some (t1.1, t1.2))) else (if a1_0 = 2 then ((spec_Wipe.f k a0_0 a1_1).bind fun t2 => (some (t2.1, t2.2))) else ((spec_l05Copy.f k a0_0).bind fun t3 => (some (t3, false)))))
noncomputable def spec_DoStep.e (r : (List S83) × Bool) : Res Ty D := (.tu [.ag [.sl 0 none], .sc (.bool r.2)], [], [.rowb .t83 r.1 0])
noncomputable abbrev spec_DoStep.g (rec : List Item → St Ty D → R) (k : Nat) := go1 Try.f55 (spec_DoStep.ctx k) spec_DoStep.sp 0 spec_DoStep.en rec
set_option maxRecDepth 100000 in
theorem spec_DoStep.te (rec : List Item → St Ty D → R) (k : Nat) (a0_0 : List S83) (a1_0 : Int) (a1_1 : Int) (a1_2 : Int) (a1_3 : ByteArray) : spec_DoStep.g rec k [.code (body Try.f55)] (startSt [.ag [.row 0 .t83 a0_0], .ag [.sc (.int .i64 a1_0), .sc (.int .i64 a1_1), .sc (.int .i64 a1_2), .sc (.string a1_3)]] []) =
  bif decide (a1_0 = 1) then (spec_Program.f k a0_0 a1_1 a1_2 a1_3).bind fun t1 => some (spec_DoStep.e (t1.1, t1.2)) else bif decide (a1_0 = 2) then (spec_Wipe.f k a0_0 a1_1).bind fun t2 => some (spec_DoStep.e (t2.1, t2.2)) else (spec_l05Copy.f k a0_0).bind fun t3 => some (spec_DoStep.e (t3, false)) := by kernel_rfl
set_option maxRecDepth 100000 in
theorem spec_DoStep.oke (k : Nat) (a0_0 : List S83) (a1_0 : Int) (a1_1 : Int) (a1_2 : Int) (a1_3 : ByteArray) : goF Try.f55 spec_DoStep.ctx spec_DoStep.sp 0 spec_DoStep.en (k + 1) [.code (body Try.f55)] (startSt [.ag [.row 0 .t83 a0_0], .ag [.sc (.int .i64 a1_0), .sc (.int .i64 a1_1), .sc (.int .i64 a1_2), .sc (.string a1_3)]] []) = (spec_DoStep.f k a0_0 a1_0 a1_1 a1_2 a1_3).map spec_DoStep.e := by
  rw [spec_DoStep.f]; exact (spec_DoStep.te _ k a0_0 a1_0 a1_1 a1_2 a1_3).trans (cd (bn (fun t1 => rfl)) (cd (bn (fun t2 => rfl)) (bn (fun t3 => rfl))))
theorem spec_DoStep.con (k : Nat) (a0_0 : List S83) (a1_0 : Int) (a1_1 : Int) (a1_2 : Int) (a1_3 : ByteArray) (r) (h : spec_DoStep.f k a0_0 a1_0 a1_1 a1_2 a1_3 = some r) : Contract Try.prog kit 55 [.ag [.row 0 .t83 a0_0], .ag [.sc (.int .i64 a1_0), .sc (.int .i64 a1_1), .sc (.int .i64 a1_2), .sc (.string a1_3)]] [] (spec_DoStep.e r).1 (spec_DoStep.e r).2.1 (spec_DoStep.e r).2.2 :=
  con_okG kitOk mix (fun k => (CtxOk.cons (spec_l05Copy.xok k) (CtxOk.cons (spec_Program.xok k) (CtxOk.cons (spec_Wipe.xok k) CtxOk.nil)))) (spec_DoStep.oke k a0_0 a1_0 a1_1 a1_2 a1_3) h (by kernel_rfl) (by kernel_rfl) (by kernel_rfl) rfl (by kernel_rfl) rfl rfl
noncomputable def spec_DoStep.x (k : Nat) : X := fun ins bs κ => match ins, bs with
  | [.ag [.row 0 .t83 a0_0], .ag [.sc (.int .i64 a1_0), .sc (.int .i64 a1_1), .sc (.int .i64 a1_2), .sc (.string a1_3)]], [] => (spec_DoStep.f k a0_0 a1_0 a1_1 a1_2 a1_3).bind fun r => κ (spec_DoStep.e r).1 (spec_DoStep.e r).2.1 (spec_DoStep.e r).2.2
  | _, _ => none
theorem spec_DoStep.xok (k : Nat) : XOk 55 (spec_DoStep.x k) := by
  intro ins bs κ res h
  unfold spec_DoStep.x at h
  split at h
  · obtain ⟨r, hr, h⟩ := Option.bind_eq_some_iff.1 h
    exact ⟨_, _, _, spec_DoStep.con k _ _ _ _ _ r hr, h⟩
  · cases h

/-! ### spec_OpenBlock: function 115 -/
noncomputable def spec_OpenBlock.sp : Nat → Option (Spec Ty) := fun r => bif Nat.beq r 2 then some ⟨[(1, .box [.keep]), (3, .keep)], []⟩ else bif Nat.beq r 7 then some ⟨[(1, .box [.keep]), (3, .keep), (4, .keep), (5, .keep), (6, .keep)], []⟩ else none
noncomputable def spec_OpenBlock.en : Option (Spec Ty) := none
noncomputable def spec_OpenBlock.s2 (x3 : Int) (h64_0 : List S83) : St Ty D := ⟨(Env.put (Env.put E (some 1) (.pt 64 0 0)) (some 3) (.sc (.int .i64 x3))), Heap.put H0 [(64, some (.box [.row 0 .t83 h64_0]))], 1000⟩
noncomputable def spec_OpenBlock.s7 (x3 : Int) (x4 : Int) (x5 : Int) (x6 : Int) (h64_0 : List S83) : St Ty D := ⟨(Env.put (Env.put (Env.put (Env.put (Env.put E (some 1) (.pt 64 0 0)) (some 3) (.sc (.int .i64 x3))) (some 4) (.sc (.int .i64 x4))) (some 5) (.sc (.int .i64 x5))) (some 6) (.sc (.int .i64 x6))), Heap.put H0 [(64, some (.box [.row 0 .t83 h64_0]))], 1000⟩
noncomputable def spec_OpenBlock.ctx (k : Nat) : Ctx Ty D := (fun _ _ _ _ => none)
mutual
noncomputable def spec_OpenBlock.c2 : Nat → Int → (List S83) → Option (Int)
  | 0, _, _ => none
  | k + 1, x3, h64_0 => (if x3 < (h64_0.length : Int) then (spec_OpenBlock.c7 k x3 0 0 0 h64_0) else (some ((-1))))
noncomputable def spec_OpenBlock.c7 : Nat → Int → Int → Int → Int → (List S83) → Option (Int)
  | 0, _, _, _, _, _ => none
  | k + 1, x3, x4, x5, x6, h64_0 => (if 0 ≤ x3 then (if x3 < (h64_0.length : Int) then (if x6 < (((rd_T83 h64_0 x3).f2).length : Int) then (if 0 ≤ x3 then (if x3 < (h64_0.length : Int) then (if 0 ≤ x6 then (if x6 < (((rd_T83 h64_0 x3).f2).length : Int) then (if ((rd_T101 ((rd_T83 h64_0 x3).f2) x6).f0) = 0 then (spec_OpenBlock.c7 k x3 (w64 (x4 + 1)) x5 (w64 (x6 + 1)) h64_0) else (spec_OpenBlock.c7 k x3 x4 (w64 (x5 + 1)) (w64 (x6 + 1)) h64_0)) else none) else none) else none) else none) else (if 0 ≤ x3 then (if x3 < (h64_0.length : Int) then (if ((rd_T83 h64_0 x3).f0) = true then (spec_OpenBlock.c2 k (w64 (x3 + 1)) h64_0) else (if x4 > 0 then (if x5 > 0 then (some (x3)) else (spec_OpenBlock.c2 k (w64 (x3 + 1)) h64_0)) else (spec_OpenBlock.c2 k (w64 (x3 + 1)) h64_0))) else none) else none)) else none) else none)
end
noncomputable def spec_OpenBlock.f (k : Nat) (a0_0 : List S83) : Option (Int) := (spec_OpenBlock.c2 k 0 a0_0)
noncomputable def spec_OpenBlock.e (r : Int) : Res Ty D := (.sc (.int .i64 r), [], [])
noncomputable abbrev spec_OpenBlock.g (rec : List Item → St Ty D → R) (k : Nat) := go1 Try.f115 (spec_OpenBlock.ctx k) spec_OpenBlock.sp 0 spec_OpenBlock.en rec
set_option maxRecDepth 100000 in
theorem spec_OpenBlock.t2 (rec : List Item → St Ty D → R) (k : Nat) (x3 : Int) (h64_0 : List S83) : spec_OpenBlock.g rec k (td Try.f115 2) (spec_OpenBlock.s2 x3 h64_0) =
  bif decide (x3 < (h64_0.length : Int)) then rec (td Try.f115 7) (spec_OpenBlock.s7 x3 0 0 0 h64_0) else some (spec_OpenBlock.e ((-1))) := by kernel_rfl
set_option maxRecDepth 100000 in
theorem spec_OpenBlock.t7 (rec : List Item → St Ty D → R) (k : Nat) (x3 : Int) (x4 : Int) (x5 : Int) (x6 : Int) (h64_0 : List S83) : spec_OpenBlock.g rec k (td Try.f115 7) (spec_OpenBlock.s7 x3 x4 x5 x6 h64_0) =
  bif decide (0 ≤ x3) then bif decide (x3 < (h64_0.length : Int)) then bif decide (x6 < (((rd_T83 h64_0 x3).f2).length : Int)) then bif decide (0 ≤ x3) then bif decide (x3 < (h64_0.length : Int)) then bif decide (0 ≤ x6) then bif decide (x6 < (((rd_T83 h64_0 x3).f2).length : Int)) then bif decide (((rd_T101 ((rd_T83 h64_0 x3).f2) x6).f0) = 0) then rec (td Try.f115 7) (spec_OpenBlock.s7 x3 (w64 (x4 + 1)) x5 (w64 (x6 + 1)) h64_0) else rec (td Try.f115 7) (spec_OpenBlock.s7 x3 x4 (w64 (x5 + 1)) (w64 (x6 + 1)) h64_0) else none else none else none else none else bif decide (0 ≤ x3) then bif decide (x3 < (h64_0.length : Int)) then bif !((rd_T83 h64_0 x3).f0) then bif decide (x4 > 0) then bif decide (x5 > 0) then some (spec_OpenBlock.e (x3)) else rec (td Try.f115 2) (spec_OpenBlock.s2 (w64 (x3 + 1)) h64_0) else rec (td Try.f115 2) (spec_OpenBlock.s2 (w64 (x3 + 1)) h64_0) else rec (td Try.f115 2) (spec_OpenBlock.s2 (w64 (x3 + 1)) h64_0) else none else none else none else none := by kernel_rfl
set_option maxRecDepth 100000 in
theorem spec_OpenBlock.te (rec : List Item → St Ty D → R) (k : Nat) (a0_0 : List S83) : spec_OpenBlock.g rec k [.code (body Try.f115)] (startSt [.ag [.row 0 .t83 a0_0]] []) =
  rec (td Try.f115 2) (spec_OpenBlock.s2 0 a0_0) := by kernel_rfl
set_option maxRecDepth 100000 in
theorem spec_OpenBlock.ok : ∀ k : Nat, (∀ (x3 : Int) (h64_0 : List S83), goF Try.f115 spec_OpenBlock.ctx spec_OpenBlock.sp 0 spec_OpenBlock.en k (td Try.f115 2) (spec_OpenBlock.s2 x3 h64_0) = (spec_OpenBlock.c2 k x3 h64_0).map spec_OpenBlock.e) ∧ (∀ (x3 : Int) (x4 : Int) (x5 : Int) (x6 : Int) (h64_0 : List S83), goF Try.f115 spec_OpenBlock.ctx spec_OpenBlock.sp 0 spec_OpenBlock.en k (td Try.f115 7) (spec_OpenBlock.s7 x3 x4 x5 x6 h64_0) = (spec_OpenBlock.c7 k x3 x4 x5 x6 h64_0).map spec_OpenBlock.e)
  | 0 => ⟨fun _ _ => rfl, fun _ _ _ _ _ => rfl⟩
  | k + 1 => by
    have ih := spec_OpenBlock.ok k
    obtain ⟨i2, i7⟩ := ih
    refine ⟨?_, ?_⟩
    · intro x3 h64_0; rw [spec_OpenBlock.c2]; exact (spec_OpenBlock.t2 _ k x3 h64_0).trans (cd (i7 _ _ _ _ _) rfl)
    · intro x3 x4 x5 x6 h64_0; rw [spec_OpenBlock.c7]; exact (spec_OpenBlock.t7 _ k x3 x4 x5 x6 h64_0).trans (cd (cd (cd (cd (cd (cd (cd (cd (i7 _ _ _ _ _) (i7 _ _ _ _ _)) rfl) rfl) rfl) rfl) (cd (cd (nb (cd (cd rfl (i2 _ _)) (i2 _ _)) (i2 _ _)) rfl) rfl)) rfl) rfl)
set_option maxRecDepth 100000 in
theorem spec_OpenBlock.oke (k : Nat) (a0_0 : List S83) : goF Try.f115 spec_OpenBlock.ctx spec_OpenBlock.sp 0 spec_OpenBlock.en (k + 1) [.code (body Try.f115)] (startSt [.ag [.row 0 .t83 a0_0]] []) = (spec_OpenBlock.f k a0_0).map spec_OpenBlock.e := by
  obtain ⟨i2, i7⟩ := spec_OpenBlock.ok k
  rw [spec_OpenBlock.f]; exact (spec_OpenBlock.te _ k a0_0).trans (i2 _ _)
theorem spec_OpenBlock.con (k : Nat) (a0_0 : List S83) (r) (h : spec_OpenBlock.f k a0_0 = some r) : Contract Try.prog kit 115 [.ag [.row 0 .t83 a0_0]] [] (spec_OpenBlock.e r).1 (spec_OpenBlock.e r).2.1 (spec_OpenBlock.e r).2.2 :=
  con_okG kitOk mix (fun k => CtxOk.nil) (spec_OpenBlock.oke k a0_0) h (by kernel_rfl) (by kernel_rfl) (by kernel_rfl) rfl (by kernel_rfl) rfl rfl
noncomputable def spec_OpenBlock.x (k : Nat) : X := fun ins bs κ => match ins, bs with
  | [.ag [.row 0 .t83 a0_0]], [] => (spec_OpenBlock.f k a0_0).bind fun r => κ (spec_OpenBlock.e r).1 (spec_OpenBlock.e r).2.1 (spec_OpenBlock.e r).2.2
  | _, _ => none
theorem spec_OpenBlock.xok (k : Nat) : XOk 115 (spec_OpenBlock.x k) := by
  intro ins bs κ res h
  unfold spec_OpenBlock.x at h
  split at h
  · obtain ⟨r, hr, h⟩ := Option.bind_eq_some_iff.1 h
    exact ⟨_, _, _, spec_OpenBlock.con k _ r hr, h⟩
  · cases h

/-! ### spec_FreeBlocks: function 116 -/
noncomputable def spec_FreeBlocks.sp : Nat → Option (Spec Ty) := fun r => bif Nat.beq r 3 then some ⟨[(1, .box [.keep]), (3, .own .t3), (4, .keep)], []⟩ else bif Nat.beq r 7 then some ⟨[(1, .box [.keep]), (3, .own .t3), (4, .keep), (5, .keep), (6, .keep)], []⟩ else none
noncomputable def spec_FreeBlocks.en : Option (Spec Ty) := some ⟨[(2, .own .t3)], []⟩
noncomputable def spec_FreeBlocks.s3 (x4 : Int) (h64_0 : List S83) (h65 : List Int) : St Ty D := ⟨(Env.put (Env.put (Env.put E (some 1) (.pt 64 0 0)) (some 3) (.sl 65 none)) (some 4) (.sc (.int .i64 x4))), Heap.put H0 [(64, some (.box [.row 0 .t83 h64_0])), (65, some (.rowb .t3 h65 0))], 1000⟩
noncomputable def spec_FreeBlocks.s7 (x4 : Int) (x5 : Bool) (x6 : Int) (h64_0 : List S83) (h65 : List Int) : St Ty D := ⟨(Env.put (Env.put (Env.put (Env.put (Env.put E (some 1) (.pt 64 0 0)) (some 3) (.sl 65 none)) (some 4) (.sc (.int .i64 x4))) (some 5) (.sc (.bool x5))) (some 6) (.sc (.int .i64 x6))), Heap.put H0 [(64, some (.box [.row 0 .t83 h64_0])), (65, some (.rowb .t3 h65 0))], 1000⟩
noncomputable def spec_FreeBlocks.ctx (k : Nat) : Ctx Ty D := (fun _ _ _ _ => none)
mutual
noncomputable def spec_FreeBlocks.c3 : Nat → Int → (List S83) → (List Int) → Option ((List Int))
  | 0, _, _, _ => none
  | k + 1, x4, h64_0, h65 => (if x4 < (h64_0.length : Int) then (if 0 ≤ x4 then (if x4 < (h64_0.length : Int) then (spec_FreeBlocks.c7 k x4 (!((rd_T83 h64_0 x4).f0)) 0 h64_0 h65) else none) else none) else (some (h65)))
noncomputable def spec_FreeBlocks.c7 : Nat → Int → Bool → Int → (List S83) → (List Int) → Option ((List Int))
  | 0, _, _, _, _, _ => none
  | k + 1, x4, x5, x6, h64_0, h65 => (if 0 ≤ x4 then (if x4 < (h64_0.length : Int) then (if x6 < (((rd_T83 h64_0 x4).f2).length : Int) then (if x5 = true then (if 0 ≤ x4 then (if x4 < (h64_0.length : Int) then (if 0 ≤ x6 then (if x6 < (((rd_T83 h64_0 x4).f2).length : Int) then (spec_FreeBlocks.c7 k x4 (decide (((rd_T101 ((rd_T83 h64_0 x4).f2) x6).f0) = 0)) (w64 (x6 + 1)) h64_0 h65) else none) else none) else none) else none) else (spec_FreeBlocks.c7 k x4 false (w64 (x6 + 1)) h64_0 h65)) else (if x5 = true then (if h65.length + ([x4] : List Int).length ≤ 17592186044416 then (spec_FreeBlocks.c3 k (w64 (x4 + 1)) h64_0 (h65 ++ ([x4] : List Int))) else none) else (spec_FreeBlocks.c3 k (w64 (x4 + 1)) h64_0 h65))) else none) else none)
end
noncomputable def spec_FreeBlocks.f (k : Nat) (a0_0 : List S83) : Option ((List Int)) := (spec_FreeBlocks.c3 k 0 a0_0 ([] : List Int))
noncomputable def spec_FreeBlocks.e (r : (List Int)) : Res Ty D := (.sl 0 none, [], [.rowb .t3 r 0])
noncomputable abbrev spec_FreeBlocks.g (rec : List Item → St Ty D → R) (k : Nat) := go1 Try.f116 (spec_FreeBlocks.ctx k) spec_FreeBlocks.sp 0 spec_FreeBlocks.en rec
set_option maxRecDepth 100000 in
theorem spec_FreeBlocks.t3 (rec : List Item → St Ty D → R) (k : Nat) (x4 : Int) (h64_0 : List S83) (h65 : List Int) : spec_FreeBlocks.g rec k (td Try.f116 3) (spec_FreeBlocks.s3 x4 h64_0 h65) =
  bif decide (x4 < (h64_0.length : Int)) then bif decide (0 ≤ x4) then bif decide (x4 < (h64_0.length : Int)) then rec (td Try.f116 7) (spec_FreeBlocks.s7 x4 (!((rd_T83 h64_0 x4).f0)) 0 h64_0 h65) else none else none else some (spec_FreeBlocks.e (h65)) := by kernel_rfl
set_option maxRecDepth 100000 in
theorem spec_FreeBlocks.t7 (rec : List Item → St Ty D → R) (k : Nat) (x4 : Int) (x5 : Bool) (x6 : Int) (h64_0 : List S83) (h65 : List Int) : spec_FreeBlocks.g rec k (td Try.f116 7) (spec_FreeBlocks.s7 x4 x5 x6 h64_0 h65) =
  bif decide (0 ≤ x4) then bif decide (x4 < (h64_0.length : Int)) then bif decide (x6 < (((rd_T83 h64_0 x4).f2).length : Int)) then bif x5 then bif decide (0 ≤ x4) then bif decide (x4 < (h64_0.length : Int)) then bif decide (0 ≤ x6) then bif decide (x6 < (((rd_T83 h64_0 x4).f2).length : Int)) then rec (td Try.f116 7) (spec_FreeBlocks.s7 x4 (decide (((rd_T101 ((rd_T83 h64_0 x4).f2) x6).f0) = 0)) (w64 (x6 + 1)) h64_0 h65) else none else none else none else none else rec (td Try.f116 7) (spec_FreeBlocks.s7 x4 false (w64 (x6 + 1)) h64_0 h65) else bif x5 then bif decide (h65.length + ([x4] : List Int).length ≤ 17592186044416) then rec (td Try.f116 3) (spec_FreeBlocks.s3 (w64 (x4 + 1)) h64_0 (h65 ++ ([x4] : List Int))) else none else rec (td Try.f116 3) (spec_FreeBlocks.s3 (w64 (x4 + 1)) h64_0 h65) else none else none := by kernel_rfl
set_option maxRecDepth 100000 in
theorem spec_FreeBlocks.te (rec : List Item → St Ty D → R) (k : Nat) (a0_0 : List S83) : spec_FreeBlocks.g rec k [.code (body Try.f116)] (startSt [.ag [.row 0 .t83 a0_0]] []) =
  rec (td Try.f116 3) (spec_FreeBlocks.s3 0 a0_0 ([] : List Int)) := by kernel_rfl
set_option maxRecDepth 100000 in
theorem spec_FreeBlocks.ok : ∀ k : Nat, (∀ (x4 : Int) (h64_0 : List S83) (h65 : List Int), goF Try.f116 spec_FreeBlocks.ctx spec_FreeBlocks.sp 0 spec_FreeBlocks.en k (td Try.f116 3) (spec_FreeBlocks.s3 x4 h64_0 h65) = (spec_FreeBlocks.c3 k x4 h64_0 h65).map spec_FreeBlocks.e) ∧ (∀ (x4 : Int) (x5 : Bool) (x6 : Int) (h64_0 : List S83) (h65 : List Int), goF Try.f116 spec_FreeBlocks.ctx spec_FreeBlocks.sp 0 spec_FreeBlocks.en k (td Try.f116 7) (spec_FreeBlocks.s7 x4 x5 x6 h64_0 h65) = (spec_FreeBlocks.c7 k x4 x5 x6 h64_0 h65).map spec_FreeBlocks.e)
  | 0 => ⟨fun _ _ _ => rfl, fun _ _ _ _ _ => rfl⟩
  | k + 1 => by
    have ih := spec_FreeBlocks.ok k
    obtain ⟨i3, i7⟩ := ih
    refine ⟨?_, ?_⟩
    · intro x4 h64_0 h65; rw [spec_FreeBlocks.c3]; exact (spec_FreeBlocks.t3 _ k x4 h64_0 h65).trans (cd (cd (cd (i7 _ _ _ _ _) rfl) rfl) rfl)
    · intro x4 x5 x6 h64_0 h65; rw [spec_FreeBlocks.c7]; exact (spec_FreeBlocks.t7 _ k x4 x5 x6 h64_0 h65).trans (cd (cd (cd (cb (cd (cd (cd (cd (i7 _ _ _ _ _) rfl) rfl) rfl) rfl) (i7 _ _ _ _ _)) (cb (cd (i3 _ _ _) rfl) (i3 _ _ _))) rfl) rfl)
set_option maxRecDepth 100000 in
theorem spec_FreeBlocks.oke (k : Nat) (a0_0 : List S83) : goF Try.f116 spec_FreeBlocks.ctx spec_FreeBlocks.sp 0 spec_FreeBlocks.en (k + 1) [.code (body Try.f116)] (startSt [.ag [.row 0 .t83 a0_0]] []) = (spec_FreeBlocks.f k a0_0).map spec_FreeBlocks.e := by
  obtain ⟨i3, i7⟩ := spec_FreeBlocks.ok k
  rw [spec_FreeBlocks.f]; exact (spec_FreeBlocks.te _ k a0_0).trans (i3 _ _ _)
theorem spec_FreeBlocks.con (k : Nat) (a0_0 : List S83) (r) (h : spec_FreeBlocks.f k a0_0 = some r) : Contract Try.prog kit 116 [.ag [.row 0 .t83 a0_0]] [] (spec_FreeBlocks.e r).1 (spec_FreeBlocks.e r).2.1 (spec_FreeBlocks.e r).2.2 :=
  con_okG kitOk mix (fun k => CtxOk.nil) (spec_FreeBlocks.oke k a0_0) h (by kernel_rfl) (by kernel_rfl) (by kernel_rfl) rfl (by kernel_rfl) rfl rfl
noncomputable def spec_FreeBlocks.x (k : Nat) : X := fun ins bs κ => match ins, bs with
  | [.ag [.row 0 .t83 a0_0]], [] => (spec_FreeBlocks.f k a0_0).bind fun r => κ (spec_FreeBlocks.e r).1 (spec_FreeBlocks.e r).2.1 (spec_FreeBlocks.e r).2.2
  | _, _ => none
theorem spec_FreeBlocks.xok (k : Nat) : XOk 116 (spec_FreeBlocks.x k) := by
  intro ins bs κ res h
  unfold spec_FreeBlocks.x at h
  split at h
  · obtain ⟨r, hr, h⟩ := Option.bind_eq_some_iff.1 h
    exact ⟨_, _, _, spec_FreeBlocks.con k _ r hr, h⟩
  · cases h

/-! ### spec_PlaceOf: function 96 -/
noncomputable def spec_PlaceOf.sp : Nat → Option (Spec Ty) := fun r => bif Nat.beq r 11 then some ⟨[(1, .box [.keep]), (6, .own .t3), (7, .keep), (8, .keep)], []⟩ else none
noncomputable def spec_PlaceOf.en : Option (Spec Ty) := none
noncomputable def spec_PlaceOf.s11 (x7 : Int) (x8 : Int) (h64_0 : List S83) (h65 : List Int) : St Ty D := ⟨(Env.put (Env.put (Env.put (Env.put E (some 1) (.pt 64 0 0)) (some 6) (.sl 65 none)) (some 7) (.sc (.int .i64 x7))) (some 8) (.sc (.int .i64 x8))), Heap.put H0 [(64, some (.box [.row 0 .t83 h64_0])), (65, some (.rowb .t3 h65 0))], 1000⟩
noncomputable def spec_PlaceOf.ctx (k : Nat) : Ctx Ty D := (cons 108 (spec_FlashOk.x k) (cons 113 (spec_NextBlank.x k) (cons 115 (spec_OpenBlock.x k) (cons 116 (spec_FreeBlocks.x k) (fun _ _ _ _ => none)))))
noncomputable def spec_PlaceOf.c11 : Nat → Int → Int → (List S83) → (List Int) → Option (Int × Int × Bool)
  | 0, _, _, _, _ => none
  | k + 1, x7, x8, h64_0, h65 => (if x8 < (h65.length : Int) then (if 0 ≤ x8 then (if x8 < (h65.length : Int) then (if 0 ≤ (rd_T3 h65 x8) then (if (rd_T3 h65 x8) < (h64_0.length : Int) then (if 0 ≤ x7 then (if x7 < (h64_0.length : Int) then (if ((rd_T83 h64_0 (rd_T3 h65 x8)).f1) < ((rd_T83 h64_0 x7).f1) then (if 0 ≤ x8 then (if x8 < (h65.length : Int) then (spec_PlaceOf.c11 k (rd_T3 h65 x8) (w64 (x8 + 1)) h64_0 h65) else none) else none) else (spec_PlaceOf.c11 k x7 (w64 (x8 + 1)) h64_0 h65)) else none) else none) else none) else none) else none) else none) else (some (x7, 0, true)))
noncomputable def spec_PlaceOf.f (k : Nat) (a0_0 : List S83) : Option (Int × Int × Bool) := ((spec_FlashOk.f k a0_0).bind fun t1 => (if t1 = true then ((spec_OpenBlock.f k a0_0).bind fun t2 => (if t2 ≥ 0 then (if 0 ≤ t2 then (if t2 < (a0_0.length : Int) then ((spec_NextBlank.f k ((rd_T83 a0_0 t2).f0) ((rd_T83 a0_0 t2).f1) ((rd_T83 a0_0 t2).f2)).bind fun t3 => (some (t2, t3, true))) else none) else none) else ((spec_FreeBlocks.f k a0_0).bind fun t4 => (if (t4.length : Int) = 0 then (some (0, 0, false)) else (if 0 < (t4.length : Int) then (spec_PlaceOf.c11 k (rd_T3 t4 0) 1 a0_0 t4) else none))))) else (some (0, 0, false))))
noncomputable def spec_PlaceOf.e (r : Int × Int × Bool) : Res Ty D := (.tu [.sc (.int .i64 r.1), .sc (.int .i64 r.2.1), .sc (.bool r.2.2)], [], [])
noncomputable abbrev spec_PlaceOf.g (rec : List Item → St Ty D → R) (k : Nat) := go1 Try.f96 (spec_PlaceOf.ctx k) spec_PlaceOf.sp 0 spec_PlaceOf.en rec
set_option maxRecDepth 100000 in
theorem spec_PlaceOf.t11 (rec : List Item → St Ty D → R) (k : Nat) (x7 : Int) (x8 : Int) (h64_0 : List S83) (h65 : List Int) : spec_PlaceOf.g rec k (td Try.f96 11) (spec_PlaceOf.s11 x7 x8 h64_0 h65) =
  bif decide (x8 < (h65.length : Int)) then bif decide (0 ≤ x8) then bif decide (x8 < (h65.length : Int)) then bif decide (0 ≤ (rd_T3 h65 x8)) then bif decide ((rd_T3 h65 x8) < (h64_0.length : Int)) then bif decide (0 ≤ x7) then bif decide (x7 < (h64_0.length : Int)) then bif decide (((rd_T83 h64_0 (rd_T3 h65 x8)).f1) < ((rd_T83 h64_0 x7).f1)) then bif decide (0 ≤ x8) then bif decide (x8 < (h65.length : Int)) then rec (td Try.f96 11) (spec_PlaceOf.s11 (rd_T3 h65 x8) (w64 (x8 + 1)) h64_0 h65) else none else none else rec (td Try.f96 11) (spec_PlaceOf.s11 x7 (w64 (x8 + 1)) h64_0 h65) else none else none else none else none else none else none else some (spec_PlaceOf.e (x7, 0, true)) := by kernel_rfl
set_option maxRecDepth 100000 in
theorem spec_PlaceOf.te (rec : List Item → St Ty D → R) (k : Nat) (a0_0 : List S83) : spec_PlaceOf.g rec k [.code (body Try.f96)] (startSt [.ag [.row 0 .t83 a0_0]] []) =
  (spec_FlashOk.f k a0_0).bind fun t1 => bif !t1 then some (spec_PlaceOf.e (0, 0, false)) else (spec_OpenBlock.f k a0_0).bind fun t2 => bif decide (t2 ≥ 0) then bif decide (0 ≤ t2) then bif decide (t2 < (a0_0.length : Int)) then (spec_NextBlank.f k ((rd_T83 a0_0 t2).f0) ((rd_T83 a0_0 t2).f1) ((rd_T83 a0_0 t2).f2)).bind fun t3 => some (spec_PlaceOf.e (t2, t3, true)) else none else none else (spec_FreeBlocks.f k a0_0).bind fun t4 => bif decide ((t4.length : Int) = 0) then some (spec_PlaceOf.e (0, 0, false)) else bif decide (0 < (t4.length : Int)) then rec (td Try.f96 11) (spec_PlaceOf.s11 (rd_T3 t4 0) 1 a0_0 t4) else none := by kernel_rfl
set_option maxRecDepth 100000 in
theorem spec_PlaceOf.ok : ∀ k : Nat, (∀ (x7 : Int) (x8 : Int) (h64_0 : List S83) (h65 : List Int), goF Try.f96 spec_PlaceOf.ctx spec_PlaceOf.sp 0 spec_PlaceOf.en k (td Try.f96 11) (spec_PlaceOf.s11 x7 x8 h64_0 h65) = (spec_PlaceOf.c11 k x7 x8 h64_0 h65).map spec_PlaceOf.e)
  | 0 => fun _ _ _ _ => rfl
  | k + 1 => by
    have ih := spec_PlaceOf.ok k
    have i11 := ih
    intro x7 x8 h64_0 h65; rw [spec_PlaceOf.c11]; exact (spec_PlaceOf.t11 _ k x7 x8 h64_0 h65).trans (cd (cd (cd (cd (cd (cd (cd (cd (cd (cd (i11 _ _ _ _) rfl) rfl) (i11 _ _ _ _)) rfl) rfl) rfl) rfl) rfl) rfl) rfl)
set_option maxRecDepth 100000 in
theorem spec_PlaceOf.oke (k : Nat) (a0_0 : List S83) : goF Try.f96 spec_PlaceOf.ctx spec_PlaceOf.sp 0 spec_PlaceOf.en (k + 1) [.code (body Try.f96)] (startSt [.ag [.row 0 .t83 a0_0]] []) = (spec_PlaceOf.f k a0_0).map spec_PlaceOf.e := by
  have i11 := spec_PlaceOf.ok k
  rw [spec_PlaceOf.f]; exact (spec_PlaceOf.te _ k a0_0).trans (bn (fun t1 => (nb rfl (bn (fun t2 => (cd (cd (cd (bn (fun t3 => rfl)) rfl) rfl) (bn (fun t4 => (cd rfl (cd (i11 _ _ _ _) rfl))))))))))
theorem spec_PlaceOf.con (k : Nat) (a0_0 : List S83) (r) (h : spec_PlaceOf.f k a0_0 = some r) : Contract Try.prog kit 96 [.ag [.row 0 .t83 a0_0]] [] (spec_PlaceOf.e r).1 (spec_PlaceOf.e r).2.1 (spec_PlaceOf.e r).2.2 :=
  con_okG kitOk mix (fun k => (CtxOk.cons (spec_FlashOk.xok k) (CtxOk.cons (spec_NextBlank.xok k) (CtxOk.cons (spec_OpenBlock.xok k) (CtxOk.cons (spec_FreeBlocks.xok k) CtxOk.nil))))) (spec_PlaceOf.oke k a0_0) h (by kernel_rfl) (by kernel_rfl) (by kernel_rfl) rfl (by kernel_rfl) rfl rfl
noncomputable def spec_PlaceOf.x (k : Nat) : X := fun ins bs κ => match ins, bs with
  | [.ag [.row 0 .t83 a0_0]], [] => (spec_PlaceOf.f k a0_0).bind fun r => κ (spec_PlaceOf.e r).1 (spec_PlaceOf.e r).2.1 (spec_PlaceOf.e r).2.2
  | _, _ => none
theorem spec_PlaceOf.xok (k : Nat) : XOk 96 (spec_PlaceOf.x k) := by
  intro ins bs κ res h
  unfold spec_PlaceOf.x at h
  split at h
  · obtain ⟨r, hr, h⟩ := Option.bind_eq_some_iff.1 h
    exact ⟨_, _, _, spec_PlaceOf.con k _ r hr, h⟩
  · cases h

/-! ### spec_l08Steps: function 69 -/
noncomputable def spec_l08Steps.sp : Nat → Option (Spec Ty) := fun r => bif Nat.beq r 4 then some ⟨[(0, .box [.keep, .keep, .keep]), (5, .own .t56), (6, .box [.frz .t83]), (7, .keep)], [(0, some [.keep, .keep, .keep])]⟩ else none
noncomputable def spec_l08Steps.en : Option (Spec Ty) := some ⟨[(4, .own .t56)], [(0, some [.keep, .keep, .keep])]⟩
noncomputable def spec_l08Steps.s4 (x7 : Int) (h0_0 : List Int) (h0_1 : Int) (h0_2 : Int) (h64 : List S56) (h65_0 : List S83) : St Ty D := ⟨(Env.put (Env.put (Env.put (Env.put E (some 0) (.pt 0 0 0)) (some 5) (.sl 64 none)) (some 6) (.pt 65 0 0)) (some 7) (.sc (.int .i64 x7))), Heap.put H0 [(0, some (.box [.row 1 .t5 h0_0, .sc (.int .i64 h0_1), .sc (.int .i64 h0_2)])), (64, some (.rowb .t56 h64 0)), (65, some (.box [.row 0 .t83 h65_0]))], 1000⟩
noncomputable def spec_l08Steps.ctx (k : Nat) : Ctx Ty D := (cons 55 (spec_DoStep.x k) (cons 71 (spec_l01Below.x k) (cons 73 (spec_l01Once.x k) (cons 95 (spec_l01Text.x k) (cons 96 (spec_PlaceOf.x k) (fun _ _ _ _ => none))))))
noncomputable def spec_l08Steps.c4 : Nat → Int → (List Int) → Int → Int → (List S56) → (List S83) → Option ((List S56) × (List Int) × Int × Int)
  | 0, _, _, _, _, _, _ => none
  | k + 1, x7, h0_0, h0_1, h0_2, h64, h65_0 => ((spec_l01Below.f k 7 h0_0 h0_1 h0_2).bind fun t1 => (if x7 < t1.1 then ((spec_l01Below.f k 5 t1.2.1 t1.2.2.1 t1.2.2.2).bind fun t2 => ((spec_l01Text.f k (w64 (1 + t2.1)) t2.2.1 t2.2.2.1 t2.2.2.2).bind fun t3 => ((spec_PlaceOf.f k h65_0).bind fun t4 => (if t4.2.2 = true then ((spec_l01Once.f k 5 t3.2.1 t3.2.2.1 t3.2.2.2).bind fun t10 => (if t10.1 = true then ((spec_l01Below.f k 4 t10.2.1 t10.2.2.1 t10.2.2.2).bind fun t11 => ((spec_l01Once.f k 24 t11.2.1 t11.2.2.1 t11.2.2.2).bind fun t12 => (if t12.1 = true then ((spec_l01Below.f k 4 t12.2.1 t12.2.2.1 t12.2.2.2).bind fun t13 => ((spec_DoStep.f k h65_0 t13.1 t11.1 0 (⟨#[]⟩ : ByteArray)).bind fun t14 => (if h64.length + ([(S56.mk t13.1 t11.1 0 (⟨#[]⟩ : ByteArray))] : List S56).length ≤ 3518437208883 then (spec_l08Steps.c4 k (w64 (x7 + 1)) t13.2.1 t13.2.2.1 t13.2.2.2 (h64 ++ ([(S56.mk t13.1 t11.1 0 (⟨#[]⟩ : ByteArray))] : List S56)) t14.1) else none))) else ((spec_DoStep.f k h65_0 2 t11.1 0 (⟨#[]⟩ : ByteArray)).bind fun t15 => (if h64.length + ([(S56.mk 2 t11.1 0 (⟨#[]⟩ : ByteArray))] : List S56).length ≤ 3518437208883 then (spec_l08Steps.c4 k (w64 (x7 + 1)) t12.2.1 t12.2.2.1 t12.2.2.2 (h64 ++ ([(S56.mk 2 t11.1 0 (⟨#[]⟩ : ByteArray))] : List S56)) t15.1) else none))))) else ((spec_l01Once.f k 24 t10.2.1 t10.2.2.1 t10.2.2.2).bind fun t16 => (if t16.1 = true then ((spec_l01Below.f k 4 t16.2.1 t16.2.2.1 t16.2.2.2).bind fun t17 => ((spec_DoStep.f k h65_0 t17.1 t4.1 t4.2.1 t3.1).bind fun t18 => (if h64.length + ([(S56.mk t17.1 t4.1 t4.2.1 t3.1)] : List S56).length ≤ 3518437208883 then (spec_l08Steps.c4 k (w64 (x7 + 1)) t17.2.1 t17.2.2.1 t17.2.2.2 (h64 ++ ([(S56.mk t17.1 t4.1 t4.2.1 t3.1)] : List S56)) t18.1) else none))) else ((spec_DoStep.f k h65_0 1 t4.1 t4.2.1 t3.1).bind fun t19 => (if h64.length + ([(S56.mk 1 t4.1 t4.2.1 t3.1)] : List S56).length ≤ 3518437208883 then (spec_l08Steps.c4 k (w64 (x7 + 1)) t16.2.1 t16.2.2.1 t16.2.2.2 (h64 ++ ([(S56.mk 1 t4.1 t4.2.1 t3.1)] : List S56)) t19.1) else none)))))) else ((spec_l01Below.f k 4 t3.2.1 t3.2.2.1 t3.2.2.2).bind fun t5 => ((spec_l01Once.f k 24 t5.2.1 t5.2.2.1 t5.2.2.2).bind fun t6 => (if t6.1 = true then ((spec_l01Below.f k 4 t6.2.1 t6.2.2.1 t6.2.2.2).bind fun t7 => ((spec_DoStep.f k h65_0 t7.1 t5.1 0 (⟨#[]⟩ : ByteArray)).bind fun t8 => (if h64.length + ([(S56.mk t7.1 t5.1 0 (⟨#[]⟩ : ByteArray))] : List S56).length ≤ 3518437208883 then (spec_l08Steps.c4 k (w64 (x7 + 1)) t7.2.1 t7.2.2.1 t7.2.2.2 (h64 ++ ([(S56.mk t7.1 t5.1 0 (⟨#[]⟩ : ByteArray))] : List S56)) t8.1) else none))) else ((spec_DoStep.f k h65_0 2 t5.1 0 (⟨#[]⟩ : ByteArray)).bind fun t9 => (if h64.length + ([(S56.mk 2 t5.1 0 (⟨#[]⟩ : ByteArray))] : List S56).length ≤ 3518437208883 then (spec_l08Steps.c4 k (w64 (x7 + 1)) t6.2.1 t6.2.2.1 t6.2.2.2 (h64 ++ ([(S56.mk 2 t5.1 0 (⟨#[]⟩ : ByteArray))] : List S56)) t9.1) else none))))))))) else (some (h64, t1.2.1, t1.2.2.1, t1.2.2.2))))
noncomputable def spec_l08Steps.f (k : Nat) (a1_0 : List S83) (a0_0 : List Int) (a0_1 : Int) (a0_2 : Int) : Option ((List S56) × (List Int) × Int × Int) := (spec_l08Steps.c4 k 0 a0_0 a0_1 a0_2 ([] : List S56) a1_0)
noncomputable def spec_l08Steps.e (r : (List S56) × (List Int) × Int × Int) : Res Ty D := (.sl 1 none, [some (.box [.row 1 .t5 r.2.1, .sc (.int .i64 r.2.2.1), .sc (.int .i64 r.2.2.2)])], [.rowb .t56 r.1 0])
noncomputable abbrev spec_l08Steps.g (rec : List Item → St Ty D → R) (k : Nat) := go1 Try.f69 (spec_l08Steps.ctx k) spec_l08Steps.sp 1 spec_l08Steps.en rec
set_option maxRecDepth 100000 in
theorem spec_l08Steps.t4 (rec : List Item → St Ty D → R) (k : Nat) (x7 : Int) (h0_0 : List Int) (h0_1 : Int) (h0_2 : Int) (h64 : List S56) (h65_0 : List S83) : spec_l08Steps.g rec k (td Try.f69 4) (spec_l08Steps.s4 x7 h0_0 h0_1 h0_2 h64 h65_0) =
  (spec_l01Below.f k 7 h0_0 h0_1 h0_2).bind fun t1 => bif decide (x7 < t1.1) then (spec_l01Below.f k 5 t1.2.1 t1.2.2.1 t1.2.2.2).bind fun t2 => (spec_l01Text.f k (w64 (1 + t2.1)) t2.2.1 t2.2.2.1 t2.2.2.2).bind fun t3 => (spec_PlaceOf.f k h65_0).bind fun t4 => bif !t4.2.2 then (spec_l01Below.f k 4 t3.2.1 t3.2.2.1 t3.2.2.2).bind fun t5 => (spec_l01Once.f k 24 t5.2.1 t5.2.2.1 t5.2.2.2).bind fun t6 => bif t6.1 then (spec_l01Below.f k 4 t6.2.1 t6.2.2.1 t6.2.2.2).bind fun t7 => (spec_DoStep.f k h65_0 t7.1 t5.1 0 (⟨#[]⟩ : ByteArray)).bind fun t8 => bif decide (h64.length + ([(S56.mk t7.1 t5.1 0 (⟨#[]⟩ : ByteArray))] : List S56).length ≤ 3518437208883) then rec (td Try.f69 4) (spec_l08Steps.s4 (w64 (x7 + 1)) t7.2.1 t7.2.2.1 t7.2.2.2 (h64 ++ ([(S56.mk t7.1 t5.1 0 (⟨#[]⟩ : ByteArray))] : List S56)) t8.1) else none else (spec_DoStep.f k h65_0 2 t5.1 0 (⟨#[]⟩ : ByteArray)).bind fun t9 => bif decide (h64.length + ([(S56.mk 2 t5.1 0 (⟨#[]⟩ : ByteArray))] : List S56).length ≤ 3518437208883) then rec (td Try.f69 4) (spec_l08Steps.s4 (w64 (x7 + 1)) t6.2.1 t6.2.2.1 t6.2.2.2 (h64 ++ ([(S56.mk 2 t5.1 0 (⟨#[]⟩ : ByteArray))] : List S56)) t9.1) else none else (spec_l01Once.f k 5 t3.2.1 t3.2.2.1 t3.2.2.2).bind fun t10 => bif t10.1 then (spec_l01Below.f k 4 t10.2.1 t10.2.2.1 t10.2.2.2).bind fun t11 => (spec_l01Once.f k 24 t11.2.1 t11.2.2.1 t11.2.2.2).bind fun t12 => bif t12.1 then (spec_l01Below.f k 4 t12.2.1 t12.2.2.1 t12.2.2.2).bind fun t13 => (spec_DoStep.f k h65_0 t13.1 t11.1 0 (⟨#[]⟩ : ByteArray)).bind fun t14 => bif decide (h64.length + ([(S56.mk t13.1 t11.1 0 (⟨#[]⟩ : ByteArray))] : List S56).length ≤ 3518437208883) then rec (td Try.f69 4) (spec_l08Steps.s4 (w64 (x7 + 1)) t13.2.1 t13.2.2.1 t13.2.2.2 (h64 ++ ([(S56.mk t13.1 t11.1 0 (⟨#[]⟩ : ByteArray))] : List S56)) t14.1) else none else (spec_DoStep.f k h65_0 2 t11.1 0 (⟨#[]⟩ : ByteArray)).bind fun t15 => bif decide (h64.length + ([(S56.mk 2 t11.1 0 (⟨#[]⟩ : ByteArray))] : List S56).length ≤ 3518437208883) then rec (td Try.f69 4) (spec_l08Steps.s4 (w64 (x7 + 1)) t12.2.1 t12.2.2.1 t12.2.2.2 (h64 ++ ([(S56.mk 2 t11.1 0 (⟨#[]⟩ : ByteArray))] : List S56)) t15.1) else none else (spec_l01Once.f k 24 t10.2.1 t10.2.2.1 t10.2.2.2).bind fun t16 => bif t16.1 then (spec_l01Below.f k 4 t16.2.1 t16.2.2.1 t16.2.2.2).bind fun t17 => (spec_DoStep.f k h65_0 t17.1 t4.1 t4.2.1 t3.1).bind fun t18 => bif decide (h64.length + ([(S56.mk t17.1 t4.1 t4.2.1 t3.1)] : List S56).length ≤ 3518437208883) then rec (td Try.f69 4) (spec_l08Steps.s4 (w64 (x7 + 1)) t17.2.1 t17.2.2.1 t17.2.2.2 (h64 ++ ([(S56.mk t17.1 t4.1 t4.2.1 t3.1)] : List S56)) t18.1) else none else (spec_DoStep.f k h65_0 1 t4.1 t4.2.1 t3.1).bind fun t19 => bif decide (h64.length + ([(S56.mk 1 t4.1 t4.2.1 t3.1)] : List S56).length ≤ 3518437208883) then rec (td Try.f69 4) (spec_l08Steps.s4 (w64 (x7 + 1)) t16.2.1 t16.2.2.1 t16.2.2.2 (h64 ++ ([(S56.mk 1 t4.1 t4.2.1 t3.1)] : List S56)) t19.1) else none else some (spec_l08Steps.e (h64, t1.2.1, t1.2.2.1, t1.2.2.2)) := by kernel_rfl
set_option maxRecDepth 100000 in
theorem spec_l08Steps.te (rec : List Item → St Ty D → R) (k : Nat) (a1_0 : List S83) (a0_0 : List Int) (a0_1 : Int) (a0_2 : Int) : spec_l08Steps.g rec k [.code (body Try.f69)] (startSt [.pt 0 0 0, .ag [.row 0 .t83 a1_0]] [.box [.row 1 .t5 a0_0, .sc (.int .i64 a0_1), .sc (.int .i64 a0_2)]]) =
  rec (td Try.f69 4) (spec_l08Steps.s4 0 a0_0 a0_1 a0_2 ([] : List S56) a1_0) := by kernel_rfl
set_option maxRecDepth 100000 in
theorem spec_l08Steps.ok : ∀ k : Nat, (∀ (x7 : Int) (h0_0 : List Int) (h0_1 : Int) (h0_2 : Int) (h64 : List S56) (h65_0 : List S83), goF Try.f69 spec_l08Steps.ctx spec_l08Steps.sp 1 spec_l08Steps.en k (td Try.f69 4) (spec_l08Steps.s4 x7 h0_0 h0_1 h0_2 h64 h65_0) = (spec_l08Steps.c4 k x7 h0_0 h0_1 h0_2 h64 h65_0).map spec_l08Steps.e)
  | 0 => fun _ _ _ _ _ _ => rfl
  | k + 1 => by
    have ih := spec_l08Steps.ok k
    have i4 := ih
    intro x7 h0_0 h0_1 h0_2 h64 h65_0; rw [spec_l08Steps.c4]; exact (spec_l08Steps.t4 _ k x7 h0_0 h0_1 h0_2 h64 h65_0).trans (bn (fun t1 => (cd (bn (fun t2 => (bn (fun t3 => (bn (fun t4 => (nb (bn (fun t5 => (bn (fun t6 => (cb (bn (fun t7 => (bn (fun t8 => (cd (i4 _ _ _ _ _ _) rfl))))) (bn (fun t9 => (cd (i4 _ _ _ _ _ _) rfl)))))))) (bn (fun t10 => (cb (bn (fun t11 => (bn (fun t12 => (cb (bn (fun t13 => (bn (fun t14 => (cd (i4 _ _ _ _ _ _) rfl))))) (bn (fun t15 => (cd (i4 _ _ _ _ _ _) rfl)))))))) (bn (fun t16 => (cb (bn (fun t17 => (bn (fun t18 => (cd (i4 _ _ _ _ _ _) rfl))))) (bn (fun t19 => (cd (i4 _ _ _ _ _ _) rfl)))))))))))))))) rfl)))
set_option maxRecDepth 100000 in
theorem spec_l08Steps.oke (k : Nat) (a1_0 : List S83) (a0_0 : List Int) (a0_1 : Int) (a0_2 : Int) : goF Try.f69 spec_l08Steps.ctx spec_l08Steps.sp 1 spec_l08Steps.en (k + 1) [.code (body Try.f69)] (startSt [.pt 0 0 0, .ag [.row 0 .t83 a1_0]] [.box [.row 1 .t5 a0_0, .sc (.int .i64 a0_1), .sc (.int .i64 a0_2)]]) = (spec_l08Steps.f k a1_0 a0_0 a0_1 a0_2).map spec_l08Steps.e := by
  have i4 := spec_l08Steps.ok k
  rw [spec_l08Steps.f]; exact (spec_l08Steps.te _ k a1_0 a0_0 a0_1 a0_2).trans (i4 _ _ _ _ _ _)
theorem spec_l08Steps.con (k : Nat) (a1_0 : List S83) (a0_0 : List Int) (a0_1 : Int) (a0_2 : Int) (r) (h : spec_l08Steps.f k a1_0 a0_0 a0_1 a0_2 = some r) : Contract Try.prog kit 69 [.pt 0 0 0, .ag [.row 0 .t83 a1_0]] [.box [.row 1 .t5 a0_0, .sc (.int .i64 a0_1), .sc (.int .i64 a0_2)]] (spec_l08Steps.e r).1 (spec_l08Steps.e r).2.1 (spec_l08Steps.e r).2.2 :=
  con_okG kitOk mix (fun k => (CtxOk.cons (spec_DoStep.xok k) (CtxOk.cons (spec_l01Below.xok k) (CtxOk.cons (spec_l01Once.xok k) (CtxOk.cons (spec_l01Text.xok k) (CtxOk.cons (spec_PlaceOf.xok k) CtxOk.nil)))))) (spec_l08Steps.oke k a1_0 a0_0 a0_1 a0_2) h (by kernel_rfl) (by kernel_rfl) (by kernel_rfl) rfl (by kernel_rfl) rfl rfl
noncomputable def spec_l08Steps.x (k : Nat) : X := fun ins bs κ => match ins, bs with
  | [.pt 0 0 0, .ag [.row 0 .t83 a1_0]], [.box [.row 1 .t5 a0_0, .sc (.int .i64 a0_1), .sc (.int .i64 a0_2)]] => (spec_l08Steps.f k a1_0 a0_0 a0_1 a0_2).bind fun r => κ (spec_l08Steps.e r).1 (spec_l08Steps.e r).2.1 (spec_l08Steps.e r).2.2
  | _, _ => none
theorem spec_l08Steps.xok (k : Nat) : XOk 69 (spec_l08Steps.x k) := by
  intro ins bs κ res h
  unfold spec_l08Steps.x at h
  split at h
  · obtain ⟨r, hr, h⟩ := Option.bind_eq_some_iff.1 h
    exact ⟨_, _, _, spec_l08Steps.con k _ _ _ _ r hr, h⟩
  · cases h

/-! ### spec_DrawDoSteps: function 33 -/
noncomputable def spec_DrawDoSteps.sp : Nat → Option (Spec Ty) := fun r => none
noncomputable def spec_DrawDoSteps.en : Option (Spec Ty) := some ⟨[(2, .box [.own .t83]), (3, .own .t56)], []⟩
noncomputable def spec_DrawDoSteps.ctx (k : Nat) : Ctx Ty D := (cons 67 (spec_l01New.x k) (cons 68 (spec_l05Any.x k) (cons 69 (spec_l08Steps.x k) (fun _ _ _ _ => none))))
noncomputable def spec_DrawDoSteps.f (k : Nat) (a0 : List Int) : Option ((List S83) × (List S56)) := ((spec_l01New.f k a0).bind fun t1 => ((spec_l05Any.f k t1.1 t1.2.1 t1.2.2).bind fun t2 => ((spec_l08Steps.f k t2.1 t2.2.1 t2.2.2.1 t2.2.2.2).bind fun t3 => (some (t2.1, t3.1)))))
noncomputable def spec_DrawDoSteps.e (r : (List S83) × (List S56)) : Res Ty D := (.tu [.ag [.sl 0 none], .sl 1 none], [], [.rowb .t83 r.1 0, .rowb .t56 r.2 0])
noncomputable abbrev spec_DrawDoSteps.g (rec : List Item → St Ty D → R) (k : Nat) := go1 Try.f33 (spec_DrawDoSteps.ctx k) spec_DrawDoSteps.sp 0 spec_DrawDoSteps.en rec
set_option maxRecDepth 100000 in
theorem spec_DrawDoSteps.te (rec : List Item → St Ty D → R) (k : Nat) (a0 : List Int) : spec_DrawDoSteps.g rec k [.code (body Try.f33)] (startSt [.row 0 .t5 a0] []) =
  (spec_l01New.f k a0).bind fun t1 => (spec_l05Any.f k t1.1 t1.2.1 t1.2.2).bind fun t2 => (spec_l08Steps.f k t2.1 t2.2.1 t2.2.2.1 t2.2.2.2).bind fun t3 => some (spec_DrawDoSteps.e (t2.1, t3.1)) := by kernel_rfl
set_option maxRecDepth 100000 in
theorem spec_DrawDoSteps.oke (k : Nat) (a0 : List Int) : goF Try.f33 spec_DrawDoSteps.ctx spec_DrawDoSteps.sp 0 spec_DrawDoSteps.en (k + 1) [.code (body Try.f33)] (startSt [.row 0 .t5 a0] []) = (spec_DrawDoSteps.f k a0).map spec_DrawDoSteps.e := by
  rw [spec_DrawDoSteps.f]; exact (spec_DrawDoSteps.te _ k a0).trans (bn (fun t1 => (bn (fun t2 => (bn (fun t3 => rfl))))))
theorem spec_DrawDoSteps.con (k : Nat) (a0 : List Int) (r) (h : spec_DrawDoSteps.f k a0 = some r) : Contract Try.prog kit 33 [.row 0 .t5 a0] [] (spec_DrawDoSteps.e r).1 (spec_DrawDoSteps.e r).2.1 (spec_DrawDoSteps.e r).2.2 :=
  con_okG kitOk mix (fun k => (CtxOk.cons (spec_l01New.xok k) (CtxOk.cons (spec_l05Any.xok k) (CtxOk.cons (spec_l08Steps.xok k) CtxOk.nil)))) (spec_DrawDoSteps.oke k a0) h (by kernel_rfl) (by kernel_rfl) (by kernel_rfl) rfl (by kernel_rfl) rfl rfl
noncomputable def spec_DrawDoSteps.x (k : Nat) : X := fun ins bs κ => match ins, bs with
  | [.row 0 .t5 a0], [] => (spec_DrawDoSteps.f k a0).bind fun r => κ (spec_DrawDoSteps.e r).1 (spec_DrawDoSteps.e r).2.1 (spec_DrawDoSteps.e r).2.2
  | _, _ => none
theorem spec_DrawDoSteps.xok (k : Nat) : XOk 33 (spec_DrawDoSteps.x k) := by
  intro ins bs κ res h
  unfold spec_DrawDoSteps.x at h
  split at h
  · obtain ⟨r, hr, h⟩ := Option.bind_eq_some_iff.1 h
    exact ⟨_, _, _, spec_DrawDoSteps.con k _ r hr, h⟩
  · cases h

/-! ### impl_copyFlash: function 58 -/
noncomputable def impl_copyFlash.sp : Nat → Option (Spec Ty) := fun r => bif Nat.beq r 3 then some ⟨[(2, .box [.own .t83]), (3, .box [.own .t83]), (7, .keep), (8, .keep), (9, .keep)], []⟩ else none
noncomputable def impl_copyFlash.en : Option (Spec Ty) := some ⟨[(2, .box [.own .t83])], []⟩
noncomputable def impl_copyFlash.s3 (x7 : List S83) (x8 : Int) (x9 : Int) (h65 : List S83) (h67 : List S83) : St Ty D := ⟨(Env.put (Env.put (Env.put (Env.put (Env.put E (some 2) (.pt 64 0 0)) (some 3) (.pt 66 0 0)) (some 7) (.row 0 .t83 x7)) (some 8) (.sc (.int .i64 x8))) (some 9) (.sc (.int .i64 x9))), Heap.put H0 [(65, some (.rowb .t83 h65 0)), (64, some (.box [.sl 65 none])), (67, some (.rowb .t83 h67 0)), (66, some (.box [.sl 67 none]))], 1000⟩
noncomputable def impl_copyFlash.ctx (k : Nat) : Ctx Ty D := (fun _ _ _ _ => none)
noncomputable def impl_copyFlash.c3 : Nat → (List S83) → Int → Int → (List S83) → (List S83) → Option ((List S83))
  | 0, _, _, _, _, _ => none
  | k + 1, x7, x8, x9, h65, h67 => (if x9 < x8 then (if 0 ≤ x9 then (if x9 < (x7.length : Int) then (if ([] : List S101).length + ((rd_T83 x7 x9).f2).length ≤ 5864062014805 then (if h67.length + ([(S83.mk ((rd_T83 x7 x9).f0) ((rd_T83 x7 x9).f1) (([] : List S101) ++ ((rd_T83 x7 x9).f2)))] : List S83).length ≤ 3518437208883 then (impl_copyFlash.c3 k x7 x8 (w64 (x9 + 1)) h65 (h67 ++ ([(S83.mk ((rd_T83 x7 x9).f0) ((rd_T83 x7 x9).f1) (([] : List S101) ++ ((rd_T83 x7 x9).f2)))] : List S83))) else none) else none) else none) else none) else (some (h67)))
noncomputable def impl_copyFlash.f (k : Nat) (a0_0 : List S83) : Option ((List S83)) := (impl_copyFlash.c3 k a0_0 (a0_0.length : Int) 0 ([] : List S83) ([] : List S83))
noncomputable def impl_copyFlash.e (r : (List S83)) : Res Ty D := (.ag [.sl 0 none], [], [.rowb .t83 r 0])
noncomputable abbrev impl_copyFlash.g (rec : List Item → St Ty D → R) (k : Nat) := go1 Try.f58 (impl_copyFlash.ctx k) impl_copyFlash.sp 0 impl_copyFlash.en rec
set_option maxRecDepth 100000 in
theorem impl_copyFlash.t3 (rec : List Item → St Ty D → R) (k : Nat) (x7 : List S83) (x8 : Int) (x9 : Int) (h65 : List S83) (h67 : List S83) : impl_copyFlash.g rec k (td Try.f58 3) (impl_copyFlash.s3 x7 x8 x9 h65 h67) =
  bif decide (x9 < x8) then bif decide (0 ≤ x9) then bif decide (x9 < (x7.length : Int)) then bif decide (([] : List S101).length + ((rd_T83 x7 x9).f2).length ≤ 5864062014805) then bif decide (h67.length + ([(S83.mk ((rd_T83 x7 x9).f0) ((rd_T83 x7 x9).f1) (([] : List S101) ++ ((rd_T83 x7 x9).f2)))] : List S83).length ≤ 3518437208883) then rec (td Try.f58 3) (impl_copyFlash.s3 x7 x8 (w64 (x9 + 1)) h65 (h67 ++ ([(S83.mk ((rd_T83 x7 x9).f0) ((rd_T83 x7 x9).f1) (([] : List S101) ++ ((rd_T83 x7 x9).f2)))] : List S83))) else none else none else none else none else some (impl_copyFlash.e (h67)) := by kernel_rfl
set_option maxRecDepth 100000 in
theorem impl_copyFlash.te (rec : List Item → St Ty D → R) (k : Nat) (a0_0 : List S83) : impl_copyFlash.g rec k [.code (body Try.f58)] (startSt [.ag [.row 0 .t83 a0_0]] []) =
  rec (td Try.f58 3) (impl_copyFlash.s3 a0_0 (a0_0.length : Int) 0 ([] : List S83) ([] : List S83)) := by kernel_rfl
set_option maxRecDepth 100000 in
theorem impl_copyFlash.ok : ∀ k : Nat, (∀ (x7 : List S83) (x8 : Int) (x9 : Int) (h65 : List S83) (h67 : List S83), goF Try.f58 impl_copyFlash.ctx impl_copyFlash.sp 0 impl_copyFlash.en k (td Try.f58 3) (impl_copyFlash.s3 x7 x8 x9 h65 h67) = (impl_copyFlash.c3 k x7 x8 x9 h65 h67).map impl_copyFlash.e)
  | 0 => fun _ _ _ _ _ => rfl
  | k + 1 => by
    have ih := impl_copyFlash.ok k
    have i3 := ih
    intro x7 x8 x9 h65 h67; rw [impl_copyFlash.c3]; exact (impl_copyFlash.t3 _ k x7 x8 x9 h65 h67).trans (cd (cd (cd (cd (cd (i3 _ _ _ _ _) rfl) rfl) rfl) rfl) rfl)
set_option maxRecDepth 100000 in
theorem impl_copyFlash.oke (k : Nat) (a0_0 : List S83) : goF Try.f58 impl_copyFlash.ctx impl_copyFlash.sp 0 impl_copyFlash.en (k + 1) [.code (body Try.f58)] (startSt [.ag [.row 0 .t83 a0_0]] []) = (impl_copyFlash.f k a0_0).map impl_copyFlash.e := by
  have i3 := impl_copyFlash.ok k
  rw [impl_copyFlash.f]; exact (impl_copyFlash.te _ k a0_0).trans (i3 _ _ _ _ _)
theorem impl_copyFlash.con (k : Nat) (a0_0 : List S83) (r) (h : impl_copyFlash.f k a0_0 = some r) : Contract Try.prog kit 58 [.ag [.row 0 .t83 a0_0]] [] (impl_copyFlash.e r).1 (impl_copyFlash.e r).2.1 (impl_copyFlash.e r).2.2 :=
  con_okG kitOk mix (fun k => CtxOk.nil) (impl_copyFlash.oke k a0_0) h (by kernel_rfl) (by kernel_rfl) (by kernel_rfl) rfl (by kernel_rfl) rfl rfl
noncomputable def impl_copyFlash.x (k : Nat) : X := fun ins bs κ => match ins, bs with
  | [.ag [.row 0 .t83 a0_0]], [] => (impl_copyFlash.f k a0_0).bind fun r => κ (impl_copyFlash.e r).1 (impl_copyFlash.e r).2.1 (impl_copyFlash.e r).2.2
  | _, _ => none
theorem impl_copyFlash.xok (k : Nat) : XOk 58 (impl_copyFlash.x k) := by
  intro ins bs κ res h
  unfold impl_copyFlash.x at h
  split at h
  · obtain ⟨r, hr, h⟩ := Option.bind_eq_some_iff.1 h
    exact ⟨_, _, _, impl_copyFlash.con k _ r hr, h⟩
  · cases h
end Go.Proofs.Ytklkhnomnanpoaa.M2

/- Plain runs of functions: each is a plain Lean function, and keeps its contract. Written by a program of this session. -/
namespace Go.Proofs.Ytklkhnomnanpoaa.M2
open Go Go.Proofs.Ytklkhnomnanpoaa.PK
set_option linter.unusedVariables false
set_option linter.unusedSimpArgs false
set_option maxHeartbeats 4000000
/-! ### impl_in: function 64 -/
noncomputable def impl_in.sp : Nat → Option (Spec Ty) := fun r => none
noncomputable def impl_in.en : Option (Spec Ty) := none
noncomputable def impl_in.ctx (k : Nat) : Ctx Ty D := (fun _ _ _ _ => none)
noncomputable def impl_in.f (k : Nat) (a0 : Int) (a1 : Int) (a2 : Int) : Option (Bool) := (if a0 ≥ a1 then (some ((decide (a0 ≤ a2)))) else (some (false)))
noncomputable def impl_in.e (r : Bool) : Res Ty D := (.sc (.bool r), [], [])
noncomputable abbrev impl_in.g (rec : List Item → St Ty D → R) (k : Nat) := go1 Try.f64 (impl_in.ctx k) impl_in.sp 0 impl_in.en rec
set_option maxRecDepth 100000 in
theorem impl_in.te (rec : List Item → St Ty D → R) (k : Nat) (a0 : Int) (a1 : Int) (a2 : Int) : impl_in.g rec k [.code (body Try.f64)] (startSt [.sc (.int .i64 a0), .sc (.int .i64 a1), .sc (.int .i64 a2)] []) =
  bif decide (a0 ≥ a1) then some (impl_in.e ((decide (a0 ≤ a2)))) else some (impl_in.e (false)) := by kernel_rfl
set_option maxRecDepth 100000 in
theorem impl_in.oke (k : Nat) (a0 : Int) (a1 : Int) (a2 : Int) : goF Try.f64 impl_in.ctx impl_in.sp 0 impl_in.en (k + 1) [.code (body Try.f64)] (startSt [.sc (.int .i64 a0), .sc (.int .i64 a1), .sc (.int .i64 a2)] []) = (impl_in.f k a0 a1 a2).map impl_in.e := by
  rw [impl_in.f]; exact (impl_in.te _ k a0 a1 a2).trans (cd rfl rfl)
theorem impl_in.con (k : Nat) (a0 : Int) (a1 : Int) (a2 : Int) (r) (h : impl_in.f k a0 a1 a2 = some r) : Contract Try.prog kit 64 [.sc (.int .i64 a0), .sc (.int .i64 a1), .sc (.int .i64 a2)] [] (impl_in.e r).1 (impl_in.e r).2.1 (impl_in.e r).2.2 :=
  con_okG kitOk mix (fun k => CtxOk.nil) (impl_in.oke k a0 a1 a2) h (by kernel_rfl) (by kernel_rfl) (by kernel_rfl) rfl (by kernel_rfl) rfl rfl
noncomputable def impl_in.x (k : Nat) : X := fun ins bs κ => match ins, bs with
  | [.sc (.int .i64 a0), .sc (.int .i64 a1), .sc (.int .i64 a2)], [] => (impl_in.f k a0 a1 a2).bind fun r => κ (impl_in.e r).1 (impl_in.e r).2.1 (impl_in.e r).2.2
  | _, _ => none
theorem impl_in.xok (k : Nat) : XOk 64 (impl_in.x k) := by
  intro ins bs κ res h
  unfold impl_in.x at h
  split at h
  · obtain ⟨r, hr, h⟩ := Option.bind_eq_some_iff.1 h
    exact ⟨_, _, _, impl_in.con k _ _ _ r hr, h⟩
  · cases h

/-! ### impl_leafOk: function 117 -/
noncomputable def impl_leafOk.sp : Nat → Option (Spec Ty) := fun r => none
noncomputable def impl_leafOk.en : Option (Spec Ty) := none
noncomputable def impl_leafOk.ctx (k : Nat) : Ctx Ty D := (cons 64 (impl_in.x k) (fun _ _ _ _ => none))
noncomputable def impl_leafOk.f (k : Nat) (a0_0 : Int) (a0_1 : ByteArray) : Option (Bool) := (if a0_0 = 0 then (some ((seq a0_1 (⟨#[]⟩ : ByteArray)))) else (if a0_0 = 1 then ((impl_in.f k (a0_1.size : Int) 1 120).bind fun t1 => (some (t1))) else (if a0_0 = 2 then (some ((decide ((a0_1.size : Int) ≤ 120)))) else (some (false)))))
noncomputable def impl_leafOk.e (r : Bool) : Res Ty D := (.sc (.bool r), [], [])
noncomputable abbrev impl_leafOk.g (rec : List Item → St Ty D → R) (k : Nat) := go1 Try.f117 (impl_leafOk.ctx k) impl_leafOk.sp 0 impl_leafOk.en rec
set_option maxRecDepth 100000 in
theorem impl_leafOk.te (rec : List Item → St Ty D → R) (k : Nat) (a0_0 : Int) (a0_1 : ByteArray) : impl_leafOk.g rec k [.code (body Try.f117)] (startSt [.ag [.sc (.int .i64 a0_0), .sc (.string a0_1)]] []) =
  bif decide (a0_0 = 0) then some (impl_leafOk.e ((seq a0_1 (⟨#[]⟩ : ByteArray)))) else bif decide (a0_0 = 1) then (impl_in.f k (a0_1.size : Int) 1 120).bind fun t1 => some (impl_leafOk.e (t1)) else bif decide (a0_0 = 2) then some (impl_leafOk.e ((decide ((a0_1.size : Int) ≤ 120)))) else some (impl_leafOk.e (false)) := by kernel_rfl
set_option maxRecDepth 100000 in
theorem impl_leafOk.oke (k : Nat) (a0_0 : Int) (a0_1 : ByteArray) : goF Try.f117 impl_leafOk.ctx impl_leafOk.sp 0 impl_leafOk.en (k + 1) [.code (body Try.f117)] (startSt [.ag [.sc (.int .i64 a0_0), .sc (.string a0_1)]] []) = (impl_leafOk.f k a0_0 a0_1).map impl_leafOk.e := by
  rw [impl_leafOk.f]; exact (impl_leafOk.te _ k a0_0 a0_1).trans (cd rfl (cd (bn (fun t1 => rfl)) (cd rfl rfl)))
theorem impl_leafOk.con (k : Nat) (a0_0 : Int) (a0_1 : ByteArray) (r) (h : impl_leafOk.f k a0_0 a0_1 = some r) : Contract Try.prog kit 117 [.ag [.sc (.int .i64 a0_0), .sc (.string a0_1)]] [] (impl_leafOk.e r).1 (impl_leafOk.e r).2.1 (impl_leafOk.e r).2.2 :=
  con_okG kitOk mix (fun k => (CtxOk.cons (impl_in.xok k) CtxOk.nil)) (impl_leafOk.oke k a0_0 a0_1) h (by kernel_rfl) (by kernel_rfl) (by kernel_rfl) rfl (by kernel_rfl) rfl rfl
noncomputable def impl_leafOk.x (k : Nat) : X := fun ins bs κ => match ins, bs with
  | [.ag [.sc (.int .i64 a0_0), .sc (.string a0_1)]], [] => (impl_leafOk.f k a0_0 a0_1).bind fun r => κ (impl_leafOk.e r).1 (impl_leafOk.e r).2.1 (impl_leafOk.e r).2.2
  | _, _ => none
theorem impl_leafOk.xok (k : Nat) : XOk 117 (impl_leafOk.x k) := by
  intro ins bs κ res h
  unfold impl_leafOk.x at h
  split at h
  · obtain ⟨r, hr, h⟩ := Option.bind_eq_some_iff.1 h
    exact ⟨_, _, _, impl_leafOk.con k _ _ r hr, h⟩
  · cases h

/-! ### impl_FlashOk: function 97 -/
noncomputable def impl_FlashOk.sp : Nat → Option (Spec Ty) := fun r => bif Nat.beq r 2 then some ⟨[(1, .box [.keep]), (8, .keep), (9, .keep), (10, .keep)], []⟩ else bif Nat.beq r 7 then some ⟨[(1, .box [.keep]), (4, .box [.keep, .keep, .keep]), (8, .keep), (9, .keep), (10, .keep), (19, .box [.keep, .keep, .keep]), (20, .keep), (21, .keep), (22, .keep), (25, .keep), (26, .keep), (27, .keep)], []⟩ else none
noncomputable def impl_FlashOk.en : Option (Spec Ty) := none
noncomputable def impl_FlashOk.s2 (x8 : List S83) (x9 : Int) (x10 : Int) (h64_0 : List S83) : St Ty D := ⟨(Env.put (Env.put (Env.put (Env.put E (some 1) (.pt 64 0 0)) (some 8) (.row 0 .t83 x8)) (some 9) (.sc (.int .i64 x9))) (some 10) (.sc (.int .i64 x10))), Heap.put H0 [(64, some (.box [.row 0 .t83 h64_0]))], 1000⟩
noncomputable def impl_FlashOk.s7 (x8 : List S83) (x9 : Int) (x10 : Int) (x20 : Int) (x21 : Bool) (x22 : Bool) (x25 : List S101) (x26 : Int) (x27 : Int) (h64_0 : List S83) (h65_0 : Bool) (h65_1 : Int) (h65_2 : List S101) : St Ty D := ⟨(Env.put (Env.put (Env.put (Env.put (Env.put (Env.put (Env.put (Env.put (Env.put (Env.put (Env.put (Env.put E (some 1) (.pt 64 0 0)) (some 4) (.pt 65 0 0)) (some 8) (.row 0 .t83 x8)) (some 9) (.sc (.int .i64 x9))) (some 10) (.sc (.int .i64 x10))) (some 19) (.pt 65 0 1)) (some 20) (.sc (.int .i64 x20))) (some 21) (.sc (.bool x21))) (some 22) (.sc (.bool x22))) (some 25) (.row 0 .t101 x25)) (some 26) (.sc (.int .i64 x26))) (some 27) (.sc (.int .i64 x27))), Heap.put H0 [(64, some (.box [.row 0 .t83 h64_0])), (65, some (.box [.sc (.bool h65_0), .sc (.int .i64 h65_1), .row 0 .t101 h65_2]))], 1000⟩
noncomputable def impl_FlashOk.ctx (k : Nat) : Ctx Ty D := (cons 64 (impl_in.x k) (cons 117 (impl_leafOk.x k) (fun _ _ _ _ => none)))
mutual
noncomputable def impl_FlashOk.c2 : Nat → (List S83) → Int → Int → (List S83) → Option (Bool)
  | 0, _, _, _, _ => none
  | k + 1, x8, x9, x10, h64_0 => (if x10 < x9 then (if 0 ≤ x10 then (if x10 < (x8.length : Int) then (if (((rd_T83 x8 x10).f2).length : Int) = 4 then ((impl_in.f k ((rd_T83 x8 x10).f1) 0 1000000000).bind fun t1 => (if t1 = true then (impl_FlashOk.c7 k x8 x9 x10 ((rd_T83 x8 x10).f1) t1 (!t1) ((rd_T83 x8 x10).f2) (((rd_T83 x8 x10).f2).length : Int) 0 h64_0 ((rd_T83 x8 x10).f0) ((rd_T83 x8 x10).f1) ((rd_T83 x8 x10).f2)) else (some (false)))) else (some (false))) else none) else none) else ((impl_in.f k (h64_0.length : Int) 3 10).bind fun t2 => (some (t2))))
noncomputable def impl_FlashOk.c7 : Nat → (List S83) → Int → Int → Int → Bool → Bool → (List S101) → Int → Int → (List S83) → Bool → Int → (List S101) → Option (Bool)
  | 0, _, _, _, _, _, _, _, _, _, _, _, _, _ => none
  | k + 1, x8, x9, x10, x20, x21, x22, x25, x26, x27, h64_0, h65_0, h65_1, h65_2 => (if x27 < x26 then (if 0 ≤ x27 then (if x27 < (x25.length : Int) then ((impl_leafOk.f k ((rd_T101 x25 x27).f0) ((rd_T101 x25 x27).f1)).bind fun t3 => (if t3 = true then (if x27 > 0 then (if 0 ≤ (w64 (x27 - 1)) then (if (w64 (x27 - 1)) < (h65_2.length : Int) then (if ((rd_T101 h65_2 (w64 (x27 - 1))).f0) = 0 then (if ((rd_T101 x25 x27).f0) = 0 then (impl_FlashOk.c7 k x8 x9 x10 x20 x21 x22 x25 x26 (w64 (x27 + 1)) h64_0 h65_0 h65_1 h65_2) else (some (false))) else (impl_FlashOk.c7 k x8 x9 x10 x20 x21 x22 x25 x26 (w64 (x27 + 1)) h64_0 h65_0 h65_1 h65_2)) else none) else none) else (impl_FlashOk.c7 k x8 x9 x10 x20 x21 x22 x25 x26 (w64 (x27 + 1)) h64_0 h65_0 h65_1 h65_2)) else (some (false)))) else none) else none) else (impl_FlashOk.c2 k x8 x9 (w64 (x10 + 1)) h64_0))
end
noncomputable def impl_FlashOk.f (k : Nat) (a0_0 : List S83) : Option (Bool) := (impl_FlashOk.c2 k a0_0 (a0_0.length : Int) 0 a0_0)
noncomputable def impl_FlashOk.e (r : Bool) : Res Ty D := (.sc (.bool r), [], [])
noncomputable abbrev impl_FlashOk.g (rec : List Item → St Ty D → R) (k : Nat) := go1 Try.f97 (impl_FlashOk.ctx k) impl_FlashOk.sp 0 impl_FlashOk.en rec
set_option maxRecDepth 100000 in
theorem impl_FlashOk.t2 (rec : List Item → St Ty D → R) (k : Nat) (x8 : List S83) (x9 : Int) (x10 : Int) (h64_0 : List S83) : impl_FlashOk.g rec k (td Try.f97 2) (impl_FlashOk.s2 x8 x9 x10 h64_0) =
  bif decide (x10 < x9) then bif decide (0 ≤ x10) then bif decide (x10 < (x8.length : Int)) then bif !decide ((((rd_T83 x8 x10).f2).length : Int) = 4) then some (impl_FlashOk.e (false)) else (impl_in.f k ((rd_T83 x8 x10).f1) 0 1000000000).bind fun t1 => bif !t1 then some (impl_FlashOk.e (false)) else rec (td Try.f97 7) (impl_FlashOk.s7 x8 x9 x10 ((rd_T83 x8 x10).f1) t1 (!t1) ((rd_T83 x8 x10).f2) (((rd_T83 x8 x10).f2).length : Int) 0 h64_0 ((rd_T83 x8 x10).f0) ((rd_T83 x8 x10).f1) ((rd_T83 x8 x10).f2)) else none else none else (impl_in.f k (h64_0.length : Int) 3 10).bind fun t2 => some (impl_FlashOk.e (t2)) := by kernel_rfl
set_option maxRecDepth 100000 in
theorem impl_FlashOk.t7 (rec : List Item → St Ty D → R) (k : Nat) (x8 : List S83) (x9 : Int) (x10 : Int) (x20 : Int) (x21 : Bool) (x22 : Bool) (x25 : List S101) (x26 : Int) (x27 : Int) (h64_0 : List S83) (h65_0 : Bool) (h65_1 : Int) (h65_2 : List S101) : impl_FlashOk.g rec k (td Try.f97 7) (impl_FlashOk.s7 x8 x9 x10 x20 x21 x22 x25 x26 x27 h64_0 h65_0 h65_1 h65_2) =
  bif decide (x27 < x26) then bif decide (0 ≤ x27) then bif decide (x27 < (x25.length : Int)) then (impl_leafOk.f k ((rd_T101 x25 x27).f0) ((rd_T101 x25 x27).f1)).bind fun t3 => bif !t3 then some (impl_FlashOk.e (false)) else bif decide (x27 > 0) then bif decide (0 ≤ (w64 (x27 - 1))) then bif decide ((w64 (x27 - 1)) < (h65_2.length : Int)) then bif decide (((rd_T101 h65_2 (w64 (x27 - 1))).f0) = 0) then bif !decide (((rd_T101 x25 x27).f0) = 0) then some (impl_FlashOk.e (false)) else rec (td Try.f97 7) (impl_FlashOk.s7 x8 x9 x10 x20 x21 x22 x25 x26 (w64 (x27 + 1)) h64_0 h65_0 h65_1 h65_2) else rec (td Try.f97 7) (impl_FlashOk.s7 x8 x9 x10 x20 x21 x22 x25 x26 (w64 (x27 + 1)) h64_0 h65_0 h65_1 h65_2) else none else none else rec (td Try.f97 7) (impl_FlashOk.s7 x8 x9 x10 x20 x21 x22 x25 x26 (w64 (x27 + 1)) h64_0 h65_0 h65_1 h65_2) else none else none else rec (td Try.f97 2) (impl_FlashOk.s2 x8 x9 (w64 (x10 + 1)) h64_0) := by kernel_rfl
set_option maxRecDepth 100000 in
theorem impl_FlashOk.te (rec : List Item → St Ty D → R) (k : Nat) (a0_0 : List S83) : impl_FlashOk.g rec k [.code (body Try.f97)] (startSt [.ag [.row 0 .t83 a0_0]] []) =
  rec (td Try.f97 2) (impl_FlashOk.s2 a0_0 (a0_0.length : Int) 0 a0_0) := by kernel_rfl
set_option maxRecDepth 100000 in
theorem impl_FlashOk.ok : ∀ k : Nat, (∀ (x8 : List S83) (x9 : Int) (x10 : Int) (h64_0 : List S83), goF Try.f97 impl_FlashOk.ctx impl_FlashOk.sp 0 impl_FlashOk.en k (td Try.f97 2) (impl_FlashOk.s2 x8 x9 x10 h64_0) = (impl_FlashOk.c2 k x8 x9 x10 h64_0).map impl_FlashOk.e) ∧ (∀ (x8 : List S83) (x9 : Int) (x10 : Int) (x20 : Int) (x21 : Bool) (x22 : Bool) (x25 : List S101) (x26 : Int) (x27 : Int) (h64_0 : List S83) (h65_0 : Bool) (h65_1 : Int) (h65_2 : List S101), goF Try.f97 impl_FlashOk.ctx impl_FlashOk.sp 0 impl_FlashOk.en k (td Try.f97 7) (impl_FlashOk.s7 x8 x9 x10 x20 x21 x22 x25 x26 x27 h64_0 h65_0 h65_1 h65_2) = (impl_FlashOk.c7 k x8 x9 x10 x20 x21 x22 x25 x26 x27 h64_0 h65_0 h65_1 h65_2).map impl_FlashOk.e)
  | 0 => ⟨fun _ _ _ _ => rfl, fun _ _ _ _ _ _ _ _ _ _ _ _ _ => rfl⟩
  | k + 1 => by
    have ih := impl_FlashOk.ok k
    obtain ⟨i2, i7⟩ := ih
    refine ⟨?_, ?_⟩
    · intro x8 x9 x10 h64_0; rw [impl_FlashOk.c2]; exact (impl_FlashOk.t2 _ k x8 x9 x10 h64_0).trans (cd (cd (cd (nd rfl (bn (fun t1 => (nb rfl (i7 _ _ _ _ _ _ _ _ _ _ _ _ _))))) rfl) rfl) (bn (fun t2 => rfl)))
    · intro x8 x9 x10 x20 x21 x22 x25 x26 x27 h64_0 h65_0 h65_1 h65_2; rw [impl_FlashOk.c7]; exact (impl_FlashOk.t7 _ k x8 x9 x10 x20 x21 x22 x25 x26 x27 h64_0 h65_0 h65_1 h65_2).trans (cd (cd (cd (bn (fun t3 => (nb rfl (cd (cd (cd (cd (nd rfl (i7 _ _ _ _ _ _ _ _ _ _ _ _ _)) (i7 _ _ _ _ _ _ _ _ _ _ _ _ _)) rfl) rfl) (i7 _ _ _ _ _ _ _ _ _ _ _ _ _))))) rfl) rfl) (i2 _ _ _ _))
set_option maxRecDepth 100000 in
theorem impl_FlashOk.oke (k : Nat) (a0_0 : List S83) : goF Try.f97 impl_FlashOk.ctx impl_FlashOk.sp 0 impl_FlashOk.en (k + 1) [.code (body Try.f97)] (startSt [.ag [.row 0 .t83 a0_0]] []) = (impl_FlashOk.f k a0_0).map impl_FlashOk.e := by
  obtain ⟨i2, i7⟩ := impl_FlashOk.ok k
  rw [impl_FlashOk.f]; exact (impl_FlashOk.te _ k a0_0).trans (i2 _ _ _ _)
theorem impl_FlashOk.con (k : Nat) (a0_0 : List S83) (r) (h : impl_FlashOk.f k a0_0 = some r) : Contract Try.prog kit 97 [.ag [.row 0 .t83 a0_0]] [] (impl_FlashOk.e r).1 (impl_FlashOk.e r).2.1 (impl_FlashOk.e r).2.2 :=
  con_okG kitOk mix (fun k => (CtxOk.cons (impl_in.xok k) (CtxOk.cons (impl_leafOk.xok k) CtxOk.nil))) (impl_FlashOk.oke k a0_0) h (by kernel_rfl) (by kernel_rfl) (by kernel_rfl) rfl (by kernel_rfl) rfl rfl
noncomputable def impl_FlashOk.x (k : Nat) : X := fun ins bs κ => match ins, bs with
  | [.ag [.row 0 .t83 a0_0]], [] => (impl_FlashOk.f k a0_0).bind fun r => κ (impl_FlashOk.e r).1 (impl_FlashOk.e r).2.1 (impl_FlashOk.e r).2.2
  | _, _ => none
theorem impl_FlashOk.xok (k : Nat) : XOk 97 (impl_FlashOk.x k) := by
  intro ins bs κ res h
  unfold impl_FlashOk.x at h
  split at h
  · obtain ⟨r, hr, h⟩ := Option.bind_eq_some_iff.1 h
    exact ⟨_, _, _, impl_FlashOk.con k _ r hr, h⟩
  · cases h

/-! ### impl_usable: function 74 -/
noncomputable def impl_usable.sp : Nat → Option (Spec Ty) := fun r => none
noncomputable def impl_usable.en : Option (Spec Ty) := none
noncomputable def impl_usable.ctx (k : Nat) : Ctx Ty D := (cons 64 (impl_in.x k) (cons 97 (impl_FlashOk.x k) (fun _ _ _ _ => none)))
noncomputable def impl_usable.f (k : Nat) (a0_0 : List S83) (a1 : Int) : Option (Bool) := ((impl_FlashOk.f k a0_0).bind fun t1 => (if t1 = true then ((impl_in.f k a1 0 (w64 ((a0_0.length : Int) - 1))).bind fun t2 => (if t2 = true then (if 0 ≤ a1 then (if a1 < (a0_0.length : Int) then (some ((!((rd_T83 a0_0 a1).f0)))) else none) else none) else (some (false)))) else (some (false))))
noncomputable def impl_usable.e (r : Bool) : Res Ty D := (.sc (.bool r), [], [])
noncomputable abbrev impl_usable.g (rec : List Item → St Ty D → R) (k : Nat) := go1 Try.f74 (impl_usable.ctx k) impl_usable.sp 0 impl_usable.en rec
set_option maxRecDepth 100000 in
theorem impl_usable.te (rec : List Item → St Ty D → R) (k : Nat) (a0_0 : List S83) (a1 : Int) : impl_usable.g rec k [.code (body Try.f74)] (startSt [.ag [.row 0 .t83 a0_0], .sc (.int .i64 a1)] []) =
  (impl_FlashOk.f k a0_0).bind fun t1 => bif t1 then (impl_in.f k a1 0 (w64 ((a0_0.length : Int) - 1))).bind fun t2 => bif t2 then bif decide (0 ≤ a1) then bif decide (a1 < (a0_0.length : Int)) then some (impl_usable.e ((!((rd_T83 a0_0 a1).f0)))) else none else none else some (impl_usable.e (false)) else some (impl_usable.e (false)) := by kernel_rfl
set_option maxRecDepth 100000 in
theorem impl_usable.oke (k : Nat) (a0_0 : List S83) (a1 : Int) : goF Try.f74 impl_usable.ctx impl_usable.sp 0 impl_usable.en (k + 1) [.code (body Try.f74)] (startSt [.ag [.row 0 .t83 a0_0], .sc (.int .i64 a1)] []) = (impl_usable.f k a0_0 a1).map impl_usable.e := by
  rw [impl_usable.f]; exact (impl_usable.te _ k a0_0 a1).trans (bn (fun t1 => (cb (bn (fun t2 => (cb (cd (cd rfl rfl) rfl) rfl))) rfl)))
theorem impl_usable.con (k : Nat) (a0_0 : List S83) (a1 : Int) (r) (h : impl_usable.f k a0_0 a1 = some r) : Contract Try.prog kit 74 [.ag [.row 0 .t83 a0_0], .sc (.int .i64 a1)] [] (impl_usable.e r).1 (impl_usable.e r).2.1 (impl_usable.e r).2.2 :=
  con_okG kitOk mix (fun k => (CtxOk.cons (impl_in.xok k) (CtxOk.cons (impl_FlashOk.xok k) CtxOk.nil))) (impl_usable.oke k a0_0 a1) h (by kernel_rfl) (by kernel_rfl) (by kernel_rfl) rfl (by kernel_rfl) rfl rfl
noncomputable def impl_usable.x (k : Nat) : X := fun ins bs κ => match ins, bs with
  | [.ag [.row 0 .t83 a0_0], .sc (.int .i64 a1)], [] => (impl_usable.f k a0_0 a1).bind fun r => κ (impl_usable.e r).1 (impl_usable.e r).2.1 (impl_usable.e r).2.2
  | _, _ => none
theorem impl_usable.xok (k : Nat) : XOk 74 (impl_usable.x k) := by
  intro ins bs κ res h
  unfold impl_usable.x at h
  split at h
  · obtain ⟨r, hr, h⟩ := Option.bind_eq_some_iff.1 h
    exact ⟨_, _, _, impl_usable.con k _ _ r hr, h⟩
  · cases h

/-! ### impl_blankLeaves: function 75 -/
noncomputable def impl_blankLeaves.sp : Nat → Option (Spec Ty) := fun r => none
noncomputable def impl_blankLeaves.en : Option (Spec Ty) := some ⟨[(0, .own .t101)], []⟩
noncomputable def impl_blankLeaves.ctx (k : Nat) : Ctx Ty D := (fun _ _ _ _ => none)
noncomputable def impl_blankLeaves.f (k : Nat) : Option ((List S101)) := (some ((List.replicate 4 z101)))
noncomputable def impl_blankLeaves.e (r : (List S101)) : Res Ty D := (.sl 0 none, [], [.rowb .t101 r 0])
noncomputable abbrev impl_blankLeaves.g (rec : List Item → St Ty D → R) (k : Nat) := go1 Try.f75 (impl_blankLeaves.ctx k) impl_blankLeaves.sp 0 impl_blankLeaves.en rec
set_option maxRecDepth 100000 in
theorem impl_blankLeaves.te (rec : List Item → St Ty D → R) (k : Nat) : impl_blankLeaves.g rec k [.code (body Try.f75)] (startSt [] []) =
  some (impl_blankLeaves.e ((List.replicate 4 z101))) := by kernel_rfl
set_option maxRecDepth 100000 in
theorem impl_blankLeaves.oke (k : Nat) : goF Try.f75 impl_blankLeaves.ctx impl_blankLeaves.sp 0 impl_blankLeaves.en (k + 1) [.code (body Try.f75)] (startSt [] []) = (impl_blankLeaves.f k).map impl_blankLeaves.e := by
  rw [impl_blankLeaves.f]; exact (impl_blankLeaves.te _ k).trans rfl
theorem impl_blankLeaves.con (k : Nat) (r) (h : impl_blankLeaves.f k = some r) : Contract Try.prog kit 75 [] [] (impl_blankLeaves.e r).1 (impl_blankLeaves.e r).2.1 (impl_blankLeaves.e r).2.2 :=
  con_okG kitOk mix (fun k => CtxOk.nil) (impl_blankLeaves.oke k) h (by kernel_rfl) (by kernel_rfl) (by kernel_rfl) rfl (by kernel_rfl) rfl rfl
noncomputable def impl_blankLeaves.x (k : Nat) : X := fun ins bs κ => match ins, bs with
  | [], [] => (impl_blankLeaves.f k).bind fun r => κ (impl_blankLeaves.e r).1 (impl_blankLeaves.e r).2.1 (impl_blankLeaves.e r).2.2
  | _, _ => none
theorem impl_blankLeaves.xok (k : Nat) : XOk 75 (impl_blankLeaves.x k) := by
  intro ins bs κ res h
  unfold impl_blankLeaves.x at h
  split at h
  · obtain ⟨r, hr, h⟩ := Option.bind_eq_some_iff.1 h
    exact ⟨_, _, _, impl_blankLeaves.con k r hr, h⟩
  · cases h

/-! ### impl_Wipe: function 41 -/
noncomputable def impl_Wipe.sp : Nat → Option (Spec Ty) := fun r => none
noncomputable def impl_Wipe.en : Option (Spec Ty) := some ⟨[(4, .box [.own .t83]), (5, .keep)], []⟩
noncomputable def impl_Wipe.ctx (k : Nat) : Ctx Ty D := (cons 58 (impl_copyFlash.x k) (cons 74 (impl_usable.x k) (cons 75 (impl_blankLeaves.x k) (fun _ _ _ _ => none))))
noncomputable def impl_Wipe.f (k : Nat) (a0_0 : List S83) (a1 : Int) : Option ((List S83) × Bool) := ((impl_copyFlash.f k a0_0).bind fun t1 => ((impl_usable.f k a0_0 a1).bind fun t2 => (if t2 = true then (if 0 ≤ a1 then (if a1 < (a0_0.length : Int) then (if ((rd_T83 a0_0 a1).f1) = 1000000000 then (some (t1, false)) else ((impl_blankLeaves.f k).bind fun t3 => (if 0 ≤ a1 then (if a1 < (t1.length : Int) then (if 0 ≤ a1 then (if a1 < ((t1.set a1.toNat (S83.mk ((rd_T83 t1 a1).f0) ((rd_T83 t1 a1).f1) t3)).length : Int) then (if 0 ≤ a1 then (if a1 < ((t1.set a1.toNat (S83.mk ((rd_T83 t1 a1).f0) ((rd_T83 t1 a1).f1) t3)).length : Int) then (some (((t1.set a1.toNat (S83.mk ((rd_T83 t1 a1).f0) ((rd_T83 t1 a1).f1) t3)).set a1.toNat (S83.mk ((rd_T83 (t1.set a1.toNat (S83.mk ((rd_T83 t1 a1).f0) ((rd_T83 t1 a1).f1) t3)) a1).f0) (w64 (((rd_T83 (t1.set a1.toNat (S83.mk ((rd_T83 t1 a1).f0) ((rd_T83 t1 a1).f1) t3)) a1).f1) + 1)) ((rd_T83 (t1.set a1.toNat (S83.mk ((rd_T83 t1 a1).f0) ((rd_T83 t1 a1).f1) t3)) a1).f2))), true)) else none) else none) else none) else none) else none) else none))) else none) else none) else (some (t1, false)))))
noncomputable def impl_Wipe.e (r : (List S83) × Bool) : Res Ty D := (.tu [.ag [.sl 0 none], .sc (.bool r.2)], [], [.rowb .t83 r.1 0])
noncomputable abbrev impl_Wipe.g (rec : List Item → St Ty D → R) (k : Nat) := go1 Try.f41 (impl_Wipe.ctx k) impl_Wipe.sp 0 impl_Wipe.en rec
set_option maxRecDepth 100000 in
theorem impl_Wipe.te (rec : List Item → St Ty D → R) (k : Nat) (a0_0 : List S83) (a1 : Int) : impl_Wipe.g rec k [.code (body Try.f41)] (startSt [.ag [.row 0 .t83 a0_0], .sc (.int .i64 a1)] []) =
  (impl_copyFlash.f k a0_0).bind fun t1 => (impl_usable.f k a0_0 a1).bind fun t2 => bif !t2 then some (impl_Wipe.e (t1, false)) else bif decide (0 ≤ a1) then bif decide (a1 < (a0_0.length : Int)) then bif decide (((rd_T83 a0_0 a1).f1) = 1000000000) then some (impl_Wipe.e (t1, false)) else (impl_blankLeaves.f k).bind fun t3 => bif decide (0 ≤ a1) then bif decide (a1 < (t1.length : Int)) then bif decide (0 ≤ a1) then bif decide (a1 < ((t1.set a1.toNat (S83.mk ((rd_T83 t1 a1).f0) ((rd_T83 t1 a1).f1) t3)).length : Int)) then bif decide (0 ≤ a1) then bif decide (a1 < ((t1.set a1.toNat (S83.mk ((rd_T83 t1 a1).f0) ((rd_T83 t1 a1).f1) t3)).length : Int)) then some (impl_Wipe.e (((t1.set a1.toNat (S83.mk ((rd_T83 t1 a1).f0) ((rd_T83 t1 a1).f1) t3)).set a1.toNat (S83.mk ((rd_T83 (t1.set a1.toNat (S83.mk ((rd_T83 t1 a1).f0) ((rd_T83 t1 a1).f1) t3)) a1).f0) (w64 (((rd_T83 (t1.set a1.toNat (S83.mk ((rd_T83 t1 a1).f0) ((rd_T83 t1 a1).f1) t3)) a1).f1) + 1)) ((rd_T83 (t1.set a1.toNat (S83.mk ((rd_T83 t1 a1).f0) ((rd_T83 t1 a1).f1) t3)) a1).f2))), true)) else none else none else none else none else none else none else none else none := by kernel_rfl
set_option maxRecDepth 100000 in
theorem impl_Wipe.oke (k : Nat) (a0_0 : List S83) (a1 : Int) : goF Try.f41 impl_Wipe.ctx impl_Wipe.sp 0 impl_Wipe.en (k + 1) [.code (body Try.f41)] (startSt [.ag [.row 0 .t83 a0_0], .sc (.int .i64 a1)] []) = (impl_Wipe.f k a0_0 a1).map impl_Wipe.e := by
  rw [impl_Wipe.f]; exact (impl_Wipe.te _ k a0_0 a1).trans (bn (fun t1 => (bn (fun t2 => (nb rfl (cd (cd (cd rfl (bn (fun t3 => (cd (cd (cd (cd (cd (cd rfl rfl) rfl) rfl) rfl) rfl) rfl)))) rfl) rfl))))))
theorem impl_Wipe.con (k : Nat) (a0_0 : List S83) (a1 : Int) (r) (h : impl_Wipe.f k a0_0 a1 = some r) : Contract Try.prog kit 41 [.ag [.row 0 .t83 a0_0], .sc (.int .i64 a1)] [] (impl_Wipe.e r).1 (impl_Wipe.e r).2.1 (impl_Wipe.e r).2.2 :=
  con_okG kitOk mix (fun k => (CtxOk.cons (impl_copyFlash.xok k) (CtxOk.cons (impl_usable.xok k) (CtxOk.cons (impl_blankLeaves.xok k) CtxOk.nil)))) (impl_Wipe.oke k a0_0 a1) h (by kernel_rfl) (by kernel_rfl) (by kernel_rfl) rfl (by kernel_rfl) rfl rfl
noncomputable def impl_Wipe.x (k : Nat) : X := fun ins bs κ => match ins, bs with
  | [.ag [.row 0 .t83 a0_0], .sc (.int .i64 a1)], [] => (impl_Wipe.f k a0_0 a1).bind fun r => κ (impl_Wipe.e r).1 (impl_Wipe.e r).2.1 (impl_Wipe.e r).2.2
  | _, _ => none
theorem impl_Wipe.xok (k : Nat) : XOk 41 (impl_Wipe.x k) := by
  intro ins bs κ res h
  unfold impl_Wipe.x at h
  split at h
  · obtain ⟨r, hr, h⟩ := Option.bind_eq_some_iff.1 h
    exact ⟨_, _, _, impl_Wipe.con k _ _ r hr, h⟩
  · cases h

/-! ### impl_NextBlank: function 40 -/
noncomputable def impl_NextBlank.sp : Nat → Option (Spec Ty) := fun r => bif Nat.beq r 2 then some ⟨[(6, .keep), (7, .keep), (8, .keep)], []⟩ else none
noncomputable def impl_NextBlank.en : Option (Spec Ty) := none
noncomputable def impl_NextBlank.s2 (x6 : List S101) (x7 : Int) (x8 : Int) : St Ty D := ⟨(Env.put (Env.put (Env.put E (some 6) (.row 0 .t101 x6)) (some 7) (.sc (.int .i64 x7))) (some 8) (.sc (.int .i64 x8))), H0, 1000⟩
noncomputable def impl_NextBlank.ctx (k : Nat) : Ctx Ty D := (fun _ _ _ _ => none)
noncomputable def impl_NextBlank.c2 : Nat → (List S101) → Int → Int → Option (Int)
  | 0, _, _, _ => none
  | k + 1, x6, x7, x8 => (if x8 < x7 then (if 0 ≤ x8 then (if x8 < (x6.length : Int) then (if ((rd_T101 x6 x8).f0) = 0 then (some (x8)) else (impl_NextBlank.c2 k x6 x7 (w64 (x8 + 1)))) else none) else none) else (some (4)))
noncomputable def impl_NextBlank.f (k : Nat) (a0_0 : Bool) (a0_1 : Int) (a0_2 : List S101) : Option (Int) := (impl_NextBlank.c2 k a0_2 (a0_2.length : Int) 0)
noncomputable def impl_NextBlank.e (r : Int) : Res Ty D := (.sc (.int .i64 r), [], [])
noncomputable abbrev impl_NextBlank.g (rec : List Item → St Ty D → R) (k : Nat) := go1 Try.f40 (impl_NextBlank.ctx k) impl_NextBlank.sp 0 impl_NextBlank.en rec
set_option maxRecDepth 100000 in
theorem impl_NextBlank.t2 (rec : List Item → St Ty D → R) (k : Nat) (x6 : List S101) (x7 : Int) (x8 : Int) : impl_NextBlank.g rec k (td Try.f40 2) (impl_NextBlank.s2 x6 x7 x8) =
  bif decide (x8 < x7) then bif decide (0 ≤ x8) then bif decide (x8 < (x6.length : Int)) then bif decide (((rd_T101 x6 x8).f0) = 0) then some (impl_NextBlank.e (x8)) else rec (td Try.f40 2) (impl_NextBlank.s2 x6 x7 (w64 (x8 + 1))) else none else none else some (impl_NextBlank.e (4)) := by kernel_rfl
set_option maxRecDepth 100000 in
theorem impl_NextBlank.te (rec : List Item → St Ty D → R) (k : Nat) (a0_0 : Bool) (a0_1 : Int) (a0_2 : List S101) : impl_NextBlank.g rec k [.code (body Try.f40)] (startSt [.ag [.sc (.bool a0_0), .sc (.int .i64 a0_1), .row 0 .t101 a0_2]] []) =
  rec (td Try.f40 2) (impl_NextBlank.s2 a0_2 (a0_2.length : Int) 0) := by kernel_rfl
set_option maxRecDepth 100000 in
theorem impl_NextBlank.ok : ∀ k : Nat, (∀ (x6 : List S101) (x7 : Int) (x8 : Int), goF Try.f40 impl_NextBlank.ctx impl_NextBlank.sp 0 impl_NextBlank.en k (td Try.f40 2) (impl_NextBlank.s2 x6 x7 x8) = (impl_NextBlank.c2 k x6 x7 x8).map impl_NextBlank.e)
  | 0 => fun _ _ _ => rfl
  | k + 1 => by
    have ih := impl_NextBlank.ok k
    have i2 := ih
    intro x6 x7 x8; rw [impl_NextBlank.c2]; exact (impl_NextBlank.t2 _ k x6 x7 x8).trans (cd (cd (cd (cd rfl (i2 _ _ _)) rfl) rfl) rfl)
set_option maxRecDepth 100000 in
theorem impl_NextBlank.oke (k : Nat) (a0_0 : Bool) (a0_1 : Int) (a0_2 : List S101) : goF Try.f40 impl_NextBlank.ctx impl_NextBlank.sp 0 impl_NextBlank.en (k + 1) [.code (body Try.f40)] (startSt [.ag [.sc (.bool a0_0), .sc (.int .i64 a0_1), .row 0 .t101 a0_2]] []) = (impl_NextBlank.f k a0_0 a0_1 a0_2).map impl_NextBlank.e := by
  have i2 := impl_NextBlank.ok k
  rw [impl_NextBlank.f]; exact (impl_NextBlank.te _ k a0_0 a0_1 a0_2).trans (i2 _ _ _)
theorem impl_NextBlank.con (k : Nat) (a0_0 : Bool) (a0_1 : Int) (a0_2 : List S101) (r) (h : impl_NextBlank.f k a0_0 a0_1 a0_2 = some r) : Contract Try.prog kit 40 [.ag [.sc (.bool a0_0), .sc (.int .i64 a0_1), .row 0 .t101 a0_2]] [] (impl_NextBlank.e r).1 (impl_NextBlank.e r).2.1 (impl_NextBlank.e r).2.2 :=
  con_okG kitOk mix (fun k => CtxOk.nil) (impl_NextBlank.oke k a0_0 a0_1 a0_2) h (by kernel_rfl) (by kernel_rfl) (by kernel_rfl) rfl (by kernel_rfl) rfl rfl
noncomputable def impl_NextBlank.x (k : Nat) : X := fun ins bs κ => match ins, bs with
  | [.ag [.sc (.bool a0_0), .sc (.int .i64 a0_1), .row 0 .t101 a0_2]], [] => (impl_NextBlank.f k a0_0 a0_1 a0_2).bind fun r => κ (impl_NextBlank.e r).1 (impl_NextBlank.e r).2.1 (impl_NextBlank.e r).2.2
  | _, _ => none
theorem impl_NextBlank.xok (k : Nat) : XOk 40 (impl_NextBlank.x k) := by
  intro ins bs κ res h
  unfold impl_NextBlank.x at h
  split at h
  · obtain ⟨r, hr, h⟩ := Option.bind_eq_some_iff.1 h
    exact ⟨_, _, _, impl_NextBlank.con k _ _ _ r hr, h⟩
  · cases h

/-! ### impl_Program: function 89 -/
noncomputable def impl_Program.sp : Nat → Option (Spec Ty) := fun r => none
noncomputable def impl_Program.en : Option (Spec Ty) := some ⟨[(8, .box [.own .t83]), (9, .keep)], []⟩
noncomputable def impl_Program.ctx (k : Nat) : Ctx Ty D := (cons 40 (impl_NextBlank.x k) (cons 58 (impl_copyFlash.x k) (cons 64 (impl_in.x k) (cons 74 (impl_usable.x k) (fun _ _ _ _ => none)))))
noncomputable def impl_Program.f (k : Nat) (a0_0 : List S83) (a1 : Int) (a2 : Int) (a3 : ByteArray) : Option ((List S83) × Bool) := ((impl_copyFlash.f k a0_0).bind fun t1 => ((impl_usable.f k a0_0 a1).bind fun t2 => (if t2 = true then ((impl_in.f k a2 0 3).bind fun t3 => (if t3 = true then (if 0 ≤ a1 then (if a1 < (a0_0.length : Int) then ((impl_NextBlank.f k ((rd_T83 a0_0 a1).f0) ((rd_T83 a0_0 a1).f1) ((rd_T83 a0_0 a1).f2)).bind fun t4 => (if a2 = t4 then ((impl_in.f k (a3.size : Int) 1 120).bind fun t5 => (if t5 = true then (if 0 ≤ a1 then (if a1 < (t1.length : Int) then (if 0 ≤ a2 then (if a2 < (((rd_T83 t1 a1).f2).length : Int) then (some ((t1.set a1.toNat (S83.mk ((rd_T83 t1 a1).f0) ((rd_T83 t1 a1).f1) (((rd_T83 t1 a1).f2).set a2.toNat (S101.mk 1 a3)))), true)) else none) else none) else none) else none) else (some (t1, false)))) else (some (t1, false)))) else none) else none) else (some (t1, false)))) else (some (t1, false)))))
noncomputable def impl_Program.e (r : (List S83) × Bool) : Res Ty D := (.tu [.ag [.sl 0 none], .sc (.bool r.2)], [], [.rowb .t83 r.1 0])
noncomputable abbrev impl_Program.g (rec : List Item → St Ty D → R) (k : Nat) := go1 Try.f89 (impl_Program.ctx k) impl_Program.sp 0 impl_Program.en rec
set_option maxRecDepth 100000 in
theorem impl_Program.te (rec : List Item → St Ty D → R) (k : Nat) (a0_0 : List S83) (a1 : Int) (a2 : Int) (a3 : ByteArray) : impl_Program.g rec k [.code (body Try.f89)] (startSt [.ag [.row 0 .t83 a0_0], .sc (.int .i64 a1), .sc (.int .i64 a2), .sc (.string a3)] []) =
  (impl_copyFlash.f k a0_0).bind fun t1 => (impl_usable.f k a0_0 a1).bind fun t2 => bif !t2 then some (impl_Program.e (t1, false)) else (impl_in.f k a2 0 3).bind fun t3 => bif !t3 then some (impl_Program.e (t1, false)) else bif decide (0 ≤ a1) then bif decide (a1 < (a0_0.length : Int)) then (impl_NextBlank.f k ((rd_T83 a0_0 a1).f0) ((rd_T83 a0_0 a1).f1) ((rd_T83 a0_0 a1).f2)).bind fun t4 => bif !decide (a2 = t4) then some (impl_Program.e (t1, false)) else (impl_in.f k (a3.size : Int) 1 120).bind fun t5 => bif !t5 then some (impl_Program.e (t1, false)) else bif decide (0 ≤ a1) then bif decide (a1 < (t1.length : Int)) then bif decide (0 ≤ a2) then bif decide (a2 < (((rd_T83 t1 a1).f2).length : Int)) then some (impl_Program.e ((t1.set a1.toNat (S83.mk ((rd_T83 t1 a1).f0) ((rd_T83 t1 a1).f1) (((rd_T83 t1 a1).f2).set a2.toNat (S101.mk 1 a3)))), true)) else none else none else none else none else none else none := by kernel_rfl
set_option maxRecDepth 100000 in
theorem impl_Program.oke (k : Nat) (a0_0 : List S83) (a1 : Int) (a2 : Int) (a3 : ByteArray) : goF Try.f89 impl_Program.ctx impl_Program.sp 0 impl_Program.en (k + 1) [.code (body Try.f89)] (startSt [.ag [.row 0 .t83 a0_0], .sc (.int .i64 a1), .sc (.int .i64 a2), .sc (.string a3)] []) = (impl_Program.f k a0_0 a1 a2 a3).map impl_Program.e := by
  rw [impl_Program.f]; exact (impl_Program.te _ k a0_0 a1 a2 a3).trans (bn (fun t1 => (bn (fun t2 => (nb rfl (bn (fun t3 => (nb rfl (cd (cd (bn (fun t4 => (nd rfl (bn (fun t5 => (nb rfl (cd (cd (cd (cd rfl rfl) rfl) rfl) rfl))))))) rfl) rfl)))))))))
theorem impl_Program.con (k : Nat) (a0_0 : List S83) (a1 : Int) (a2 : Int) (a3 : ByteArray) (r) (h : impl_Program.f k a0_0 a1 a2 a3 = some r) : Contract Try.prog kit 89 [.ag [.row 0 .t83 a0_0], .sc (.int .i64 a1), .sc (.int .i64 a2), .sc (.string a3)] [] (impl_Program.e r).1 (impl_Program.e r).2.1 (impl_Program.e r).2.2 :=
  con_okG kitOk mix (fun k => (CtxOk.cons (impl_NextBlank.xok k) (CtxOk.cons (impl_copyFlash.xok k) (CtxOk.cons (impl_in.xok k) (CtxOk.cons (impl_usable.xok k) CtxOk.nil))))) (impl_Program.oke k a0_0 a1 a2 a3) h (by kernel_rfl) (by kernel_rfl) (by kernel_rfl) rfl (by kernel_rfl) rfl rfl
noncomputable def impl_Program.x (k : Nat) : X := fun ins bs κ => match ins, bs with
  | [.ag [.row 0 .t83 a0_0], .sc (.int .i64 a1), .sc (.int .i64 a2), .sc (.string a3)], [] => (impl_Program.f k a0_0 a1 a2 a3).bind fun r => κ (impl_Program.e r).1 (impl_Program.e r).2.1 (impl_Program.e r).2.2
  | _, _ => none
theorem impl_Program.xok (k : Nat) : XOk 89 (impl_Program.x k) := by
  intro ins bs κ res h
  unfold impl_Program.x at h
  split at h
  · obtain ⟨r, hr, h⟩ := Option.bind_eq_some_iff.1 h
    exact ⟨_, _, _, impl_Program.con k _ _ _ _ r hr, h⟩
  · cases h

/-! ### impl_DoStep: function 59 -/
noncomputable def impl_DoStep.sp : Nat → Option (Spec Ty) := fun r => none
noncomputable def impl_DoStep.en : Option (Spec Ty) := some ⟨[(4, .box [.own .t83]), (5, .keep)], []⟩
noncomputable def impl_DoStep.ctx (k : Nat) : Ctx Ty D := (cons 41 (impl_Wipe.x k) (cons 58 (impl_copyFlash.x k) (cons 89 (impl_Program.x k) (fun _ _ _ _ => none))))
noncomputable def impl_DoStep.f (k : Nat) (a0_0 : List S83) (a1_0 : Int) (a1_1 : Int) (a1_2 : Int) (a1_3 : ByteArray) : Option ((List S83) × Bool) := (if a1_0 = 1 then ((impl_Program.f k a0_0 a1_1 a1_2 a1_3).bind fun t1 => (some (t1.1, t1.2))) else (if a1_0 = 2 then ((impl_Wipe.f k a0_0 a1_1).bind fun t2 => (some (t2.1, t2.2))) else ((impl_copyFlash.f k a0_0).bind fun t3 => (some (t3, false)))))
noncomputable def impl_DoStep.e (r : (List S83) × Bool) : Res Ty D := (.tu [.ag [.sl 0 none], .sc (.bool r.2)], [], [.rowb .t83 r.1 0])
noncomputable abbrev impl_DoStep.g (rec : List Item → St Ty D → R) (k : Nat) := go1 Try.f59 (impl_DoStep.ctx k) impl_DoStep.sp 0 impl_DoStep.en rec
set_option maxRecDepth 100000 in
theorem impl_DoStep.te (rec : List Item → St Ty D → R) (k : Nat) (a0_0 : List S83) (a1_0 : Int) (a1_1 : Int) (a1_2 : Int) (a1_3 : ByteArray) : impl_DoStep.g rec k [.code (body Try.f59)] (startSt [.ag [.row 0 .t83 a0_0], .ag [.sc (.int .i64 a1_0), .sc (.int .i64 a1_1), .sc (.int .i64 a1_2), .sc (.string a1_3)]] []) =
  bif decide (a1_0 = 1) then (impl_Program.f k a0_0 a1_1 a1_2 a1_3).bind fun t1 => some (impl_DoStep.e (t1.1, t1.2)) else bif decide (a1_0 = 2) then (impl_Wipe.f k a0_0 a1_1).bind fun t2 => some (impl_DoStep.e (t2.1, t2.2)) else (impl_copyFlash.f k a0_0).bind fun t3 => some (impl_DoStep.e (t3, false)) := by kernel_rfl
set_option maxRecDepth 100000 in
theorem impl_DoStep.oke (k : Nat) (a0_0 : List S83) (a1_0 : Int) (a1_1 : Int) (a1_2 : Int) (a1_3 : ByteArray) : goF Try.f59 impl_DoStep.ctx impl_DoStep.sp 0 impl_DoStep.en (k + 1) [.code (body Try.f59)] (startSt [.ag [.row 0 .t83 a0_0], .ag [.sc (.int .i64 a1_0), .sc (.int .i64 a1_1), .sc (.int .i64 a1_2), .sc (.string a1_3)]] []) = (impl_DoStep.f k a0_0 a1_0 a1_1 a1_2 a1_3).map impl_DoStep.e := by
  rw [impl_DoStep.f]; exact (impl_DoStep.te _ k a0_0 a1_0 a1_1 a1_2 a1_3).trans (cd (bn (fun t1 => rfl)) (cd (bn (fun t2 => rfl)) (bn (fun t3 => rfl))))
theorem impl_DoStep.con (k : Nat) (a0_0 : List S83) (a1_0 : Int) (a1_1 : Int) (a1_2 : Int) (a1_3 : ByteArray) (r) (h : impl_DoStep.f k a0_0 a1_0 a1_1 a1_2 a1_3 = some r) : Contract Try.prog kit 59 [.ag [.row 0 .t83 a0_0], .ag [.sc (.int .i64 a1_0), .sc (.int .i64 a1_1), .sc (.int .i64 a1_2), .sc (.string a1_3)]] [] (impl_DoStep.e r).1 (impl_DoStep.e r).2.1 (impl_DoStep.e r).2.2 :=
  con_okG kitOk mix (fun k => (CtxOk.cons (impl_Wipe.xok k) (CtxOk.cons (impl_copyFlash.xok k) (CtxOk.cons (impl_Program.xok k) CtxOk.nil)))) (impl_DoStep.oke k a0_0 a1_0 a1_1 a1_2 a1_3) h (by kernel_rfl) (by kernel_rfl) (by kernel_rfl) rfl (by kernel_rfl) rfl rfl
noncomputable def impl_DoStep.x (k : Nat) : X := fun ins bs κ => match ins, bs with
  | [.ag [.row 0 .t83 a0_0], .ag [.sc (.int .i64 a1_0), .sc (.int .i64 a1_1), .sc (.int .i64 a1_2), .sc (.string a1_3)]], [] => (impl_DoStep.f k a0_0 a1_0 a1_1 a1_2 a1_3).bind fun r => κ (impl_DoStep.e r).1 (impl_DoStep.e r).2.1 (impl_DoStep.e r).2.2
  | _, _ => none
theorem impl_DoStep.xok (k : Nat) : XOk 59 (impl_DoStep.x k) := by
  intro ins bs κ res h
  unfold impl_DoStep.x at h
  split at h
  · obtain ⟨r, hr, h⟩ := Option.bind_eq_some_iff.1 h
    exact ⟨_, _, _, impl_DoStep.con k _ _ _ _ _ r hr, h⟩
  · cases h

/-! ### impl_DoSteps: function 34 -/
noncomputable def impl_DoSteps.sp : Nat → Option (Spec Ty) := fun r => bif Nat.beq r 3 then some ⟨[(1, .keep), (4, .box [.own .t83]), (6, .box [.own .t83]), (13, .keep), (14, .keep), (15, .keep)], []⟩ else none
noncomputable def impl_DoSteps.en : Option (Spec Ty) := some ⟨[(4, .box [.own .t83]), (5, .keep)], []⟩
noncomputable def impl_DoSteps.s3 (x1 : List S56) (x13 : List S56) (x14 : Int) (x15 : Int) (h65 : List S83) (h67 : List S83) : St Ty D := ⟨(Env.put (Env.put (Env.put (Env.put (Env.put (Env.put E (some 1) (.row 0 .t56 x1)) (some 4) (.pt 64 0 0)) (some 6) (.pt 66 0 0)) (some 13) (.row 0 .t56 x13)) (some 14) (.sc (.int .i64 x14))) (some 15) (.sc (.int .i64 x15))), Heap.put H0 [(65, some (.rowb .t83 h65 0)), (64, some (.box [.sl 65 none])), (67, some (.rowb .t83 h67 0)), (66, some (.box [.sl 67 none]))], 1000⟩
noncomputable def impl_DoSteps.ctx (k : Nat) : Ctx Ty D := (cons 58 (impl_copyFlash.x k) (cons 59 (impl_DoStep.x k) (fun _ _ _ _ => none)))
noncomputable def impl_DoSteps.c3 : Nat → (List S56) → (List S56) → Int → Int → (List S83) → (List S83) → Option ((List S83) × Int)
  | 0, _, _, _, _, _, _ => none
  | k + 1, x1, x13, x14, x15, h65, h67 => (if x15 < x14 then (if 0 ≤ x15 then (if x15 < (x13.length : Int) then ((impl_DoStep.f k h67 ((rd_T56 x13 x15).f0) ((rd_T56 x13 x15).f1) ((rd_T56 x13 x15).f2) ((rd_T56 x13 x15).f3)).bind fun t2 => (if t2.2 = true then (impl_DoSteps.c3 k x1 x13 x14 (w64 (x15 + 1)) h65 t2.1) else (some (h67, x15)))) else none) else none) else (some (h67, (x1.length : Int))))
noncomputable def impl_DoSteps.f (k : Nat) (a0_0 : List S83) (a1 : List S56) : Option ((List S83) × Int) := ((impl_copyFlash.f k a0_0).bind fun t1 => (impl_DoSteps.c3 k a1 a1 (a1.length : Int) 0 ([] : List S83) t1))
noncomputable def impl_DoSteps.e (r : (List S83) × Int) : Res Ty D := (.tu [.ag [.sl 0 none], .sc (.int .i64 r.2)], [], [.rowb .t83 r.1 0])
noncomputable abbrev impl_DoSteps.g (rec : List Item → St Ty D → R) (k : Nat) := go1 Try.f34 (impl_DoSteps.ctx k) impl_DoSteps.sp 0 impl_DoSteps.en rec
set_option maxRecDepth 100000 in
theorem impl_DoSteps.t3 (rec : List Item → St Ty D → R) (k : Nat) (x1 : List S56) (x13 : List S56) (x14 : Int) (x15 : Int) (h65 : List S83) (h67 : List S83) : impl_DoSteps.g rec k (td Try.f34 3) (impl_DoSteps.s3 x1 x13 x14 x15 h65 h67) =
  bif decide (x15 < x14) then bif decide (0 ≤ x15) then bif decide (x15 < (x13.length : Int)) then (impl_DoStep.f k h67 ((rd_T56 x13 x15).f0) ((rd_T56 x13 x15).f1) ((rd_T56 x13 x15).f2) ((rd_T56 x13 x15).f3)).bind fun t2 => bif !t2.2 then some (impl_DoSteps.e (h67, x15)) else rec (td Try.f34 3) (impl_DoSteps.s3 x1 x13 x14 (w64 (x15 + 1)) h65 t2.1) else none else none else some (impl_DoSteps.e (h67, (x1.length : Int))) := by kernel_rfl
set_option maxRecDepth 100000 in
theorem impl_DoSteps.te (rec : List Item → St Ty D → R) (k : Nat) (a0_0 : List S83) (a1 : List S56) : impl_DoSteps.g rec k [.code (body Try.f34)] (startSt [.ag [.row 0 .t83 a0_0], .row 0 .t56 a1] []) =
  (impl_copyFlash.f k a0_0).bind fun t1 => rec (td Try.f34 3) (impl_DoSteps.s3 a1 a1 (a1.length : Int) 0 ([] : List S83) t1) := by kernel_rfl
set_option maxRecDepth 100000 in
theorem impl_DoSteps.ok : ∀ k : Nat, (∀ (x1 : List S56) (x13 : List S56) (x14 : Int) (x15 : Int) (h65 : List S83) (h67 : List S83), goF Try.f34 impl_DoSteps.ctx impl_DoSteps.sp 0 impl_DoSteps.en k (td Try.f34 3) (impl_DoSteps.s3 x1 x13 x14 x15 h65 h67) = (impl_DoSteps.c3 k x1 x13 x14 x15 h65 h67).map impl_DoSteps.e)
  | 0 => fun _ _ _ _ _ _ => rfl
  | k + 1 => by
    have ih := impl_DoSteps.ok k
    have i3 := ih
    intro x1 x13 x14 x15 h65 h67; rw [impl_DoSteps.c3]; exact (impl_DoSteps.t3 _ k x1 x13 x14 x15 h65 h67).trans (cd (cd (cd (bn (fun t2 => (nb rfl (i3 _ _ _ _ _ _)))) rfl) rfl) rfl)
set_option maxRecDepth 100000 in
theorem impl_DoSteps.oke (k : Nat) (a0_0 : List S83) (a1 : List S56) : goF Try.f34 impl_DoSteps.ctx impl_DoSteps.sp 0 impl_DoSteps.en (k + 1) [.code (body Try.f34)] (startSt [.ag [.row 0 .t83 a0_0], .row 0 .t56 a1] []) = (impl_DoSteps.f k a0_0 a1).map impl_DoSteps.e := by
  have i3 := impl_DoSteps.ok k
  rw [impl_DoSteps.f]; exact (impl_DoSteps.te _ k a0_0 a1).trans (bn (fun t1 => (i3 _ _ _ _ _ _)))
theorem impl_DoSteps.con (k : Nat) (a0_0 : List S83) (a1 : List S56) (r) (h : impl_DoSteps.f k a0_0 a1 = some r) : Contract Try.prog kit 34 [.ag [.row 0 .t83 a0_0], .row 0 .t56 a1] [] (impl_DoSteps.e r).1 (impl_DoSteps.e r).2.1 (impl_DoSteps.e r).2.2 :=
  con_okG kitOk mix (fun k => (CtxOk.cons (impl_copyFlash.xok k) (CtxOk.cons (impl_DoStep.xok k) CtxOk.nil))) (impl_DoSteps.oke k a0_0 a1) h (by kernel_rfl) (by kernel_rfl) (by kernel_rfl) rfl (by kernel_rfl) rfl rfl
noncomputable def impl_DoSteps.x (k : Nat) : X := fun ins bs κ => match ins, bs with
  | [.ag [.row 0 .t83 a0_0], .row 0 .t56 a1], [] => (impl_DoSteps.f k a0_0 a1).bind fun r => κ (impl_DoSteps.e r).1 (impl_DoSteps.e r).2.1 (impl_DoSteps.e r).2.2
  | _, _ => none
theorem impl_DoSteps.xok (k : Nat) : XOk 34 (impl_DoSteps.x k) := by
  intro ins bs κ res h
  unfold impl_DoSteps.x at h
  split at h
  · obtain ⟨r, hr, h⟩ := Option.bind_eq_some_iff.1 h
    exact ⟨_, _, _, impl_DoSteps.con k _ _ r hr, h⟩
  · cases h
end Go.Proofs.Ytklkhnomnanpoaa.M2

/- Plain runs of functions: each is a plain Lean function, and keeps its contract. Written by a program of this session. -/
namespace Go.Proofs.Ytklkhnomnanpoaa.M2
open Go Go.Proofs.Ytklkhnomnanpoaa.PK
set_option linter.unusedVariables false
set_option linter.unusedSimpArgs false
set_option maxHeartbeats 4000000
/-! ### spec_DoSteps: function 35 -/
noncomputable def spec_DoSteps.sp : Nat → Option (Spec Ty) := fun r => bif Nat.beq r 3 then some ⟨[(1, .keep), (4, .box [.own .t83]), (6, .box [.own .t83]), (7, .keep)], []⟩ else none
noncomputable def spec_DoSteps.en : Option (Spec Ty) := some ⟨[(4, .box [.own .t83]), (5, .keep)], []⟩
noncomputable def spec_DoSteps.s3 (x1 : List S56) (x7 : Int) (h65 : List S83) (h67 : List S83) : St Ty D := ⟨(Env.put (Env.put (Env.put (Env.put E (some 1) (.row 0 .t56 x1)) (some 4) (.pt 64 0 0)) (some 6) (.pt 66 0 0)) (some 7) (.sc (.int .i64 x7))), Heap.put H0 [(65, some (.rowb .t83 h65 0)), (64, some (.box [.sl 65 none])), (67, some (.rowb .t83 h67 0)), (66, some (.box [.sl 67 none]))], 1000⟩
noncomputable def spec_DoSteps.ctx (k : Nat) : Ctx Ty D := (cons 55 (spec_DoStep.x k) (cons 56 (spec_l05Copy.x k) (fun _ _ _ _ => none)))
noncomputable def spec_DoSteps.c3 : Nat → (List S56) → Int → (List S83) → (List S83) → Option ((List S83) × Int)
  | 0, _, _, _, _ => none
  | k + 1, x1, x7, h65, h67 => (if x7 < (x1.length : Int) then (if 0 ≤ x7 then (if x7 < (x1.length : Int) then ((spec_DoStep.f k h67 ((rd_T56 x1 x7).f0) ((rd_T56 x1 x7).f1) ((rd_T56 x1 x7).f2) ((rd_T56 x1 x7).f3)).bind fun t2 => (if t2.2 = true then (spec_DoSteps.c3 k x1 (w64 (x7 + 1)) h65 t2.1) else (some (h67, x7)))) else none) else none) else (some (h67, (x1.length : Int))))
noncomputable def spec_DoSteps.f (k : Nat) (a0_0 : List S83) (a1 : List S56) : Option ((List S83) × Int) := ((spec_l05Copy.f k a0_0).bind fun t1 => (spec_DoSteps.c3 k a1 0 ([] : List S83) t1))
noncomputable def spec_DoSteps.e (r : (List S83) × Int) : Res Ty D := (.tu [.ag [.sl 0 none], .sc (.int .i64 r.2)], [], [.rowb .t83 r.1 0])
noncomputable abbrev spec_DoSteps.g (rec : List Item → St Ty D → R) (k : Nat) := go1 Try.f35 (spec_DoSteps.ctx k) spec_DoSteps.sp 0 spec_DoSteps.en rec
set_option maxRecDepth 100000 in
theorem spec_DoSteps.t3 (rec : List Item → St Ty D → R) (k : Nat) (x1 : List S56) (x7 : Int) (h65 : List S83) (h67 : List S83) : spec_DoSteps.g rec k (td Try.f35 3) (spec_DoSteps.s3 x1 x7 h65 h67) =
  bif decide (x7 < (x1.length : Int)) then bif decide (0 ≤ x7) then bif decide (x7 < (x1.length : Int)) then (spec_DoStep.f k h67 ((rd_T56 x1 x7).f0) ((rd_T56 x1 x7).f1) ((rd_T56 x1 x7).f2) ((rd_T56 x1 x7).f3)).bind fun t2 => bif !t2.2 then some (spec_DoSteps.e (h67, x7)) else rec (td Try.f35 3) (spec_DoSteps.s3 x1 (w64 (x7 + 1)) h65 t2.1) else none else none else some (spec_DoSteps.e (h67, (x1.length : Int))) := by kernel_rfl
set_option maxRecDepth 100000 in
theorem spec_DoSteps.te (rec : List Item → St Ty D → R) (k : Nat) (a0_0 : List S83) (a1 : List S56) : spec_DoSteps.g rec k [.code (body Try.f35)] (startSt [.ag [.row 0 .t83 a0_0], .row 0 .t56 a1] []) =
  (spec_l05Copy.f k a0_0).bind fun t1 => rec (td Try.f35 3) (spec_DoSteps.s3 a1 0 ([] : List S83) t1) := by kernel_rfl
set_option maxRecDepth 100000 in
theorem spec_DoSteps.ok : ∀ k : Nat, (∀ (x1 : List S56) (x7 : Int) (h65 : List S83) (h67 : List S83), goF Try.f35 spec_DoSteps.ctx spec_DoSteps.sp 0 spec_DoSteps.en k (td Try.f35 3) (spec_DoSteps.s3 x1 x7 h65 h67) = (spec_DoSteps.c3 k x1 x7 h65 h67).map spec_DoSteps.e)
  | 0 => fun _ _ _ _ => rfl
  | k + 1 => by
    have ih := spec_DoSteps.ok k
    have i3 := ih
    intro x1 x7 h65 h67; rw [spec_DoSteps.c3]; exact (spec_DoSteps.t3 _ k x1 x7 h65 h67).trans (cd (cd (cd (bn (fun t2 => (nb rfl (i3 _ _ _ _)))) rfl) rfl) rfl)
set_option maxRecDepth 100000 in
theorem spec_DoSteps.oke (k : Nat) (a0_0 : List S83) (a1 : List S56) : goF Try.f35 spec_DoSteps.ctx spec_DoSteps.sp 0 spec_DoSteps.en (k + 1) [.code (body Try.f35)] (startSt [.ag [.row 0 .t83 a0_0], .row 0 .t56 a1] []) = (spec_DoSteps.f k a0_0 a1).map spec_DoSteps.e := by
  have i3 := spec_DoSteps.ok k
  rw [spec_DoSteps.f]; exact (spec_DoSteps.te _ k a0_0 a1).trans (bn (fun t1 => (i3 _ _ _ _)))
theorem spec_DoSteps.con (k : Nat) (a0_0 : List S83) (a1 : List S56) (r) (h : spec_DoSteps.f k a0_0 a1 = some r) : Contract Try.prog kit 35 [.ag [.row 0 .t83 a0_0], .row 0 .t56 a1] [] (spec_DoSteps.e r).1 (spec_DoSteps.e r).2.1 (spec_DoSteps.e r).2.2 :=
  con_okG kitOk mix (fun k => (CtxOk.cons (spec_DoStep.xok k) (CtxOk.cons (spec_l05Copy.xok k) CtxOk.nil))) (spec_DoSteps.oke k a0_0 a1) h (by kernel_rfl) (by kernel_rfl) (by kernel_rfl) rfl (by kernel_rfl) rfl rfl
noncomputable def spec_DoSteps.x (k : Nat) : X := fun ins bs κ => match ins, bs with
  | [.ag [.row 0 .t83 a0_0], .row 0 .t56 a1], [] => (spec_DoSteps.f k a0_0 a1).bind fun r => κ (spec_DoSteps.e r).1 (spec_DoSteps.e r).2.1 (spec_DoSteps.e r).2.2
  | _, _ => none
theorem spec_DoSteps.xok (k : Nat) : XOk 35 (spec_DoSteps.x k) := by
  intro ins bs κ res h
  unfold spec_DoSteps.x at h
  split at h
  · obtain ⟨r, hr, h⟩ := Option.bind_eq_some_iff.1 h
    exact ⟨_, _, _, spec_DoSteps.con k _ _ r hr, h⟩
  · cases h

/-! ### laws_sameFlash: function 36 -/
noncomputable def laws_sameFlash.sp : Nat → Option (Spec Ty) := fun r => bif Nat.beq r 4 then some ⟨[(2, .box [.keep]), (3, .box [.keep]), (5, .keep)], []⟩ else bif Nat.beq r 11 then some ⟨[(2, .box [.keep]), (3, .box [.keep]), (5, .keep), (6, .box [.keep, .keep, .keep]), (7, .box [.keep, .keep, .keep]), (8, .keep), (39, .box [.keep, .keep, .keep]), (40, .keep), (41, .box [.keep, .keep, .keep]), (42, .keep), (43, .keep), (46, .box [.keep, .keep, .keep]), (47, .keep), (48, .keep), (49, .box [.keep, .keep, .keep]), (50, .keep), (51, .keep), (52, .keep)], []⟩ else none
noncomputable def laws_sameFlash.en : Option (Spec Ty) := none
noncomputable def laws_sameFlash.s4 (x5 : Int) (h64_0 : List S83) (h65_0 : List S83) : St Ty D := ⟨(Env.put (Env.put (Env.put E (some 2) (.pt 64 0 0)) (some 3) (.pt 65 0 0)) (some 5) (.sc (.int .i64 x5))), Heap.put H0 [(64, some (.box [.row 0 .t83 h64_0])), (65, some (.box [.row 0 .t83 h65_0]))], 1000⟩
noncomputable def laws_sameFlash.s11 (x5 : Int) (x8 : Int) (x40 : Int) (x42 : Int) (x43 : Bool) (x47 : List S101) (x48 : Int) (x50 : List S101) (x51 : Int) (x52 : Bool) (h64_0 : List S83) (h65_0 : List S83) (h66_0 : Bool) (h66_1 : Int) (h66_2 : List S101) (h67_0 : Bool) (h67_1 : Int) (h67_2 : List S101) : St Ty D := ⟨(Env.put (Env.put (Env.put (Env.put (Env.put (Env.put (Env.put (Env.put (Env.put (Env.put (Env.put (Env.put (Env.put (Env.put (Env.put (Env.put (Env.put (Env.put E (some 2) (.pt 64 0 0)) (some 3) (.pt 65 0 0)) (some 5) (.sc (.int .i64 x5))) (some 6) (.pt 66 0 0)) (some 7) (.pt 67 0 0)) (some 8) (.sc (.int .i64 x8))) (some 39) (.pt 66 0 1)) (some 40) (.sc (.int .i64 x40))) (some 41) (.pt 67 0 1)) (some 42) (.sc (.int .i64 x42))) (some 43) (.sc (.bool x43))) (some 46) (.pt 66 0 2)) (some 47) (.row 0 .t101 x47)) (some 48) (.sc (.int .i64 x48))) (some 49) (.pt 67 0 2)) (some 50) (.row 0 .t101 x50)) (some 51) (.sc (.int .i64 x51))) (some 52) (.sc (.bool x52))), Heap.put H0 [(64, some (.box [.row 0 .t83 h64_0])), (65, some (.box [.row 0 .t83 h65_0])), (66, some (.box [.sc (.bool h66_0), .sc (.int .i64 h66_1), .row 0 .t101 h66_2])), (67, some (.box [.sc (.bool h67_0), .sc (.int .i64 h67_1), .row 0 .t101 h67_2]))], 1000⟩
noncomputable def laws_sameFlash.ctx (k : Nat) : Ctx Ty D := (fun _ _ _ _ => none)
mutual
noncomputable def laws_sameFlash.c4 : Nat → Int → (List S83) → (List S83) → Option (Bool)
  | 0, _, _, _ => none
  | k + 1, x5, h64_0, h65_0 => (if x5 < (h64_0.length : Int) then (if 0 ≤ x5 then (if x5 < (h64_0.length : Int) then (if 0 ≤ x5 then (if x5 < (h65_0.length : Int) then (if (((rd_T83 h64_0 x5).f0) == ((rd_T83 h65_0 x5).f0)) = true then (if ((rd_T83 h64_0 x5).f1) = ((rd_T83 h65_0 x5).f1) then (if (((rd_T83 h64_0 x5).f2).length : Int) = (((rd_T83 h65_0 x5).f2).length : Int) then (laws_sameFlash.c11 k x5 0 ((rd_T83 h64_0 x5).f1) ((rd_T83 h65_0 x5).f1) (!(decide (((rd_T83 h64_0 x5).f1) = ((rd_T83 h65_0 x5).f1)))) ((rd_T83 h64_0 x5).f2) (((rd_T83 h64_0 x5).f2).length : Int) ((rd_T83 h65_0 x5).f2) (((rd_T83 h65_0 x5).f2).length : Int) (!(decide ((((rd_T83 h64_0 x5).f2).length : Int) = (((rd_T83 h65_0 x5).f2).length : Int)))) h64_0 h65_0 ((rd_T83 h64_0 x5).f0) ((rd_T83 h64_0 x5).f1) ((rd_T83 h64_0 x5).f2) ((rd_T83 h65_0 x5).f0) ((rd_T83 h65_0 x5).f1) ((rd_T83 h65_0 x5).f2)) else (some (false))) else (some (false))) else (some (false))) else none) else none) else none) else none) else (some (true)))
noncomputable def laws_sameFlash.c11 : Nat → Int → Int → Int → Int → Bool → (List S101) → Int → (List S101) → Int → Bool → (List S83) → (List S83) → Bool → Int → (List S101) → Bool → Int → (List S101) → Option (Bool)
  | 0, _, _, _, _, _, _, _, _, _, _, _, _, _, _, _, _, _, _ => none
  | k + 1, x5, x8, x40, x42, x43, x47, x48, x50, x51, x52, h64_0, h65_0, h66_0, h66_1, h66_2, h67_0, h67_1, h67_2 => (if x8 < (h66_2.length : Int) then (if 0 ≤ x8 then (if x8 < (h66_2.length : Int) then (if 0 ≤ x8 then (if x8 < (h67_2.length : Int) then (if ((decide (((rd_T101 h66_2 x8).f0) = ((rd_T101 h67_2 x8).f0))) && (seq ((rd_T101 h66_2 x8).f1) ((rd_T101 h67_2 x8).f1))) = true then (laws_sameFlash.c11 k x5 (w64 (x8 + 1)) x40 x42 x43 x47 x48 x50 x51 x52 h64_0 h65_0 h66_0 h66_1 h66_2 h67_0 h67_1 h67_2) else (some (false))) else none) else none) else none) else none) else (laws_sameFlash.c4 k (w64 (x5 + 1)) h64_0 h65_0))
end
noncomputable def laws_sameFlash.f (k : Nat) (a0_0 : List S83) (a1_0 : List S83) : Option (Bool) := (if (a0_0.length : Int) = (a1_0.length : Int) then (laws_sameFlash.c4 k 0 a0_0 a1_0) else (some (false)))
noncomputable def laws_sameFlash.e (r : Bool) : Res Ty D := (.sc (.bool r), [], [])
noncomputable abbrev laws_sameFlash.g (rec : List Item → St Ty D → R) (k : Nat) := go1 Try.f36 (laws_sameFlash.ctx k) laws_sameFlash.sp 0 laws_sameFlash.en rec
set_option maxRecDepth 100000 in
theorem laws_sameFlash.t4 (rec : List Item → St Ty D → R) (k : Nat) (x5 : Int) (h64_0 : List S83) (h65_0 : List S83) : laws_sameFlash.g rec k (td Try.f36 4) (laws_sameFlash.s4 x5 h64_0 h65_0) =
  bif decide (x5 < (h64_0.length : Int)) then bif decide (0 ≤ x5) then bif decide (x5 < (h64_0.length : Int)) then bif decide (0 ≤ x5) then bif decide (x5 < (h65_0.length : Int)) then bif !(((rd_T83 h64_0 x5).f0) == ((rd_T83 h65_0 x5).f0)) then some (laws_sameFlash.e (false)) else bif !decide (((rd_T83 h64_0 x5).f1) = ((rd_T83 h65_0 x5).f1)) then some (laws_sameFlash.e (false)) else bif !decide ((((rd_T83 h64_0 x5).f2).length : Int) = (((rd_T83 h65_0 x5).f2).length : Int)) then some (laws_sameFlash.e (false)) else rec (td Try.f36 11) (laws_sameFlash.s11 x5 0 ((rd_T83 h64_0 x5).f1) ((rd_T83 h65_0 x5).f1) (!(decide (((rd_T83 h64_0 x5).f1) = ((rd_T83 h65_0 x5).f1)))) ((rd_T83 h64_0 x5).f2) (((rd_T83 h64_0 x5).f2).length : Int) ((rd_T83 h65_0 x5).f2) (((rd_T83 h65_0 x5).f2).length : Int) (!(decide ((((rd_T83 h64_0 x5).f2).length : Int) = (((rd_T83 h65_0 x5).f2).length : Int)))) h64_0 h65_0 ((rd_T83 h64_0 x5).f0) ((rd_T83 h64_0 x5).f1) ((rd_T83 h64_0 x5).f2) ((rd_T83 h65_0 x5).f0) ((rd_T83 h65_0 x5).f1) ((rd_T83 h65_0 x5).f2)) else none else none else none else none else some (laws_sameFlash.e (true)) := by kernel_rfl
set_option maxRecDepth 100000 in
theorem laws_sameFlash.t11 (rec : List Item → St Ty D → R) (k : Nat) (x5 : Int) (x8 : Int) (x40 : Int) (x42 : Int) (x43 : Bool) (x47 : List S101) (x48 : Int) (x50 : List S101) (x51 : Int) (x52 : Bool) (h64_0 : List S83) (h65_0 : List S83) (h66_0 : Bool) (h66_1 : Int) (h66_2 : List S101) (h67_0 : Bool) (h67_1 : Int) (h67_2 : List S101) : laws_sameFlash.g rec k (td Try.f36 11) (laws_sameFlash.s11 x5 x8 x40 x42 x43 x47 x48 x50 x51 x52 h64_0 h65_0 h66_0 h66_1 h66_2 h67_0 h67_1 h67_2) =
  bif decide (x8 < (h66_2.length : Int)) then bif decide (0 ≤ x8) then bif decide (x8 < (h66_2.length : Int)) then bif decide (0 ≤ x8) then bif decide (x8 < (h67_2.length : Int)) then bif !((decide (((rd_T101 h66_2 x8).f0) = ((rd_T101 h67_2 x8).f0))) && (seq ((rd_T101 h66_2 x8).f1) ((rd_T101 h67_2 x8).f1))) then some (laws_sameFlash.e (false)) else rec (td Try.f36 11) (laws_sameFlash.s11 x5 (w64 (x8 + 1)) x40 x42 x43 x47 x48 x50 x51 x52 h64_0 h65_0 h66_0 h66_1 h66_2 h67_0 h67_1 h67_2) else none else none else none else none else rec (td Try.f36 4) (laws_sameFlash.s4 (w64 (x5 + 1)) h64_0 h65_0) := by kernel_rfl
set_option maxRecDepth 100000 in
theorem laws_sameFlash.te (rec : List Item → St Ty D → R) (k : Nat) (a0_0 : List S83) (a1_0 : List S83) : laws_sameFlash.g rec k [.code (body Try.f36)] (startSt [.ag [.row 0 .t83 a0_0], .ag [.row 0 .t83 a1_0]] []) =
  bif !decide ((a0_0.length : Int) = (a1_0.length : Int)) then some (laws_sameFlash.e (false)) else rec (td Try.f36 4) (laws_sameFlash.s4 0 a0_0 a1_0) := by kernel_rfl
set_option maxRecDepth 100000 in
theorem laws_sameFlash.ok : ∀ k : Nat, (∀ (x5 : Int) (h64_0 : List S83) (h65_0 : List S83), goF Try.f36 laws_sameFlash.ctx laws_sameFlash.sp 0 laws_sameFlash.en k (td Try.f36 4) (laws_sameFlash.s4 x5 h64_0 h65_0) = (laws_sameFlash.c4 k x5 h64_0 h65_0).map laws_sameFlash.e) ∧ (∀ (x5 : Int) (x8 : Int) (x40 : Int) (x42 : Int) (x43 : Bool) (x47 : List S101) (x48 : Int) (x50 : List S101) (x51 : Int) (x52 : Bool) (h64_0 : List S83) (h65_0 : List S83) (h66_0 : Bool) (h66_1 : Int) (h66_2 : List S101) (h67_0 : Bool) (h67_1 : Int) (h67_2 : List S101), goF Try.f36 laws_sameFlash.ctx laws_sameFlash.sp 0 laws_sameFlash.en k (td Try.f36 11) (laws_sameFlash.s11 x5 x8 x40 x42 x43 x47 x48 x50 x51 x52 h64_0 h65_0 h66_0 h66_1 h66_2 h67_0 h67_1 h67_2) = (laws_sameFlash.c11 k x5 x8 x40 x42 x43 x47 x48 x50 x51 x52 h64_0 h65_0 h66_0 h66_1 h66_2 h67_0 h67_1 h67_2).map laws_sameFlash.e)
  | 0 => ⟨fun _ _ _ => rfl, fun _ _ _ _ _ _ _ _ _ _ _ _ _ _ _ _ _ _ => rfl⟩
  | k + 1 => by
    have ih := laws_sameFlash.ok k
    obtain ⟨i4, i11⟩ := ih
    refine ⟨?_, ?_⟩
    · intro x5 h64_0 h65_0; rw [laws_sameFlash.c4]; exact (laws_sameFlash.t4 _ k x5 h64_0 h65_0).trans (cd (cd (cd (cd (cd (nb rfl (nd rfl (nd rfl (i11 _ _ _ _ _ _ _ _ _ _ _ _ _ _ _ _ _ _)))) rfl) rfl) rfl) rfl) rfl)
    · intro x5 x8 x40 x42 x43 x47 x48 x50 x51 x52 h64_0 h65_0 h66_0 h66_1 h66_2 h67_0 h67_1 h67_2; rw [laws_sameFlash.c11]; exact (laws_sameFlash.t11 _ k x5 x8 x40 x42 x43 x47 x48 x50 x51 x52 h64_0 h65_0 h66_0 h66_1 h66_2 h67_0 h67_1 h67_2).trans (cd (cd (cd (cd (cd (nb rfl (i11 _ _ _ _ _ _ _ _ _ _ _ _ _ _ _ _ _ _)) rfl) rfl) rfl) rfl) (i4 _ _ _))
set_option maxRecDepth 100000 in
theorem laws_sameFlash.oke (k : Nat) (a0_0 : List S83) (a1_0 : List S83) : goF Try.f36 laws_sameFlash.ctx laws_sameFlash.sp 0 laws_sameFlash.en (k + 1) [.code (body Try.f36)] (startSt [.ag [.row 0 .t83 a0_0], .ag [.row 0 .t83 a1_0]] []) = (laws_sameFlash.f k a0_0 a1_0).map laws_sameFlash.e := by
  obtain ⟨i4, i11⟩ := laws_sameFlash.ok k
  rw [laws_sameFlash.f]; exact (laws_sameFlash.te _ k a0_0 a1_0).trans (nd rfl (i4 _ _ _))
theorem laws_sameFlash.con (k : Nat) (a0_0 : List S83) (a1_0 : List S83) (r) (h : laws_sameFlash.f k a0_0 a1_0 = some r) : Contract Try.prog kit 36 [.ag [.row 0 .t83 a0_0], .ag [.row 0 .t83 a1_0]] [] (laws_sameFlash.e r).1 (laws_sameFlash.e r).2.1 (laws_sameFlash.e r).2.2 :=
  con_okG kitOk mix (fun k => CtxOk.nil) (laws_sameFlash.oke k a0_0 a1_0) h (by kernel_rfl) (by kernel_rfl) (by kernel_rfl) rfl (by kernel_rfl) rfl rfl
noncomputable def laws_sameFlash.x (k : Nat) : X := fun ins bs κ => match ins, bs with
  | [.ag [.row 0 .t83 a0_0], .ag [.row 0 .t83 a1_0]], [] => (laws_sameFlash.f k a0_0 a1_0).bind fun r => κ (laws_sameFlash.e r).1 (laws_sameFlash.e r).2.1 (laws_sameFlash.e r).2.2
  | _, _ => none
theorem laws_sameFlash.xok (k : Nat) : XOk 36 (laws_sameFlash.x k) := by
  intro ins bs κ res h
  unfold laws_sameFlash.x at h
  split at h
  · obtain ⟨r, hr, h⟩ := Option.bind_eq_some_iff.1 h
    exact ⟨_, _, _, laws_sameFlash.con k _ _ r hr, h⟩
  · cases h

/-! ### spec_DrawPlaces: function 37 -/
noncomputable def spec_DrawPlaces.sp : Nat → Option (Spec Ty) := fun r => bif Nat.beq r 5 then some ⟨[(3, .box [.keep, .keep, .keep]), (4, .own .t3), (5, .keep)], []⟩ else none
noncomputable def spec_DrawPlaces.en : Option (Spec Ty) := some ⟨[(2, .own .t3)], []⟩
noncomputable def spec_DrawPlaces.s5 (x5 : Int) (h64_0 : List Int) (h64_1 : Int) (h64_2 : Int) (h65 : List Int) : St Ty D := ⟨(Env.put (Env.put (Env.put E (some 3) (.pt 64 0 0)) (some 4) (.sl 65 none)) (some 5) (.sc (.int .i64 x5))), Heap.put H0 [(64, some (.box [.row 0 .t5 h64_0, .sc (.int .i64 h64_1), .sc (.int .i64 h64_2)])), (65, some (.rowb .t3 h65 0))], 1000⟩
noncomputable def spec_DrawPlaces.ctx (k : Nat) : Ctx Ty D := (cons 67 (spec_l01New.x k) (cons 70 (spec_l01Byte.x k) (cons 71 (spec_l01Below.x k) (fun _ _ _ _ => none))))
noncomputable def spec_DrawPlaces.c5 : Nat → Int → (List Int) → Int → Int → (List Int) → Option ((List Int))
  | 0, _, _, _, _, _ => none
  | k + 1, x5, h64_0, h64_1, h64_2, h65 => (if x5 < 12 then ((spec_l01Below.f k 10000 h64_0 h64_1 h64_2).bind fun t3 => (if h65.length + ([t3.1] : List Int).length ≤ 17592186044416 then (spec_DrawPlaces.c5 k (w64 (x5 + 1)) t3.2.1 t3.2.2.1 t3.2.2.2 (h65 ++ ([t3.1] : List Int))) else none)) else (some (h65)))
noncomputable def spec_DrawPlaces.f (k : Nat) (a0 : List Int) : Option ((List Int)) := ((spec_l01New.f k a0).bind fun t1 => ((spec_l01Byte.f k t1.1 t1.2.1 t1.2.2).bind fun t2 => (spec_DrawPlaces.c5 k 0 t2.2.1 t2.2.2.1 t2.2.2.2 ([] : List Int))))
noncomputable def spec_DrawPlaces.e (r : (List Int)) : Res Ty D := (.sl 0 none, [], [.rowb .t3 r 0])
noncomputable abbrev spec_DrawPlaces.g (rec : List Item → St Ty D → R) (k : Nat) := go1 Try.f37 (spec_DrawPlaces.ctx k) spec_DrawPlaces.sp 0 spec_DrawPlaces.en rec
set_option maxRecDepth 100000 in
theorem spec_DrawPlaces.t5 (rec : List Item → St Ty D → R) (k : Nat) (x5 : Int) (h64_0 : List Int) (h64_1 : Int) (h64_2 : Int) (h65 : List Int) : spec_DrawPlaces.g rec k (td Try.f37 5) (spec_DrawPlaces.s5 x5 h64_0 h64_1 h64_2 h65) =
  bif decide (x5 < 12) then (spec_l01Below.f k 10000 h64_0 h64_1 h64_2).bind fun t3 => bif decide (h65.length + ([t3.1] : List Int).length ≤ 17592186044416) then rec (td Try.f37 5) (spec_DrawPlaces.s5 (w64 (x5 + 1)) t3.2.1 t3.2.2.1 t3.2.2.2 (h65 ++ ([t3.1] : List Int))) else none else some (spec_DrawPlaces.e (h65)) := by kernel_rfl
set_option maxRecDepth 100000 in
theorem spec_DrawPlaces.te (rec : List Item → St Ty D → R) (k : Nat) (a0 : List Int) : spec_DrawPlaces.g rec k [.code (body Try.f37)] (startSt [.row 0 .t5 a0] []) =
  (spec_l01New.f k a0).bind fun t1 => (spec_l01Byte.f k t1.1 t1.2.1 t1.2.2).bind fun t2 => rec (td Try.f37 5) (spec_DrawPlaces.s5 0 t2.2.1 t2.2.2.1 t2.2.2.2 ([] : List Int)) := by kernel_rfl
set_option maxRecDepth 100000 in
theorem spec_DrawPlaces.ok : ∀ k : Nat, (∀ (x5 : Int) (h64_0 : List Int) (h64_1 : Int) (h64_2 : Int) (h65 : List Int), goF Try.f37 spec_DrawPlaces.ctx spec_DrawPlaces.sp 0 spec_DrawPlaces.en k (td Try.f37 5) (spec_DrawPlaces.s5 x5 h64_0 h64_1 h64_2 h65) = (spec_DrawPlaces.c5 k x5 h64_0 h64_1 h64_2 h65).map spec_DrawPlaces.e)
  | 0 => fun _ _ _ _ _ => rfl
  | k + 1 => by
    have ih := spec_DrawPlaces.ok k
    have i5 := ih
    intro x5 h64_0 h64_1 h64_2 h65; rw [spec_DrawPlaces.c5]; exact (spec_DrawPlaces.t5 _ k x5 h64_0 h64_1 h64_2 h65).trans (cd (bn (fun t3 => (cd (i5 _ _ _ _ _) rfl))) rfl)
set_option maxRecDepth 100000 in
theorem spec_DrawPlaces.oke (k : Nat) (a0 : List Int) : goF Try.f37 spec_DrawPlaces.ctx spec_DrawPlaces.sp 0 spec_DrawPlaces.en (k + 1) [.code (body Try.f37)] (startSt [.row 0 .t5 a0] []) = (spec_DrawPlaces.f k a0).map spec_DrawPlaces.e := by
  have i5 := spec_DrawPlaces.ok k
  rw [spec_DrawPlaces.f]; exact (spec_DrawPlaces.te _ k a0).trans (bn (fun t1 => (bn (fun t2 => (i5 _ _ _ _ _)))))
theorem spec_DrawPlaces.con (k : Nat) (a0 : List Int) (r) (h : spec_DrawPlaces.f k a0 = some r) : Contract Try.prog kit 37 [.row 0 .t5 a0] [] (spec_DrawPlaces.e r).1 (spec_DrawPlaces.e r).2.1 (spec_DrawPlaces.e r).2.2 :=
  con_okG kitOk mix (fun k => (CtxOk.cons (spec_l01New.xok k) (CtxOk.cons (spec_l01Byte.xok k) (CtxOk.cons (spec_l01Below.xok k) CtxOk.nil)))) (spec_DrawPlaces.oke k a0) h (by kernel_rfl) (by kernel_rfl) (by kernel_rfl) rfl (by kernel_rfl) rfl rfl
noncomputable def spec_DrawPlaces.x (k : Nat) : X := fun ins bs κ => match ins, bs with
  | [.row 0 .t5 a0], [] => (spec_DrawPlaces.f k a0).bind fun r => κ (spec_DrawPlaces.e r).1 (spec_DrawPlaces.e r).2.1 (spec_DrawPlaces.e r).2.2
  | _, _ => none
theorem spec_DrawPlaces.xok (k : Nat) : XOk 37 (spec_DrawPlaces.x k) := by
  intro ins bs κ res h
  unfold spec_DrawPlaces.x at h
  split at h
  · obtain ⟨r, hr, h⟩ := Option.bind_eq_some_iff.1 h
    exact ⟨_, _, _, spec_DrawPlaces.con k _ r hr, h⟩
  · cases h

/-! ### laws_FnSteps: function 6 -/
noncomputable def laws_FnSteps.sp : Nat → Option (Spec Ty) := fun r => none
noncomputable def laws_FnSteps.en : Option (Spec Ty) := none
noncomputable def laws_FnSteps.ctx (k : Nat) : Ctx Ty D := (cons 32 (laws_big.x k) (cons 33 (spec_DrawDoSteps.x k) (cons 34 (impl_DoSteps.x k) (cons 35 (spec_DoSteps.x k) (cons 36 (laws_sameFlash.x k) (cons 37 (spec_DrawPlaces.x k) (fun _ _ _ _ => none)))))))
noncomputable def laws_FnSteps.f (k : Nat) (a0 : List Int) : Option (Bool) := ((laws_big.f k a0).bind fun t1 => (if t1 = true then (some (true)) else ((spec_DrawDoSteps.f k a0).bind fun t2 => ((impl_DoSteps.f k t2.1 t2.2).bind fun t3 => ((spec_DoSteps.f k t2.1 t2.2).bind fun t4 => (if t3.2 = t4.2 then ((laws_sameFlash.f k t3.1 t4.1).bind fun t5 => (if t5 = true then (if t3.2 > (t2.2.length : Int) then (some (false)) else ((spec_DrawPlaces.f k a0).bind fun t6 => (if 0 < (t6.length : Int) then (if (w64 (t3.2 + 1)) = 0 then none else (if 0 ≤ (Int.tmod (rd_T3 t6 0) (w64 (t3.2 + 1))) then (if (Int.tmod (rd_T3 t6 0) (w64 (t3.2 + 1))) ≤ (t2.2.length : Int) then ((impl_DoSteps.f k t2.1 ((t2.2.drop 0).take ((Int.tmod (rd_T3 t6 0) (w64 (t3.2 + 1))).toNat - 0))).bind fun t7 => (if 0 ≤ (Int.tmod (rd_T3 t6 0) (w64 (t3.2 + 1))) then (if (Int.tmod (rd_T3 t6 0) (w64 (t3.2 + 1))) ≤ (t2.2.length : Int) then ((impl_DoSteps.f k t7.1 ((t2.2.drop ((Int.tmod (rd_T3 t6 0) (w64 (t3.2 + 1))).toNat)).take (t2.2.length - (Int.tmod (rd_T3 t6 0) (w64 (t3.2 + 1))).toNat))).bind fun t8 => (if t7.2 = (Int.tmod (rd_T3 t6 0) (w64 (t3.2 + 1))) then (if t8.2 = (w64 (t3.2 - (Int.tmod (rd_T3 t6 0) (w64 (t3.2 + 1))))) then ((laws_sameFlash.f k t3.1 t8.1).bind fun t9 => (some (t9))) else (some (false))) else (some (false)))) else none) else none)) else none) else none)) else none))) else (some (false)))) else (some (false))))))))
noncomputable def laws_FnSteps.e (r : Bool) : Res Ty D := (.sc (.bool r), [], [])
noncomputable abbrev laws_FnSteps.g (rec : List Item → St Ty D → R) (k : Nat) := go1 Try.f6 (laws_FnSteps.ctx k) laws_FnSteps.sp 0 laws_FnSteps.en rec
set_option maxRecDepth 100000 in
theorem laws_FnSteps.te (rec : List Item → St Ty D → R) (k : Nat) (a0 : List Int) : laws_FnSteps.g rec k [.code (body Try.f6)] (startSt [.row 0 .t5 a0] []) =
  (laws_big.f k a0).bind fun t1 => bif t1 then some (laws_FnSteps.e (true)) else (spec_DrawDoSteps.f k a0).bind fun t2 => (impl_DoSteps.f k t2.1 t2.2).bind fun t3 => (spec_DoSteps.f k t2.1 t2.2).bind fun t4 => bif !decide (t3.2 = t4.2) then some (laws_FnSteps.e (false)) else (laws_sameFlash.f k t3.1 t4.1).bind fun t5 => bif !t5 then some (laws_FnSteps.e (false)) else bif decide (t3.2 > (t2.2.length : Int)) then some (laws_FnSteps.e (false)) else (spec_DrawPlaces.f k a0).bind fun t6 => bif decide (0 < (t6.length : Int)) then bif !decide ((w64 (t3.2 + 1)) = 0) then bif decide (0 ≤ (Int.tmod (rd_T3 t6 0) (w64 (t3.2 + 1)))) then bif decide ((Int.tmod (rd_T3 t6 0) (w64 (t3.2 + 1))) ≤ (t2.2.length : Int)) then (impl_DoSteps.f k t2.1 ((t2.2.drop 0).take ((Int.tmod (rd_T3 t6 0) (w64 (t3.2 + 1))).toNat - 0))).bind fun t7 => bif decide (0 ≤ (Int.tmod (rd_T3 t6 0) (w64 (t3.2 + 1)))) then bif decide ((Int.tmod (rd_T3 t6 0) (w64 (t3.2 + 1))) ≤ (t2.2.length : Int)) then (impl_DoSteps.f k t7.1 ((t2.2.drop ((Int.tmod (rd_T3 t6 0) (w64 (t3.2 + 1))).toNat)).take (t2.2.length - (Int.tmod (rd_T3 t6 0) (w64 (t3.2 + 1))).toNat))).bind fun t8 => bif decide (t7.2 = (Int.tmod (rd_T3 t6 0) (w64 (t3.2 + 1)))) then bif decide (t8.2 = (w64 (t3.2 - (Int.tmod (rd_T3 t6 0) (w64 (t3.2 + 1)))))) then (laws_sameFlash.f k t3.1 t8.1).bind fun t9 => some (laws_FnSteps.e (t9)) else some (laws_FnSteps.e (false)) else some (laws_FnSteps.e (false)) else none else none else none else none else none else none := by kernel_rfl
set_option maxRecDepth 100000 in
theorem laws_FnSteps.oke (k : Nat) (a0 : List Int) : goF Try.f6 laws_FnSteps.ctx laws_FnSteps.sp 0 laws_FnSteps.en (k + 1) [.code (body Try.f6)] (startSt [.row 0 .t5 a0] []) = (laws_FnSteps.f k a0).map laws_FnSteps.e := by
  rw [laws_FnSteps.f]; exact (laws_FnSteps.te _ k a0).trans (bn (fun t1 => (cb rfl (bn (fun t2 => (bn (fun t3 => (bn (fun t4 => (nd rfl (bn (fun t5 => (nb rfl (cd rfl (bn (fun t6 => (cd (nd (cd (cd (bn (fun t7 => (cd (cd (bn (fun t8 => (cd (cd (bn (fun t9 => rfl)) rfl) rfl))) rfl) rfl))) rfl) rfl) rfl) rfl)))))))))))))))))
theorem laws_FnSteps.con (k : Nat) (a0 : List Int) (r) (h : laws_FnSteps.f k a0 = some r) : Contract Try.prog kit 6 [.row 0 .t5 a0] [] (laws_FnSteps.e r).1 (laws_FnSteps.e r).2.1 (laws_FnSteps.e r).2.2 :=
  con_okG kitOk mix (fun k => (CtxOk.cons (laws_big.xok k) (CtxOk.cons (spec_DrawDoSteps.xok k) (CtxOk.cons (impl_DoSteps.xok k) (CtxOk.cons (spec_DoSteps.xok k) (CtxOk.cons (laws_sameFlash.xok k) (CtxOk.cons (spec_DrawPlaces.xok k) CtxOk.nil))))))) (laws_FnSteps.oke k a0) h (by kernel_rfl) (by kernel_rfl) (by kernel_rfl) rfl (by kernel_rfl) rfl rfl
noncomputable def laws_FnSteps.x (k : Nat) : X := fun ins bs κ => match ins, bs with
  | [.row 0 .t5 a0], [] => (laws_FnSteps.f k a0).bind fun r => κ (laws_FnSteps.e r).1 (laws_FnSteps.e r).2.1 (laws_FnSteps.e r).2.2
  | _, _ => none
theorem laws_FnSteps.xok (k : Nat) : XOk 6 (laws_FnSteps.x k) := by
  intro ins bs κ res h
  unfold laws_FnSteps.x at h
  split at h
  · obtain ⟨r, hr, h⟩ := Option.bind_eq_some_iff.1 h
    exact ⟨_, _, _, laws_FnSteps.con k _ r hr, h⟩
  · cases h

/-! ### impl_Torment: function 22 -/
noncomputable def impl_Torment.sp : Nat → Option (Spec Ty) := fun r => bif Nat.beq r 10 then some ⟨[(4, .box [.own .t83]), (6, .box [.own .t83]), (9, .elt), (50, .keep), (51, .keep)], []⟩ else none
noncomputable def impl_Torment.en : Option (Spec Ty) := some ⟨[(4, .box [.own .t83]), (5, .keep)], []⟩
noncomputable def impl_Torment.s10 (x9_i : Nat) (x50 : Int) (x51 : Int) (h65 : List S83) (h67 : List S83) : St Ty D := ⟨(Env.put (Env.put (Env.put (Env.put (Env.put E (some 4) (.pt 64 0 0)) (some 6) (.pt 66 0 0)) (some 9) (.pt 67 x9_i 0)) (some 50) (.sc (.int .i64 x50))) (some 51) (.sc (.int .i64 x51))), Heap.put H0 [(65, some (.rowb .t83 h65 0)), (64, some (.box [.sl 65 none])), (67, some (.rowb .t83 h67 0)), (66, some (.box [.sl 67 none]))], 1000⟩
noncomputable def impl_Torment.ctx (k : Nat) : Ctx Ty D := (cons 58 (impl_copyFlash.x k) (cons 59 (impl_DoStep.x k) (fun _ _ _ _ => none)))
noncomputable def impl_Torment.c10 : Nat → Nat → Int → Int → (List S83) → (List S83) → Option ((List S83) × Bool)
  | 0, _, _, _, _, _ => none
  | k + 1, x9_i, x50, x51, h65, h67 => (if x51 < x50 then (if 0 ≤ x51 then (if x51 < (((rd_T83 h67 x9_i).f2).length : Int) then (impl_Torment.c10 k x9_i x50 (w64 (x51 + 1)) h65 (h67.set x9_i (S83.mk ((rd_T83 h67 x9_i).f0) ((rd_T83 h67 x9_i).f1) (((rd_T83 h67 x9_i).f2).set x51.toNat (S101.mk 2 (⟨#[]⟩ : ByteArray)))))) else none) else none) else (some (h67, true)))
noncomputable def impl_Torment.f (k : Nat) (a0_0 : List S83) (a1_0 : Int) (a1_1 : Int) (a1_2 : Int) (a1_3 : ByteArray) : Option ((List S83) × Bool) := ((impl_copyFlash.f k a0_0).bind fun t1 => ((impl_DoStep.f k a0_0 a1_0 a1_1 a1_2 a1_3).bind fun t2 => (if t2.2 = true then (if 0 ≤ a1_1 then (if a1_1 < (t1.length : Int) then (if a1_0 = 1 then (if 0 ≤ (w64 (Int.tdiv (a1_3.size : Int) 2)) then (if (w64 (Int.tdiv (a1_3.size : Int) 2)) ≤ (a1_3.size : Int) then (if 0 ≤ a1_2 then (if a1_2 < (((rd_T83 t1 a1_1).f2).length : Int) then (some ((t1.set a1_1.toNat (S83.mk ((rd_T83 t1 a1_1).f0) ((rd_T83 t1 a1_1).f1) (((rd_T83 t1 a1_1).f2).set a1_2.toNat (S101.mk 2 (a1_3.extract 0 ((w64 (Int.tdiv (a1_3.size : Int) 2)).toNat)))))), true)) else none) else none) else none) else none) else (impl_Torment.c10 k a1_1.toNat (((rd_T83 t1 a1_1).f2).length : Int) 0 ([] : List S83) t1)) else none) else none) else (some (t1, false)))))
noncomputable def impl_Torment.e (r : (List S83) × Bool) : Res Ty D := (.tu [.ag [.sl 0 none], .sc (.bool r.2)], [], [.rowb .t83 r.1 0])
noncomputable abbrev impl_Torment.g (rec : List Item → St Ty D → R) (k : Nat) := go1 Try.f22 (impl_Torment.ctx k) impl_Torment.sp 0 impl_Torment.en rec
set_option maxRecDepth 100000 in
theorem impl_Torment.t10 (rec : List Item → St Ty D → R) (k : Nat) (x9_i : Nat) (x50 : Int) (x51 : Int) (h65 : List S83) (h67 : List S83) : impl_Torment.g rec k (td Try.f22 10) (impl_Torment.s10 x9_i x50 x51 h65 h67) =
  bif decide (x51 < x50) then bif decide (0 ≤ x51) then bif decide (x51 < (((rd_T83 h67 x9_i).f2).length : Int)) then rec (td Try.f22 10) (impl_Torment.s10 x9_i x50 (w64 (x51 + 1)) h65 (h67.set x9_i (S83.mk ((rd_T83 h67 x9_i).f0) ((rd_T83 h67 x9_i).f1) (((rd_T83 h67 x9_i).f2).set x51.toNat (S101.mk 2 (⟨#[]⟩ : ByteArray)))))) else none else none else some (impl_Torment.e (h67, true)) := by kernel_rfl
set_option maxRecDepth 100000 in
theorem impl_Torment.te (rec : List Item → St Ty D → R) (k : Nat) (a0_0 : List S83) (a1_0 : Int) (a1_1 : Int) (a1_2 : Int) (a1_3 : ByteArray) : impl_Torment.g rec k [.code (body Try.f22)] (startSt [.ag [.row 0 .t83 a0_0], .ag [.sc (.int .i64 a1_0), .sc (.int .i64 a1_1), .sc (.int .i64 a1_2), .sc (.string a1_3)]] []) =
  (impl_copyFlash.f k a0_0).bind fun t1 => (impl_DoStep.f k a0_0 a1_0 a1_1 a1_2 a1_3).bind fun t2 => bif !t2.2 then some (impl_Torment.e (t1, false)) else bif decide (0 ≤ a1_1) then bif decide (a1_1 < (t1.length : Int)) then bif decide (a1_0 = 1) then bif decide (0 ≤ (w64 (Int.tdiv (a1_3.size : Int) 2))) then bif decide ((w64 (Int.tdiv (a1_3.size : Int) 2)) ≤ (a1_3.size : Int)) then bif decide (0 ≤ a1_2) then bif decide (a1_2 < (((rd_T83 t1 a1_1).f2).length : Int)) then some (impl_Torment.e ((t1.set a1_1.toNat (S83.mk ((rd_T83 t1 a1_1).f0) ((rd_T83 t1 a1_1).f1) (((rd_T83 t1 a1_1).f2).set a1_2.toNat (S101.mk 2 (a1_3.extract 0 ((w64 (Int.tdiv (a1_3.size : Int) 2)).toNat)))))), true)) else none else none else none else none else rec (td Try.f22 10) (impl_Torment.s10 a1_1.toNat (((rd_T83 t1 a1_1).f2).length : Int) 0 ([] : List S83) t1) else none else none := by kernel_rfl
set_option maxRecDepth 100000 in
theorem impl_Torment.ok : ∀ k : Nat, (∀ (x9_i : Nat) (x50 : Int) (x51 : Int) (h65 : List S83) (h67 : List S83), goF Try.f22 impl_Torment.ctx impl_Torment.sp 0 impl_Torment.en k (td Try.f22 10) (impl_Torment.s10 x9_i x50 x51 h65 h67) = (impl_Torment.c10 k x9_i x50 x51 h65 h67).map impl_Torment.e)
  | 0 => fun _ _ _ _ _ => rfl
  | k + 1 => by
    have ih := impl_Torment.ok k
    have i10 := ih
    intro x9_i x50 x51 h65 h67; rw [impl_Torment.c10]; exact (impl_Torment.t10 _ k x9_i x50 x51 h65 h67).trans (cd (cd (cd (i10 _ _ _ _ _) rfl) rfl) rfl)
set_option maxRecDepth 100000 in
theorem impl_Torment.oke (k : Nat) (a0_0 : List S83) (a1_0 : Int) (a1_1 : Int) (a1_2 : Int) (a1_3 : ByteArray) : goF Try.f22 impl_Torment.ctx impl_Torment.sp 0 impl_Torment.en (k + 1) [.code (body Try.f22)] (startSt [.ag [.row 0 .t83 a0_0], .ag [.sc (.int .i64 a1_0), .sc (.int .i64 a1_1), .sc (.int .i64 a1_2), .sc (.string a1_3)]] []) = (impl_Torment.f k a0_0 a1_0 a1_1 a1_2 a1_3).map impl_Torment.e := by
  have i10 := impl_Torment.ok k
  rw [impl_Torment.f]; exact (impl_Torment.te _ k a0_0 a1_0 a1_1 a1_2 a1_3).trans (bn (fun t1 => (bn (fun t2 => (nb rfl (cd (cd (cd (cd (cd (cd (cd rfl rfl) rfl) rfl) rfl) (i10 _ _ _ _ _)) rfl) rfl))))))
theorem impl_Torment.con (k : Nat) (a0_0 : List S83) (a1_0 : Int) (a1_1 : Int) (a1_2 : Int) (a1_3 : ByteArray) (r) (h : impl_Torment.f k a0_0 a1_0 a1_1 a1_2 a1_3 = some r) : Contract Try.prog kit 22 [.ag [.row 0 .t83 a0_0], .ag [.sc (.int .i64 a1_0), .sc (.int .i64 a1_1), .sc (.int .i64 a1_2), .sc (.string a1_3)]] [] (impl_Torment.e r).1 (impl_Torment.e r).2.1 (impl_Torment.e r).2.2 :=
  con_okG kitOk mix (fun k => (CtxOk.cons (impl_copyFlash.xok k) (CtxOk.cons (impl_DoStep.xok k) CtxOk.nil))) (impl_Torment.oke k a0_0 a1_0 a1_1 a1_2 a1_3) h (by kernel_rfl) (by kernel_rfl) (by kernel_rfl) rfl (by kernel_rfl) rfl rfl
noncomputable def impl_Torment.x (k : Nat) : X := fun ins bs κ => match ins, bs with
  | [.ag [.row 0 .t83 a0_0], .ag [.sc (.int .i64 a1_0), .sc (.int .i64 a1_1), .sc (.int .i64 a1_2), .sc (.string a1_3)]], [] => (impl_Torment.f k a0_0 a1_0 a1_1 a1_2 a1_3).bind fun r => κ (impl_Torment.e r).1 (impl_Torment.e r).2.1 (impl_Torment.e r).2.2
  | _, _ => none
theorem impl_Torment.xok (k : Nat) : XOk 22 (impl_Torment.x k) := by
  intro ins bs κ res h
  unfold impl_Torment.x at h
  split at h
  · obtain ⟨r, hr, h⟩ := Option.bind_eq_some_iff.1 h
    exact ⟨_, _, _, impl_Torment.con k _ _ _ _ _ r hr, h⟩
  · cases h

/-! ### spec_Torment: function 19 -/
noncomputable def spec_Torment.sp : Nat → Option (Spec Ty) := fun r => bif Nat.beq r 9 then some ⟨[(3, .box [.keep, .keep, .keep, .keep]), (4, .box [.own .t83]), (8, .box [.own .t83]), (9, .keep)], []⟩ else none
noncomputable def spec_Torment.en : Option (Spec Ty) := some ⟨[(4, .box [.own .t83]), (5, .keep)], []⟩
noncomputable def spec_Torment.s9 (x9 : Int) (h64_0 : Int) (h64_1 : Int) (h64_2 : Int) (h64_3 : ByteArray) (h66 : List S83) (h68 : List S83) : St Ty D := ⟨(Env.put (Env.put (Env.put (Env.put E (some 3) (.pt 64 0 0)) (some 4) (.pt 65 0 0)) (some 8) (.pt 67 0 0)) (some 9) (.sc (.int .i64 x9))), Heap.put H0 [(64, some (.box [.sc (.int .i64 h64_0), .sc (.int .i64 h64_1), .sc (.int .i64 h64_2), .sc (.string h64_3)])), (66, some (.rowb .t83 h66 0)), (65, some (.box [.sl 66 none])), (68, some (.rowb .t83 h68 0)), (67, some (.box [.sl 68 none]))], 1000⟩
noncomputable def spec_Torment.ctx (k : Nat) : Ctx Ty D := (cons 55 (spec_DoStep.x k) (cons 56 (spec_l05Copy.x k) (fun _ _ _ _ => none)))
noncomputable def spec_Torment.c9 : Nat → Int → Int → Int → Int → ByteArray → (List S83) → (List S83) → Option ((List S83) × Bool)
  | 0, _, _, _, _, _, _, _ => none
  | k + 1, x9, h64_0, h64_1, h64_2, h64_3, h66, h68 => (if 0 ≤ h64_1 then (if h64_1 < (h68.length : Int) then (if x9 < (((rd_T83 h68 h64_1).f2).length : Int) then (if 0 ≤ h64_1 then (if h64_1 < (h68.length : Int) then (if 0 ≤ x9 then (if x9 < (((rd_T83 h68 h64_1).f2).length : Int) then (spec_Torment.c9 k (w64 (x9 + 1)) h64_0 h64_1 h64_2 h64_3 h66 (h68.set h64_1.toNat (S83.mk ((rd_T83 h68 h64_1).f0) ((rd_T83 h68 h64_1).f1) (((rd_T83 h68 h64_1).f2).set x9.toNat (S101.mk 2 (⟨#[]⟩ : ByteArray)))))) else none) else none) else none) else none) else (some (h68, true))) else none) else none)
noncomputable def spec_Torment.f (k : Nat) (a0_0 : List S83) (a1_0 : Int) (a1_1 : Int) (a1_2 : Int) (a1_3 : ByteArray) : Option ((List S83) × Bool) := ((spec_DoStep.f k a0_0 a1_0 a1_1 a1_2 a1_3).bind fun t1 => ((spec_l05Copy.f k a0_0).bind fun t2 => (if t1.2 = true then (if a1_0 = 1 then (if 0 ≤ a1_1 then (if a1_1 < (t2.length : Int) then (if 0 ≤ (w64 (Int.tdiv (a1_3.size : Int) 2)) then (if (w64 (Int.tdiv (a1_3.size : Int) 2)) ≤ (a1_3.size : Int) then (if 0 ≤ a1_2 then (if a1_2 < (((rd_T83 t2 a1_1).f2).length : Int) then (some ((t2.set a1_1.toNat (S83.mk ((rd_T83 t2 a1_1).f0) ((rd_T83 t2 a1_1).f1) (((rd_T83 t2 a1_1).f2).set a1_2.toNat (S101.mk 2 (a1_3.extract 0 ((w64 (Int.tdiv (a1_3.size : Int) 2)).toNat)))))), true)) else none) else none) else none) else none) else none) else none) else (spec_Torment.c9 k 0 a1_0 a1_1 a1_2 a1_3 ([] : List S83) t2)) else (some (t2, false)))))
noncomputable def spec_Torment.e (r : (List S83) × Bool) : Res Ty D := (.tu [.ag [.sl 0 none], .sc (.bool r.2)], [], [.rowb .t83 r.1 0])
noncomputable abbrev spec_Torment.g (rec : List Item → St Ty D → R) (k : Nat) := go1 Try.f19 (spec_Torment.ctx k) spec_Torment.sp 0 spec_Torment.en rec
set_option maxRecDepth 100000 in
theorem spec_Torment.t9 (rec : List Item → St Ty D → R) (k : Nat) (x9 : Int) (h64_0 : Int) (h64_1 : Int) (h64_2 : Int) (h64_3 : ByteArray) (h66 : List S83) (h68 : List S83) : spec_Torment.g rec k (td Try.f19 9) (spec_Torment.s9 x9 h64_0 h64_1 h64_2 h64_3 h66 h68) =
  bif decide (0 ≤ h64_1) then bif decide (h64_1 < (h68.length : Int)) then bif decide (x9 < (((rd_T83 h68 h64_1).f2).length : Int)) then bif decide (0 ≤ h64_1) then bif decide (h64_1 < (h68.length : Int)) then bif decide (0 ≤ x9) then bif decide (x9 < (((rd_T83 h68 h64_1).f2).length : Int)) then rec (td Try.f19 9) (spec_Torment.s9 (w64 (x9 + 1)) h64_0 h64_1 h64_2 h64_3 h66 (h68.set h64_1.toNat (S83.mk ((rd_T83 h68 h64_1).f0) ((rd_T83 h68 h64_1).f1) (((rd_T83 h68 h64_1).f2).set x9.toNat (S101.mk 2 (⟨#[]⟩ : ByteArray)))))) else none else none else none else none else some (spec_Torment.e (h68, true)) else none else none := by kernel_rfl
set_option maxRecDepth 100000 in
theorem spec_Torment.te (rec : List Item → St Ty D → R) (k : Nat) (a0_0 : List S83) (a1_0 : Int) (a1_1 : Int) (a1_2 : Int) (a1_3 : ByteArray) : spec_Torment.g rec k [.code (body Try.f19)] (startSt [.ag [.row 0 .t83 a0_0], .ag [.sc (.int .i64 a1_0), .sc (.int .i64 a1_1), .sc (.int .i64 a1_2), .sc (.string a1_3)]] []) =
  (spec_DoStep.f k a0_0 a1_0 a1_1 a1_2 a1_3).bind fun t1 => (spec_l05Copy.f k a0_0).bind fun t2 => bif !t1.2 then some (spec_Torment.e (t2, false)) else bif decide (a1_0 = 1) then bif decide (0 ≤ a1_1) then bif decide (a1_1 < (t2.length : Int)) then bif decide (0 ≤ (w64 (Int.tdiv (a1_3.size : Int) 2))) then bif decide ((w64 (Int.tdiv (a1_3.size : Int) 2)) ≤ (a1_3.size : Int)) then bif decide (0 ≤ a1_2) then bif decide (a1_2 < (((rd_T83 t2 a1_1).f2).length : Int)) then some (spec_Torment.e ((t2.set a1_1.toNat (S83.mk ((rd_T83 t2 a1_1).f0) ((rd_T83 t2 a1_1).f1) (((rd_T83 t2 a1_1).f2).set a1_2.toNat (S101.mk 2 (a1_3.extract 0 ((w64 (Int.tdiv (a1_3.size : Int) 2)).toNat)))))), true)) else none else none else none else none else none else none else rec (td Try.f19 9) (spec_Torment.s9 0 a1_0 a1_1 a1_2 a1_3 ([] : List S83) t2) := by kernel_rfl
set_option maxRecDepth 100000 in
theorem spec_Torment.ok : ∀ k : Nat, (∀ (x9 : Int) (h64_0 : Int) (h64_1 : Int) (h64_2 : Int) (h64_3 : ByteArray) (h66 : List S83) (h68 : List S83), goF Try.f19 spec_Torment.ctx spec_Torment.sp 0 spec_Torment.en k (td Try.f19 9) (spec_Torment.s9 x9 h64_0 h64_1 h64_2 h64_3 h66 h68) = (spec_Torment.c9 k x9 h64_0 h64_1 h64_2 h64_3 h66 h68).map spec_Torment.e)
  | 0 => fun _ _ _ _ _ _ _ => rfl
  | k + 1 => by
    have ih := spec_Torment.ok k
    have i9 := ih
    intro x9 h64_0 h64_1 h64_2 h64_3 h66 h68; rw [spec_Torment.c9]; exact (spec_Torment.t9 _ k x9 h64_0 h64_1 h64_2 h64_3 h66 h68).trans (cd (cd (cd (cd (cd (cd (cd (i9 _ _ _ _ _ _ _) rfl) rfl) rfl) rfl) rfl) rfl) rfl)
set_option maxRecDepth 100000 in
theorem spec_Torment.oke (k : Nat) (a0_0 : List S83) (a1_0 : Int) (a1_1 : Int) (a1_2 : Int) (a1_3 : ByteArray) : goF Try.f19 spec_Torment.ctx spec_Torment.sp 0 spec_Torment.en (k + 1) [.code (body Try.f19)] (startSt [.ag [.row 0 .t83 a0_0], .ag [.sc (.int .i64 a1_0), .sc (.int .i64 a1_1), .sc (.int .i64 a1_2), .sc (.string a1_3)]] []) = (spec_Torment.f k a0_0 a1_0 a1_1 a1_2 a1_3).map spec_Torment.e := by
  have i9 := spec_Torment.ok k
  rw [spec_Torment.f]; exact (spec_Torment.te _ k a0_0 a1_0 a1_1 a1_2 a1_3).trans (bn (fun t1 => (bn (fun t2 => (nb rfl (cd (cd (cd (cd (cd (cd (cd rfl rfl) rfl) rfl) rfl) rfl) rfl) (i9 _ _ _ _ _ _ _)))))))
theorem spec_Torment.con (k : Nat) (a0_0 : List S83) (a1_0 : Int) (a1_1 : Int) (a1_2 : Int) (a1_3 : ByteArray) (r) (h : spec_Torment.f k a0_0 a1_0 a1_1 a1_2 a1_3 = some r) : Contract Try.prog kit 19 [.ag [.row 0 .t83 a0_0], .ag [.sc (.int .i64 a1_0), .sc (.int .i64 a1_1), .sc (.int .i64 a1_2), .sc (.string a1_3)]] [] (spec_Torment.e r).1 (spec_Torment.e r).2.1 (spec_Torment.e r).2.2 :=
  con_okG kitOk mix (fun k => (CtxOk.cons (spec_DoStep.xok k) (CtxOk.cons (spec_l05Copy.xok k) CtxOk.nil))) (spec_Torment.oke k a0_0 a1_0 a1_1 a1_2 a1_3) h (by kernel_rfl) (by kernel_rfl) (by kernel_rfl) rfl (by kernel_rfl) rfl rfl
noncomputable def spec_Torment.x (k : Nat) : X := fun ins bs κ => match ins, bs with
  | [.ag [.row 0 .t83 a0_0], .ag [.sc (.int .i64 a1_0), .sc (.int .i64 a1_1), .sc (.int .i64 a1_2), .sc (.string a1_3)]], [] => (spec_Torment.f k a0_0 a1_0 a1_1 a1_2 a1_3).bind fun r => κ (spec_Torment.e r).1 (spec_Torment.e r).2.1 (spec_Torment.e r).2.2
  | _, _ => none
theorem spec_Torment.xok (k : Nat) : XOk 19 (spec_Torment.x k) := by
  intro ins bs κ res h
  unfold spec_Torment.x at h
  split at h
  · obtain ⟨r, hr, h⟩ := Option.bind_eq_some_iff.1 h
    exact ⟨_, _, _, spec_Torment.con k _ _ _ _ _ r hr, h⟩
  · cases h
end Go.Proofs.Ytklkhnomnanpoaa.M2

/- Plain runs of functions: each is a plain Lean function, and keeps its contract. Written by a program of this session. -/
namespace Go.Proofs.Ytklkhnomnanpoaa.M2
open Go Go.Proofs.Ytklkhnomnanpoaa.PK
set_option linter.unusedVariables false
set_option linter.unusedSimpArgs false
set_option maxHeartbeats 4000000
/-! ### spec_CutSteps: function 27 -/
noncomputable def spec_CutSteps.sp : Nat → Option (Spec Ty) := fun r => none
noncomputable def spec_CutSteps.en : Option (Spec Ty) := some ⟨[(8, .box [.own .t83]), (9, .keep)], []⟩
noncomputable def spec_CutSteps.ctx (k : Nat) : Ctx Ty D := (cons 19 (spec_Torment.x k) (cons 35 (spec_DoSteps.x k) (cons 56 (spec_l05Copy.x k) (cons 63 (spec_l01In.x k) (fun _ _ _ _ => none)))))
noncomputable def spec_CutSteps.f (k : Nat) (a0_0 : List S83) (a1 : List S56) (a2 : Int) (a3 : Bool) : Option ((List S83) × Bool) := ((spec_l01In.f k a2 0 (a1.length : Int)).bind fun t1 => (if t1 = true then (if 0 ≤ a2 then (if a2 ≤ (a1.length : Int) then ((spec_DoSteps.f k a0_0 ((a1.take a2.toNat).drop 0)).bind fun t3 => (if t3.2 < a2 then ((spec_l05Copy.f k a0_0).bind fun t4 => (some (t4, false))) else (if a3 = true then (if a2 = (a1.length : Int) then (some (t3.1, true)) else (if 0 ≤ a2 then (if a2 < (a1.length : Int) then ((spec_Torment.f k t3.1 ((rd_T56 a1 a2).f0) ((rd_T56 a1 a2).f1) ((rd_T56 a1 a2).f2) ((rd_T56 a1 a2).f3)).bind fun t5 => (if t5.2 = true then (some (t5.1, true)) else ((spec_l05Copy.f k a0_0).bind fun t6 => (some (t6, false))))) else none) else none)) else (some (t3.1, true))))) else none) else none) else ((spec_l05Copy.f k a0_0).bind fun t2 => (some (t2, false)))))
noncomputable def spec_CutSteps.e (r : (List S83) × Bool) : Res Ty D := (.tu [.ag [.sl 0 none], .sc (.bool r.2)], [], [.rowb .t83 r.1 0])
noncomputable abbrev spec_CutSteps.g (rec : List Item → St Ty D → R) (k : Nat) := go1 Try.f27 (spec_CutSteps.ctx k) spec_CutSteps.sp 0 spec_CutSteps.en rec
set_option maxRecDepth 100000 in
theorem spec_CutSteps.te (rec : List Item → St Ty D → R) (k : Nat) (a0_0 : List S83) (a1 : List S56) (a2 : Int) (a3 : Bool) : spec_CutSteps.g rec k [.code (body Try.f27)] (startSt [.ag [.row 0 .t83 a0_0], .row 0 .t56 a1, .sc (.int .i64 a2), .sc (.bool a3)] []) =
  (spec_l01In.f k a2 0 (a1.length : Int)).bind fun t1 => bif !t1 then (spec_l05Copy.f k a0_0).bind fun t2 => some (spec_CutSteps.e (t2, false)) else bif decide (0 ≤ a2) then bif decide (a2 ≤ (a1.length : Int)) then (spec_DoSteps.f k a0_0 ((a1.take a2.toNat).drop 0)).bind fun t3 => bif decide (t3.2 < a2) then (spec_l05Copy.f k a0_0).bind fun t4 => some (spec_CutSteps.e (t4, false)) else bif !a3 then some (spec_CutSteps.e (t3.1, true)) else bif decide (a2 = (a1.length : Int)) then some (spec_CutSteps.e (t3.1, true)) else bif decide (0 ≤ a2) then bif decide (a2 < (a1.length : Int)) then (spec_Torment.f k t3.1 ((rd_T56 a1 a2).f0) ((rd_T56 a1 a2).f1) ((rd_T56 a1 a2).f2) ((rd_T56 a1 a2).f3)).bind fun t5 => bif !t5.2 then (spec_l05Copy.f k a0_0).bind fun t6 => some (spec_CutSteps.e (t6, false)) else some (spec_CutSteps.e (t5.1, true)) else none else none else none else none := by kernel_rfl
set_option maxRecDepth 100000 in
theorem spec_CutSteps.oke (k : Nat) (a0_0 : List S83) (a1 : List S56) (a2 : Int) (a3 : Bool) : goF Try.f27 spec_CutSteps.ctx spec_CutSteps.sp 0 spec_CutSteps.en (k + 1) [.code (body Try.f27)] (startSt [.ag [.row 0 .t83 a0_0], .row 0 .t56 a1, .sc (.int .i64 a2), .sc (.bool a3)] []) = (spec_CutSteps.f k a0_0 a1 a2 a3).map spec_CutSteps.e := by
  rw [spec_CutSteps.f]; exact (spec_CutSteps.te _ k a0_0 a1 a2 a3).trans (bn (fun t1 => (nb (bn (fun t2 => rfl)) (cd (cd (bn (fun t3 => (cd (bn (fun t4 => rfl)) (nb rfl (cd rfl (cd (cd (bn (fun t5 => (nb (bn (fun t6 => rfl)) rfl))) rfl) rfl)))))) rfl) rfl))))
theorem spec_CutSteps.con (k : Nat) (a0_0 : List S83) (a1 : List S56) (a2 : Int) (a3 : Bool) (r) (h : spec_CutSteps.f k a0_0 a1 a2 a3 = some r) : Contract Try.prog kit 27 [.ag [.row 0 .t83 a0_0], .row 0 .t56 a1, .sc (.int .i64 a2), .sc (.bool a3)] [] (spec_CutSteps.e r).1 (spec_CutSteps.e r).2.1 (spec_CutSteps.e r).2.2 :=
  con_okG kitOk mix (fun k => (CtxOk.cons (spec_Torment.xok k) (CtxOk.cons (spec_DoSteps.xok k) (CtxOk.cons (spec_l05Copy.xok k) (CtxOk.cons (spec_l01In.xok k) CtxOk.nil))))) (spec_CutSteps.oke k a0_0 a1 a2 a3) h (by kernel_rfl) (by kernel_rfl) (by kernel_rfl) rfl (by kernel_rfl) rfl rfl
noncomputable def spec_CutSteps.x (k : Nat) : X := fun ins bs κ => match ins, bs with
  | [.ag [.row 0 .t83 a0_0], .row 0 .t56 a1, .sc (.int .i64 a2), .sc (.bool a3)], [] => (spec_CutSteps.f k a0_0 a1 a2 a3).bind fun r => κ (spec_CutSteps.e r).1 (spec_CutSteps.e r).2.1 (spec_CutSteps.e r).2.2
  | _, _ => none
theorem spec_CutSteps.xok (k : Nat) : XOk 27 (spec_CutSteps.x k) := by
  intro ins bs κ res h
  unfold spec_CutSteps.x at h
  split at h
  · obtain ⟨r, hr, h⟩ := Option.bind_eq_some_iff.1 h
    exact ⟨_, _, _, spec_CutSteps.con k _ _ _ _ r hr, h⟩
  · cases h

/-! ### impl_CutSteps: function 29 -/
noncomputable def impl_CutSteps.sp : Nat → Option (Spec Ty) := fun r => none
noncomputable def impl_CutSteps.en : Option (Spec Ty) := some ⟨[(8, .box [.own .t83]), (9, .keep)], []⟩
noncomputable def impl_CutSteps.ctx (k : Nat) : Ctx Ty D := (cons 22 (impl_Torment.x k) (cons 34 (impl_DoSteps.x k) (cons 58 (impl_copyFlash.x k) (cons 64 (impl_in.x k) (fun _ _ _ _ => none)))))
noncomputable def impl_CutSteps.f (k : Nat) (a0_0 : List S83) (a1 : List S56) (a2 : Int) (a3 : Bool) : Option ((List S83) × Bool) := ((impl_in.f k a2 0 (a1.length : Int)).bind fun t1 => (if t1 = true then (if 0 ≤ a2 then (if a2 ≤ (a1.length : Int) then ((impl_DoSteps.f k a0_0 ((a1.take a2.toNat).drop 0)).bind fun t3 => (if t3.2 < a2 then ((impl_copyFlash.f k a0_0).bind fun t4 => (some (t4, false))) else (if a3 = true then (if a2 = (a1.length : Int) then (some (t3.1, true)) else (if 0 ≤ a2 then (if a2 < (a1.length : Int) then ((impl_Torment.f k t3.1 ((rd_T56 a1 a2).f0) ((rd_T56 a1 a2).f1) ((rd_T56 a1 a2).f2) ((rd_T56 a1 a2).f3)).bind fun t5 => (if t5.2 = true then (some (t5.1, true)) else ((impl_copyFlash.f k a0_0).bind fun t6 => (some (t6, false))))) else none) else none)) else (some (t3.1, true))))) else none) else none) else ((impl_copyFlash.f k a0_0).bind fun t2 => (some (t2, false)))))
noncomputable def impl_CutSteps.e (r : (List S83) × Bool) : Res Ty D := (.tu [.ag [.sl 0 none], .sc (.bool r.2)], [], [.rowb .t83 r.1 0])
noncomputable abbrev impl_CutSteps.g (rec : List Item → St Ty D → R) (k : Nat) := go1 Try.f29 (impl_CutSteps.ctx k) impl_CutSteps.sp 0 impl_CutSteps.en rec
set_option maxRecDepth 100000 in
theorem impl_CutSteps.te (rec : List Item → St Ty D → R) (k : Nat) (a0_0 : List S83) (a1 : List S56) (a2 : Int) (a3 : Bool) : impl_CutSteps.g rec k [.code (body Try.f29)] (startSt [.ag [.row 0 .t83 a0_0], .row 0 .t56 a1, .sc (.int .i64 a2), .sc (.bool a3)] []) =
  (impl_in.f k a2 0 (a1.length : Int)).bind fun t1 => bif !t1 then (impl_copyFlash.f k a0_0).bind fun t2 => some (impl_CutSteps.e (t2, false)) else bif decide (0 ≤ a2) then bif decide (a2 ≤ (a1.length : Int)) then (impl_DoSteps.f k a0_0 ((a1.take a2.toNat).drop 0)).bind fun t3 => bif decide (t3.2 < a2) then (impl_copyFlash.f k a0_0).bind fun t4 => some (impl_CutSteps.e (t4, false)) else bif !a3 then some (impl_CutSteps.e (t3.1, true)) else bif decide (a2 = (a1.length : Int)) then some (impl_CutSteps.e (t3.1, true)) else bif decide (0 ≤ a2) then bif decide (a2 < (a1.length : Int)) then (impl_Torment.f k t3.1 ((rd_T56 a1 a2).f0) ((rd_T56 a1 a2).f1) ((rd_T56 a1 a2).f2) ((rd_T56 a1 a2).f3)).bind fun t5 => bif !t5.2 then (impl_copyFlash.f k a0_0).bind fun t6 => some (impl_CutSteps.e (t6, false)) else some (impl_CutSteps.e (t5.1, true)) else none else none else none else none := by kernel_rfl
set_option maxRecDepth 100000 in
theorem impl_CutSteps.oke (k : Nat) (a0_0 : List S83) (a1 : List S56) (a2 : Int) (a3 : Bool) : goF Try.f29 impl_CutSteps.ctx impl_CutSteps.sp 0 impl_CutSteps.en (k + 1) [.code (body Try.f29)] (startSt [.ag [.row 0 .t83 a0_0], .row 0 .t56 a1, .sc (.int .i64 a2), .sc (.bool a3)] []) = (impl_CutSteps.f k a0_0 a1 a2 a3).map impl_CutSteps.e := by
  rw [impl_CutSteps.f]; exact (impl_CutSteps.te _ k a0_0 a1 a2 a3).trans (bn (fun t1 => (nb (bn (fun t2 => rfl)) (cd (cd (bn (fun t3 => (cd (bn (fun t4 => rfl)) (nb rfl (cd rfl (cd (cd (bn (fun t5 => (nb (bn (fun t6 => rfl)) rfl))) rfl) rfl)))))) rfl) rfl))))
theorem impl_CutSteps.con (k : Nat) (a0_0 : List S83) (a1 : List S56) (a2 : Int) (a3 : Bool) (r) (h : impl_CutSteps.f k a0_0 a1 a2 a3 = some r) : Contract Try.prog kit 29 [.ag [.row 0 .t83 a0_0], .row 0 .t56 a1, .sc (.int .i64 a2), .sc (.bool a3)] [] (impl_CutSteps.e r).1 (impl_CutSteps.e r).2.1 (impl_CutSteps.e r).2.2 :=
  con_okG kitOk mix (fun k => (CtxOk.cons (impl_Torment.xok k) (CtxOk.cons (impl_DoSteps.xok k) (CtxOk.cons (impl_copyFlash.xok k) (CtxOk.cons (impl_in.xok k) CtxOk.nil))))) (impl_CutSteps.oke k a0_0 a1 a2 a3) h (by kernel_rfl) (by kernel_rfl) (by kernel_rfl) rfl (by kernel_rfl) rfl rfl
noncomputable def impl_CutSteps.x (k : Nat) : X := fun ins bs κ => match ins, bs with
  | [.ag [.row 0 .t83 a0_0], .row 0 .t56 a1, .sc (.int .i64 a2), .sc (.bool a3)], [] => (impl_CutSteps.f k a0_0 a1 a2 a3).bind fun r => κ (impl_CutSteps.e r).1 (impl_CutSteps.e r).2.1 (impl_CutSteps.e r).2.2
  | _, _ => none
theorem impl_CutSteps.xok (k : Nat) : XOk 29 (impl_CutSteps.x k) := by
  intro ins bs κ res h
  unfold impl_CutSteps.x at h
  split at h
  · obtain ⟨r, hr, h⟩ := Option.bind_eq_some_iff.1 h
    exact ⟨_, _, _, impl_CutSteps.con k _ _ _ _ r hr, h⟩
  · cases h

/-! ### spec_l01Place: function 72 -/
noncomputable def spec_l01Place.sp : Nat → Option (Spec Ty) := fun r => none
noncomputable def spec_l01Place.en : Option (Spec Ty) := none
noncomputable def spec_l01Place.ctx (k : Nat) : Ctx Ty D := (cons 71 (spec_l01Below.x k) (cons 73 (spec_l01Once.x k) (cons 94 (spec_l01PickInt.x k) (fun _ _ _ _ => none))))
noncomputable def spec_l01Place.f (k : Nat) (a1 : Int) (a0_0 : List Int) (a0_1 : Int) (a0_2 : Int) : Option (Int × (List Int) × Int × Int) := ((spec_l01Once.f k 15 a0_0 a0_1 a0_2).bind fun t1 => (if t1.1 = true then ((spec_l01PickInt.f k ([(-1), a1, (w64 (a1 + 1)), 9223372036854775807, (-9223372036854775808)] : List Int) t1.2.1 t1.2.2.1 t1.2.2.2).bind fun t2 => (some (t2.1, t2.2.1, t2.2.2.1, t2.2.2.2))) else ((spec_l01Below.f k a1 t1.2.1 t1.2.2.1 t1.2.2.2).bind fun t3 => (some (t3.1, t3.2.1, t3.2.2.1, t3.2.2.2)))))
noncomputable def spec_l01Place.e (r : Int × (List Int) × Int × Int) : Res Ty D := (.sc (.int .i64 r.1), [some (.box [.row 1 .t5 r.2.1, .sc (.int .i64 r.2.2.1), .sc (.int .i64 r.2.2.2)])], [])
noncomputable abbrev spec_l01Place.g (rec : List Item → St Ty D → R) (k : Nat) := go1 Try.f72 (spec_l01Place.ctx k) spec_l01Place.sp 1 spec_l01Place.en rec
set_option maxRecDepth 100000 in
theorem spec_l01Place.te (rec : List Item → St Ty D → R) (k : Nat) (a1 : Int) (a0_0 : List Int) (a0_1 : Int) (a0_2 : Int) : spec_l01Place.g rec k [.code (body Try.f72)] (startSt [.pt 0 0 0, .sc (.int .i64 a1)] [.box [.row 1 .t5 a0_0, .sc (.int .i64 a0_1), .sc (.int .i64 a0_2)]]) =
  (spec_l01Once.f k 15 a0_0 a0_1 a0_2).bind fun t1 => bif t1.1 then (spec_l01PickInt.f k ([(-1), a1, (w64 (a1 + 1)), 9223372036854775807, (-9223372036854775808)] : List Int) t1.2.1 t1.2.2.1 t1.2.2.2).bind fun t2 => some (spec_l01Place.e (t2.1, t2.2.1, t2.2.2.1, t2.2.2.2)) else (spec_l01Below.f k a1 t1.2.1 t1.2.2.1 t1.2.2.2).bind fun t3 => some (spec_l01Place.e (t3.1, t3.2.1, t3.2.2.1, t3.2.2.2)) := by kernel_rfl
set_option maxRecDepth 100000 in
theorem spec_l01Place.oke (k : Nat) (a1 : Int) (a0_0 : List Int) (a0_1 : Int) (a0_2 : Int) : goF Try.f72 spec_l01Place.ctx spec_l01Place.sp 1 spec_l01Place.en (k + 1) [.code (body Try.f72)] (startSt [.pt 0 0 0, .sc (.int .i64 a1)] [.box [.row 1 .t5 a0_0, .sc (.int .i64 a0_1), .sc (.int .i64 a0_2)]]) = (spec_l01Place.f k a1 a0_0 a0_1 a0_2).map spec_l01Place.e := by
  rw [spec_l01Place.f]; exact (spec_l01Place.te _ k a1 a0_0 a0_1 a0_2).trans (bn (fun t1 => (cb (bn (fun t2 => rfl)) (bn (fun t3 => rfl)))))
theorem spec_l01Place.con (k : Nat) (a1 : Int) (a0_0 : List Int) (a0_1 : Int) (a0_2 : Int) (r) (h : spec_l01Place.f k a1 a0_0 a0_1 a0_2 = some r) : Contract Try.prog kit 72 [.pt 0 0 0, .sc (.int .i64 a1)] [.box [.row 1 .t5 a0_0, .sc (.int .i64 a0_1), .sc (.int .i64 a0_2)]] (spec_l01Place.e r).1 (spec_l01Place.e r).2.1 (spec_l01Place.e r).2.2 :=
  con_okG kitOk mix (fun k => (CtxOk.cons (spec_l01Below.xok k) (CtxOk.cons (spec_l01Once.xok k) (CtxOk.cons (spec_l01PickInt.xok k) CtxOk.nil)))) (spec_l01Place.oke k a1 a0_0 a0_1 a0_2) h (by kernel_rfl) (by kernel_rfl) (by kernel_rfl) rfl (by kernel_rfl) rfl rfl
noncomputable def spec_l01Place.x (k : Nat) : X := fun ins bs κ => match ins, bs with
  | [.pt 0 0 0, .sc (.int .i64 a1)], [.box [.row 1 .t5 a0_0, .sc (.int .i64 a0_1), .sc (.int .i64 a0_2)]] => (spec_l01Place.f k a1 a0_0 a0_1 a0_2).bind fun r => κ (spec_l01Place.e r).1 (spec_l01Place.e r).2.1 (spec_l01Place.e r).2.2
  | _, _ => none
theorem spec_l01Place.xok (k : Nat) : XOk 72 (spec_l01Place.x k) := by
  intro ins bs κ res h
  unfold spec_l01Place.x at h
  split at h
  · obtain ⟨r, hr, h⟩ := Option.bind_eq_some_iff.1 h
    exact ⟨_, _, _, spec_l01Place.con k _ _ _ _ r hr, h⟩
  · cases h

/-! ### spec_DrawCutSteps: function 38 -/
noncomputable def spec_DrawCutSteps.sp : Nat → Option (Spec Ty) := fun r => none
noncomputable def spec_DrawCutSteps.en : Option (Spec Ty) := some ⟨[(2, .box [.own .t83]), (3, .own .t56), (4, .keep), (5, .keep)], []⟩
noncomputable def spec_DrawCutSteps.ctx (k : Nat) : Ctx Ty D := (cons 67 (spec_l01New.x k) (cons 68 (spec_l05Any.x k) (cons 69 (spec_l08Steps.x k) (cons 72 (spec_l01Place.x k) (cons 73 (spec_l01Once.x k) (fun _ _ _ _ => none))))))
noncomputable def spec_DrawCutSteps.f (k : Nat) (a0 : List Int) : Option ((List S83) × (List S56) × Int × Bool) := ((spec_l01New.f k a0).bind fun t1 => ((spec_l05Any.f k t1.1 t1.2.1 t1.2.2).bind fun t2 => ((spec_l08Steps.f k t2.1 t2.2.1 t2.2.2.1 t2.2.2.2).bind fun t3 => ((spec_l01Place.f k 7 t3.2.1 t3.2.2.1 t3.2.2.2).bind fun t4 => ((spec_l01Once.f k 2 t4.2.1 t4.2.2.1 t4.2.2.2).bind fun t5 => (some (t2.1, t3.1, t4.1, t5.1)))))))
noncomputable def spec_DrawCutSteps.e (r : (List S83) × (List S56) × Int × Bool) : Res Ty D := (.tu [.ag [.sl 0 none], .sl 1 none, .sc (.int .i64 r.2.2.1), .sc (.bool r.2.2.2)], [], [.rowb .t83 r.1 0, .rowb .t56 r.2.1 0])
noncomputable abbrev spec_DrawCutSteps.g (rec : List Item → St Ty D → R) (k : Nat) := go1 Try.f38 (spec_DrawCutSteps.ctx k) spec_DrawCutSteps.sp 0 spec_DrawCutSteps.en rec
set_option maxRecDepth 100000 in
theorem spec_DrawCutSteps.te (rec : List Item → St Ty D → R) (k : Nat) (a0 : List Int) : spec_DrawCutSteps.g rec k [.code (body Try.f38)] (startSt [.row 0 .t5 a0] []) =
  (spec_l01New.f k a0).bind fun t1 => (spec_l05Any.f k t1.1 t1.2.1 t1.2.2).bind fun t2 => (spec_l08Steps.f k t2.1 t2.2.1 t2.2.2.1 t2.2.2.2).bind fun t3 => (spec_l01Place.f k 7 t3.2.1 t3.2.2.1 t3.2.2.2).bind fun t4 => (spec_l01Once.f k 2 t4.2.1 t4.2.2.1 t4.2.2.2).bind fun t5 => some (spec_DrawCutSteps.e (t2.1, t3.1, t4.1, t5.1)) := by kernel_rfl
set_option maxRecDepth 100000 in
theorem spec_DrawCutSteps.oke (k : Nat) (a0 : List Int) : goF Try.f38 spec_DrawCutSteps.ctx spec_DrawCutSteps.sp 0 spec_DrawCutSteps.en (k + 1) [.code (body Try.f38)] (startSt [.row 0 .t5 a0] []) = (spec_DrawCutSteps.f k a0).map spec_DrawCutSteps.e := by
  rw [spec_DrawCutSteps.f]; exact (spec_DrawCutSteps.te _ k a0).trans (bn (fun t1 => (bn (fun t2 => (bn (fun t3 => (bn (fun t4 => (bn (fun t5 => rfl))))))))))
theorem spec_DrawCutSteps.con (k : Nat) (a0 : List Int) (r) (h : spec_DrawCutSteps.f k a0 = some r) : Contract Try.prog kit 38 [.row 0 .t5 a0] [] (spec_DrawCutSteps.e r).1 (spec_DrawCutSteps.e r).2.1 (spec_DrawCutSteps.e r).2.2 :=
  con_okG kitOk mix (fun k => (CtxOk.cons (spec_l01New.xok k) (CtxOk.cons (spec_l05Any.xok k) (CtxOk.cons (spec_l08Steps.xok k) (CtxOk.cons (spec_l01Place.xok k) (CtxOk.cons (spec_l01Once.xok k) CtxOk.nil)))))) (spec_DrawCutSteps.oke k a0) h (by kernel_rfl) (by kernel_rfl) (by kernel_rfl) rfl (by kernel_rfl) rfl rfl
noncomputable def spec_DrawCutSteps.x (k : Nat) : X := fun ins bs κ => match ins, bs with
  | [.row 0 .t5 a0], [] => (spec_DrawCutSteps.f k a0).bind fun r => κ (spec_DrawCutSteps.e r).1 (spec_DrawCutSteps.e r).2.1 (spec_DrawCutSteps.e r).2.2
  | _, _ => none
theorem spec_DrawCutSteps.xok (k : Nat) : XOk 38 (spec_DrawCutSteps.x k) := by
  intro ins bs κ res h
  unfold spec_DrawCutSteps.x at h
  split at h
  · obtain ⟨r, hr, h⟩ := Option.bind_eq_some_iff.1 h
    exact ⟨_, _, _, spec_DrawCutSteps.con k _ r hr, h⟩
  · cases h

/-! ### impl_ReadLeaf: function 39 -/
noncomputable def impl_ReadLeaf.sp : Nat → Option (Spec Ty) := fun r => none
noncomputable def impl_ReadLeaf.en : Option (Spec Ty) := none
noncomputable def impl_ReadLeaf.ctx (k : Nat) : Ctx Ty D := (cons 64 (impl_in.x k) (fun _ _ _ _ => none))
noncomputable def impl_ReadLeaf.f (k : Nat) (a0_0 : List S83) (a1 : Int) (a2 : Int) : Option (ByteArray × Bool) := ((impl_in.f k a1 0 (w64 ((a0_0.length : Int) - 1))).bind fun t1 => (if t1 = true then (if 0 ≤ a1 then (if a1 < (a0_0.length : Int) then ((impl_in.f k a2 0 (w64 ((((rd_T83 a0_0 a1).f2).length : Int) - 1))).bind fun t2 => (if t2 = true then (if 0 ≤ a1 then (if a1 < (a0_0.length : Int) then (if 0 ≤ a2 then (if a2 < (((rd_T83 a0_0 a1).f2).length : Int) then (if ((rd_T101 ((rd_T83 a0_0 a1).f2) a2).f0) = 1 then (if 0 ≤ a1 then (if a1 < (a0_0.length : Int) then (if 0 ≤ a2 then (if a2 < (((rd_T83 a0_0 a1).f2).length : Int) then (some ((rd_T101 ((rd_T83 a0_0 a1).f2) a2).f1, true)) else none) else none) else none) else none) else (some ((⟨#[]⟩ : ByteArray), false))) else none) else none) else none) else none) else (some ((⟨#[]⟩ : ByteArray), false)))) else none) else none) else (some ((⟨#[]⟩ : ByteArray), false))))
noncomputable def impl_ReadLeaf.e (r : ByteArray × Bool) : Res Ty D := (.tu [.sc (.string r.1), .sc (.bool r.2)], [], [])
noncomputable abbrev impl_ReadLeaf.g (rec : List Item → St Ty D → R) (k : Nat) := go1 Try.f39 (impl_ReadLeaf.ctx k) impl_ReadLeaf.sp 0 impl_ReadLeaf.en rec
set_option maxRecDepth 100000 in
theorem impl_ReadLeaf.te (rec : List Item → St Ty D → R) (k : Nat) (a0_0 : List S83) (a1 : Int) (a2 : Int) : impl_ReadLeaf.g rec k [.code (body Try.f39)] (startSt [.ag [.row 0 .t83 a0_0], .sc (.int .i64 a1), .sc (.int .i64 a2)] []) =
  (impl_in.f k a1 0 (w64 ((a0_0.length : Int) - 1))).bind fun t1 => bif !t1 then some (impl_ReadLeaf.e ((⟨#[]⟩ : ByteArray), false)) else bif decide (0 ≤ a1) then bif decide (a1 < (a0_0.length : Int)) then (impl_in.f k a2 0 (w64 ((((rd_T83 a0_0 a1).f2).length : Int) - 1))).bind fun t2 => bif !t2 then some (impl_ReadLeaf.e ((⟨#[]⟩ : ByteArray), false)) else bif decide (0 ≤ a1) then bif decide (a1 < (a0_0.length : Int)) then bif decide (0 ≤ a2) then bif decide (a2 < (((rd_T83 a0_0 a1).f2).length : Int)) then bif !decide (((rd_T101 ((rd_T83 a0_0 a1).f2) a2).f0) = 1) then some (impl_ReadLeaf.e ((⟨#[]⟩ : ByteArray), false)) else bif decide (0 ≤ a1) then bif decide (a1 < (a0_0.length : Int)) then bif decide (0 ≤ a2) then bif decide (a2 < (((rd_T83 a0_0 a1).f2).length : Int)) then some (impl_ReadLeaf.e ((rd_T101 ((rd_T83 a0_0 a1).f2) a2).f1, true)) else none else none else none else none else none else none else none else none else none else none := by kernel_rfl
set_option maxRecDepth 100000 in
theorem impl_ReadLeaf.oke (k : Nat) (a0_0 : List S83) (a1 : Int) (a2 : Int) : goF Try.f39 impl_ReadLeaf.ctx impl_ReadLeaf.sp 0 impl_ReadLeaf.en (k + 1) [.code (body Try.f39)] (startSt [.ag [.row 0 .t83 a0_0], .sc (.int .i64 a1), .sc (.int .i64 a2)] []) = (impl_ReadLeaf.f k a0_0 a1 a2).map impl_ReadLeaf.e := by
  rw [impl_ReadLeaf.f]; exact (impl_ReadLeaf.te _ k a0_0 a1 a2).trans (bn (fun t1 => (nb rfl (cd (cd (bn (fun t2 => (nb rfl (cd (cd (cd (cd (nd rfl (cd (cd (cd (cd rfl rfl) rfl) rfl) rfl)) rfl) rfl) rfl) rfl)))) rfl) rfl))))
theorem impl_ReadLeaf.con (k : Nat) (a0_0 : List S83) (a1 : Int) (a2 : Int) (r) (h : impl_ReadLeaf.f k a0_0 a1 a2 = some r) : Contract Try.prog kit 39 [.ag [.row 0 .t83 a0_0], .sc (.int .i64 a1), .sc (.int .i64 a2)] [] (impl_ReadLeaf.e r).1 (impl_ReadLeaf.e r).2.1 (impl_ReadLeaf.e r).2.2 :=
  con_okG kitOk mix (fun k => (CtxOk.cons (impl_in.xok k) CtxOk.nil)) (impl_ReadLeaf.oke k a0_0 a1 a2) h (by kernel_rfl) (by kernel_rfl) (by kernel_rfl) rfl (by kernel_rfl) rfl rfl
noncomputable def impl_ReadLeaf.x (k : Nat) : X := fun ins bs κ => match ins, bs with
  | [.ag [.row 0 .t83 a0_0], .sc (.int .i64 a1), .sc (.int .i64 a2)], [] => (impl_ReadLeaf.f k a0_0 a1 a2).bind fun r => κ (impl_ReadLeaf.e r).1 (impl_ReadLeaf.e r).2.1 (impl_ReadLeaf.e r).2.2
  | _, _ => none
theorem impl_ReadLeaf.xok (k : Nat) : XOk 39 (impl_ReadLeaf.x k) := by
  intro ins bs κ res h
  unfold impl_ReadLeaf.x at h
  split at h
  · obtain ⟨r, hr, h⟩ := Option.bind_eq_some_iff.1 h
    exact ⟨_, _, _, impl_ReadLeaf.con k _ _ _ r hr, h⟩
  · cases h

/-! ### laws_FnCuts: function 7 -/
noncomputable def laws_FnCuts.sp : Nat → Option (Spec Ty) := fun r => none
noncomputable def laws_FnCuts.en : Option (Spec Ty) := none
noncomputable def laws_FnCuts.ctx (k : Nat) : Ctx Ty D := (cons 22 (impl_Torment.x k) (cons 27 (spec_CutSteps.x k) (cons 29 (impl_CutSteps.x k) (cons 32 (laws_big.x k) (cons 35 (spec_DoSteps.x k) (cons 36 (laws_sameFlash.x k) (cons 38 (spec_DrawCutSteps.x k) (cons 39 (impl_ReadLeaf.x k) (cons 40 (impl_NextBlank.x k) (cons 41 (impl_Wipe.x k) (fun _ _ _ _ => none)))))))))))
noncomputable def laws_FnCuts.f (k : Nat) (a0 : List Int) : Option (Bool) := ((laws_big.f k a0).bind fun t1 => (if t1 = true then (some (true)) else ((spec_DrawCutSteps.f k a0).bind fun t2 => ((impl_CutSteps.f k t2.1 t2.2.1 t2.2.2.1 t2.2.2.2).bind fun t3 => ((spec_CutSteps.f k t2.1 t2.2.1 t2.2.2.1 t2.2.2.2).bind fun t4 => (if (t3.2 == t4.2) = true then ((laws_sameFlash.f k t3.1 t4.1).bind fun t5 => (if t5 = true then (if t3.2 = true then (if 0 ≤ t2.2.2.1 then (if t2.2.2.1 ≤ (t2.2.1.length : Int) then ((spec_DoSteps.f k t2.1 ((t2.2.1.drop 0).take (t2.2.2.1.toNat - 0))).bind fun t7 => (if t7.2 = t2.2.2.1 then (if t2.2.2.2 = true then (if t2.2.2.1 = (t2.2.1.length : Int) then ((laws_sameFlash.f k t3.1 t7.1).bind fun t9 => (some (t9))) else (if 0 ≤ t2.2.2.1 then (if t2.2.2.1 < (t2.2.1.length : Int) then ((impl_Torment.f k t7.1 ((rd_T56 t2.2.1 t2.2.2.1).f0) ((rd_T56 t2.2.1 t2.2.2.1).f1) ((rd_T56 t2.2.1 t2.2.2.1).f2) ((rd_T56 t2.2.1 t2.2.2.1).f3)).bind fun t10 => (if 0 ≤ t2.2.2.1 then (if t2.2.2.1 < (t2.2.1.length : Int) then (if ((rd_T56 t2.2.1 t2.2.2.1).f0) = 1 then ((impl_ReadLeaf.f k t3.1 ((rd_T56 t2.2.1 t2.2.2.1).f1) ((rd_T56 t2.2.1 t2.2.2.1).f2)).bind fun t11 => (if t10.2 = true then ((laws_sameFlash.f k t3.1 t10.1).bind fun t12 => (if t12 = true then (if t11.2 = true then (some (false)) else (if 0 ≤ ((rd_T56 t2.2.1 t2.2.2.1).f1) then (if ((rd_T56 t2.2.1 t2.2.2.1).f1) < (t3.1.length : Int) then ((impl_NextBlank.f k ((rd_T83 t3.1 ((rd_T56 t2.2.1 t2.2.2.1).f1)).f0) ((rd_T83 t3.1 ((rd_T56 t2.2.1 t2.2.2.1).f1)).f1) ((rd_T83 t3.1 ((rd_T56 t2.2.1 t2.2.2.1).f1)).f2)).bind fun t13 => (some ((decide (t13 = (w64 (((rd_T56 t2.2.1 t2.2.2.1).f2) + 1))))))) else none) else none)) else (some (false)))) else (some (false)))) else ((impl_Wipe.f k t3.1 ((rd_T56 t2.2.1 t2.2.2.1).f1)).bind fun t14 => (if t10.2 = true then ((laws_sameFlash.f k t3.1 t10.1).bind fun t15 => (if t15 = true then (if t14.2 = true then (if 0 ≤ ((rd_T56 t2.2.1 t2.2.2.1).f1) then (if ((rd_T56 t2.2.1 t2.2.2.1).f1) < (t3.1.length : Int) then ((impl_NextBlank.f k ((rd_T83 t3.1 ((rd_T56 t2.2.1 t2.2.2.1).f1)).f0) ((rd_T83 t3.1 ((rd_T56 t2.2.1 t2.2.2.1).f1)).f1) ((rd_T83 t3.1 ((rd_T56 t2.2.1 t2.2.2.1).f1)).f2)).bind fun t16 => (some ((decide (t16 = 4))))) else none) else none) else (some (false))) else (some (false)))) else (some (false))))) else none) else none)) else none) else none)) else ((laws_sameFlash.f k t3.1 t7.1).bind fun t8 => (some (t8)))) else (some (false)))) else none) else none) else ((laws_sameFlash.f k t3.1 t2.1).bind fun t6 => (some (t6)))) else (some (false)))) else (some (false))))))))
noncomputable def laws_FnCuts.e (r : Bool) : Res Ty D := (.sc (.bool r), [], [])
noncomputable abbrev laws_FnCuts.g (rec : List Item → St Ty D → R) (k : Nat) := go1 Try.f7 (laws_FnCuts.ctx k) laws_FnCuts.sp 0 laws_FnCuts.en rec
set_option maxRecDepth 100000 in
theorem laws_FnCuts.te (rec : List Item → St Ty D → R) (k : Nat) (a0 : List Int) : laws_FnCuts.g rec k [.code (body Try.f7)] (startSt [.row 0 .t5 a0] []) =
  (laws_big.f k a0).bind fun t1 => bif t1 then some (laws_FnCuts.e (true)) else (spec_DrawCutSteps.f k a0).bind fun t2 => (impl_CutSteps.f k t2.1 t2.2.1 t2.2.2.1 t2.2.2.2).bind fun t3 => (spec_CutSteps.f k t2.1 t2.2.1 t2.2.2.1 t2.2.2.2).bind fun t4 => bif !(t3.2 == t4.2) then some (laws_FnCuts.e (false)) else (laws_sameFlash.f k t3.1 t4.1).bind fun t5 => bif !t5 then some (laws_FnCuts.e (false)) else bif !t3.2 then (laws_sameFlash.f k t3.1 t2.1).bind fun t6 => some (laws_FnCuts.e (t6)) else bif decide (0 ≤ t2.2.2.1) then bif decide (t2.2.2.1 ≤ (t2.2.1.length : Int)) then (spec_DoSteps.f k t2.1 ((t2.2.1.drop 0).take (t2.2.2.1.toNat - 0))).bind fun t7 => bif !decide (t7.2 = t2.2.2.1) then some (laws_FnCuts.e (false)) else bif !t2.2.2.2 then (laws_sameFlash.f k t3.1 t7.1).bind fun t8 => some (laws_FnCuts.e (t8)) else bif decide (t2.2.2.1 = (t2.2.1.length : Int)) then (laws_sameFlash.f k t3.1 t7.1).bind fun t9 => some (laws_FnCuts.e (t9)) else bif decide (0 ≤ t2.2.2.1) then bif decide (t2.2.2.1 < (t2.2.1.length : Int)) then (impl_Torment.f k t7.1 ((rd_T56 t2.2.1 t2.2.2.1).f0) ((rd_T56 t2.2.1 t2.2.2.1).f1) ((rd_T56 t2.2.1 t2.2.2.1).f2) ((rd_T56 t2.2.1 t2.2.2.1).f3)).bind fun t10 => bif decide (0 ≤ t2.2.2.1) then bif decide (t2.2.2.1 < (t2.2.1.length : Int)) then bif decide (((rd_T56 t2.2.1 t2.2.2.1).f0) = 1) then (impl_ReadLeaf.f k t3.1 ((rd_T56 t2.2.1 t2.2.2.1).f1) ((rd_T56 t2.2.1 t2.2.2.1).f2)).bind fun t11 => bif t10.2 then (laws_sameFlash.f k t3.1 t10.1).bind fun t12 => bif t12 then bif !t11.2 then bif decide (0 ≤ ((rd_T56 t2.2.1 t2.2.2.1).f1)) then bif decide (((rd_T56 t2.2.1 t2.2.2.1).f1) < (t3.1.length : Int)) then (impl_NextBlank.f k ((rd_T83 t3.1 ((rd_T56 t2.2.1 t2.2.2.1).f1)).f0) ((rd_T83 t3.1 ((rd_T56 t2.2.1 t2.2.2.1).f1)).f1) ((rd_T83 t3.1 ((rd_T56 t2.2.1 t2.2.2.1).f1)).f2)).bind fun t13 => some (laws_FnCuts.e ((decide (t13 = (w64 (((rd_T56 t2.2.1 t2.2.2.1).f2) + 1)))))) else none else none else some (laws_FnCuts.e (false)) else some (laws_FnCuts.e (false)) else some (laws_FnCuts.e (false)) else (impl_Wipe.f k t3.1 ((rd_T56 t2.2.1 t2.2.2.1).f1)).bind fun t14 => bif t10.2 then (laws_sameFlash.f k t3.1 t10.1).bind fun t15 => bif t15 then bif t14.2 then bif decide (0 ≤ ((rd_T56 t2.2.1 t2.2.2.1).f1)) then bif decide (((rd_T56 t2.2.1 t2.2.2.1).f1) < (t3.1.length : Int)) then (impl_NextBlank.f k ((rd_T83 t3.1 ((rd_T56 t2.2.1 t2.2.2.1).f1)).f0) ((rd_T83 t3.1 ((rd_T56 t2.2.1 t2.2.2.1).f1)).f1) ((rd_T83 t3.1 ((rd_T56 t2.2.1 t2.2.2.1).f1)).f2)).bind fun t16 => some (laws_FnCuts.e ((decide (t16 = 4)))) else none else none else some (laws_FnCuts.e (false)) else some (laws_FnCuts.e (false)) else some (laws_FnCuts.e (false)) else none else none else none else none else none else none := by kernel_rfl
set_option maxRecDepth 100000 in
theorem laws_FnCuts.oke (k : Nat) (a0 : List Int) : goF Try.f7 laws_FnCuts.ctx laws_FnCuts.sp 0 laws_FnCuts.en (k + 1) [.code (body Try.f7)] (startSt [.row 0 .t5 a0] []) = (laws_FnCuts.f k a0).map laws_FnCuts.e := by
  rw [laws_FnCuts.f]; exact (laws_FnCuts.te _ k a0).trans (bn (fun t1 => (cb rfl (bn (fun t2 => (bn (fun t3 => (bn (fun t4 => (nb rfl (bn (fun t5 => (nb rfl (nb (bn (fun t6 => rfl)) (cd (cd (bn (fun t7 => (nd rfl (nb (bn (fun t8 => rfl)) (cd (bn (fun t9 => rfl)) (cd (cd (bn (fun t10 => (cd (cd (cd (bn (fun t11 => (cb (bn (fun t12 => (cb (nb (cd (cd (bn (fun t13 => rfl)) rfl) rfl) rfl) rfl))) rfl))) (bn (fun t14 => (cb (bn (fun t15 => (cb (cb (cd (cd (bn (fun t16 => rfl)) rfl) rfl) rfl) rfl))) rfl)))) rfl) rfl))) rfl) rfl)))))) rfl) rfl)))))))))))))))
theorem laws_FnCuts.con (k : Nat) (a0 : List Int) (r) (h : laws_FnCuts.f k a0 = some r) : Contract Try.prog kit 7 [.row 0 .t5 a0] [] (laws_FnCuts.e r).1 (laws_FnCuts.e r).2.1 (laws_FnCuts.e r).2.2 :=
  con_okG kitOk mix (fun k => (CtxOk.cons (impl_Torment.xok k) (CtxOk.cons (spec_CutSteps.xok k) (CtxOk.cons (impl_CutSteps.xok k) (CtxOk.cons (laws_big.xok k) (CtxOk.cons (spec_DoSteps.xok k) (CtxOk.cons (laws_sameFlash.xok k) (CtxOk.cons (spec_DrawCutSteps.xok k) (CtxOk.cons (impl_ReadLeaf.xok k) (CtxOk.cons (impl_NextBlank.xok k) (CtxOk.cons (impl_Wipe.xok k) CtxOk.nil))))))))))) (laws_FnCuts.oke k a0) h (by kernel_rfl) (by kernel_rfl) (by kernel_rfl) rfl (by kernel_rfl) rfl rfl
noncomputable def laws_FnCuts.x (k : Nat) : X := fun ins bs κ => match ins, bs with
  | [.row 0 .t5 a0], [] => (laws_FnCuts.f k a0).bind fun r => κ (laws_FnCuts.e r).1 (laws_FnCuts.e r).2.1 (laws_FnCuts.e r).2.2
  | _, _ => none
theorem laws_FnCuts.xok (k : Nat) : XOk 7 (laws_FnCuts.x k) := by
  intro ins bs κ res h
  unfold laws_FnCuts.x at h
  split at h
  · obtain ⟨r, hr, h⟩ := Option.bind_eq_some_iff.1 h
    exact ⟨_, _, _, laws_FnCuts.con k _ r hr, h⟩
  · cases h
end Go.Proofs.Ytklkhnomnanpoaa.M2

/- The print's plain functions. -/
namespace Go.Proofs.Ytklkhnomnanpoaa.PK
open Go Go.RowKit Go.Proofs.YtklkhnomnanpoaaW.PrintWords Go.Proofs.YtklkhnomnanpoaaW.PrintLast Go.Proofs.YtklkhnomnanpoaaW.PrintMore
set_option linter.unusedVariables false

def spec_l05Copy.l0 : Nat → Int → List (S83) → List (S83) → Option ((List (S83)))
  | 0, _, _, _ => none
  | k + 1, x4, x429000, x431000 => if x4 < (x429000.length : Int) then (if 0 ≤ x4 then ((some (([] : List (S101)) : List (S101))).bind fun y433 => (if y433.length + ((rd_T83 x429000 x4).f2).length < 5864062014805 then (if x431000.length < 3518437208883 then (spec_l05Copy.l0 k (wrap64 (x4 + 1)) x429000 (x431000 ++ [(⟨(rd_T83 x429000 x4).f0, (rd_T83 x429000 x4).f1, (y433 ++ ((rd_T83 x429000 x4).f2))⟩ : S83)])) else (none)) else (none))) else (none)) else (some x431000)
def spec_l05Copy.f (k : Nat) (l0_0 : List (S83)) : Option ((List (S83))) := spec_l05Copy.l0 k 0 l0_0 ([] : List (S83))
def spec_l01In.f (a0 : Int) (a1 : Int) (a2 : Int) : Option (Bool) := if a0 ≥ a1 then (some (decide (a0 ≤ a2))) else (some false)
def spec_l05Leaf.f (a0_0 : Int) (a0_1 : ByteArray) : Option (Bool) := if a0_0 = 0 then (some (a0_1.toList == ([] : List UInt8))) else (if a0_0 = 1 then ((spec_l01In.f (a0_1.size : Int) 1 120).bind fun t443 => (some t443)) else (if a0_0 = 2 then (some (decide ((a0_1.size : Int) ≤ 120))) else (some false)))
mutual
def spec_FlashOk.l0 : Nat → Int → List (S83) → Option (Bool)
  | 0, _, _ => none
  | k + 1, x3, x445000 => if x3 < (x445000.length : Int) then (if 0 ≤ x3 then (if (((rd_T83 x445000 x3).f2).length : Int) = 4 then ((spec_l01In.f ((rd_T83 x445000 x3).f1) 0 1000000000).bind fun t448 => (spec_FlashOk.j1 k x3 (!t448) x445000 ((rd_T83 x445000 x3).f0) ((rd_T83 x445000 x3).f1) ((rd_T83 x445000 x3).f2))) else (spec_FlashOk.j1 k x3 true x445000 ((rd_T83 x445000 x3).f0) ((rd_T83 x445000 x3).f1) ((rd_T83 x445000 x3).f2))) else (none)) else ((spec_l01In.f (x445000.length : Int) 3 10).bind fun t445 => (some t445))
def spec_FlashOk.j1 : Nat → Int → Bool → List (S83) → Bool → Int → List (S101) → Option (Bool)
  | 0, _, _, _, _, _, _ => none
  | k + 1, x3, x27, x445000, x448000, x448001, x448002 => if x27 = true then (some false) else (spec_FlashOk.l1 k x3 0 x445000 x448000 x448001 x448002)
def spec_FlashOk.l1 : Nat → Int → Int → List (S83) → Bool → Int → List (S101) → Option (Bool)
  | 0, _, _, _, _, _, _ => none
  | k + 1, x3, x5, x445000, x448000, x448001, x448002 => if x5 < (x448002.length : Int) then (if 0 ≤ x5 then ((spec_l05Leaf.f ((rd_T101 x448002 x5).f0) ((rd_T101 x448002 x5).f1)).bind fun t450 => (if t450 = true then (if x5 > 0 then (if 0 ≤ (wrap64 (x5 - 1)) then (if (wrap64 (x5 - 1)) < (x448002.length : Int) then (if ((rd_T101 x448002 (wrap64 (x5 - 1))).f0) = 0 then (if ((rd_T101 x448002 x5).f0) = 0 then (spec_FlashOk.l1 k x3 (wrap64 (x5 + 1)) x445000 x448000 x448001 x448002) else (some false)) else (spec_FlashOk.l1 k x3 (wrap64 (x5 + 1)) x445000 x448000 x448001 x448002)) else (none)) else (none)) else (spec_FlashOk.l1 k x3 (wrap64 (x5 + 1)) x445000 x448000 x448001 x448002)) else (some false))) else (none)) else (spec_FlashOk.l0 k (wrap64 (x3 + 1)) x445000)
end
def spec_FlashOk.f (k : Nat) (l0_0 : List (S83)) : Option (Bool) := spec_FlashOk.l0 k 0 l0_0
def spec_NextBlank.l0 : Nat → Int → Bool → Int → List (S101) → Option (Int)
  | 0, _, _, _, _ => none
  | k + 1, x3, x454000, x454001, x454002 => if x3 < (x454002.length : Int) then (if 0 ≤ x3 then (if ((rd_T101 x454002 x3).f0) = 0 then (some x3) else (spec_NextBlank.l0 k (wrap64 (x3 + 1)) x454000 x454001 x454002)) else (none)) else (some 4)
def spec_NextBlank.f (k : Nat) (a0_0 : Bool) (a0_1 : Int) (l0_2 : List (S101)) : Option (Int) := spec_NextBlank.l0 k 0 a0_0 a0_1 l0_2
def spec_l05May.f (k : Nat) (l0_0 : List (S83)) (a1 : Int) (a2 : Int) (a3 : ByteArray) : Option (Bool) := (spec_l01In.f a1 0 (wrap64 ((l0_0.length : Int) - 1))).bind fun t456 => (if t456 = true then (if 0 ≤ a1 then (if a1 < (l0_0.length : Int) then (if ((rd_T83 l0_0 a1).f0 = true) then (some false) else (if a2 < 4 then ((spec_NextBlank.f k ((rd_T83 l0_0 a1).f0) ((rd_T83 l0_0 a1).f1) ((rd_T83 l0_0 a1).f2)).bind fun t459 => (if a2 = t459 then ((spec_l01In.f (a3.size : Int) 1 120).bind fun t460 => (some t460)) else (some false))) else (some false))) else (none)) else (none)) else (some false))
def spec_Program.f (k : Nat) (l0_0 : List (S83)) (a1 : Int) (a2 : Int) (a3 : ByteArray) : Option ((List (S83)) × Bool) := (spec_l05Copy.f k l0_0).bind fun t463 => ((spec_FlashOk.f k l0_0).bind fun t467 => (if t467 = true then ((spec_l05May.f k l0_0 a1 a2 a3).bind fun t468 => (if t468 = true then (if 0 ≤ a1 then (if a1 < (t463.length : Int) then (if 0 ≤ a2 then (if a2 < (((rd_T83 t463 a1).f2).length : Int) then (some ((t463.set (a1 : Int).toNat (⟨(rd_T83 t463 a1).f0, (rd_T83 t463 a1).f1, (((rd_T83 t463 a1).f2).set (a2 : Int).toNat (⟨1, a3⟩ : S101))⟩ : S83)), true)) else (none)) else (none)) else (none)) else (none)) else (some (t463, false)))) else (some (t463, false))))
def spec_Wipe.f (k : Nat) (l0_0 : List (S83)) (a1 : Int) : Option ((List (S83)) × Bool) := (spec_l05Copy.f k l0_0).bind fun t476 => ((spec_FlashOk.f k l0_0).bind fun t480 => (if t480 = true then ((spec_l01In.f a1 0 (wrap64 ((l0_0.length : Int) - 1))).bind fun t481 => (if t481 = true then (if 0 ≤ a1 then (if a1 < (l0_0.length : Int) then (if (rd_T83 l0_0 a1).f0 = true then (some (t476, false)) else (if ((rd_T83 l0_0 a1).f1) = 1000000000 then (some (t476, false)) else (if 4 ≤ 11728124029610 then (if a1 < (t476.length : Int) then (some ((t476.set (a1 : Int).toNat (⟨false, wrap64 (((rd_T83 l0_0 a1).f1) + 1), (List.replicate 4 z101)⟩ : S83)), true)) else (none)) else (none)))) else (none)) else (none)) else (some (t476, false)))) else (some (t476, false))))
def spec_DoStep.f (k : Nat) (l0_0 : List (S83)) (a1_0 : Int) (a1_1 : Int) (a1_2 : Int) (a1_3 : ByteArray) : Option ((List (S83)) × Bool) := if a1_0 = 1 then ((spec_Program.f k l0_0 a1_1 a1_2 a1_3).bind fun bt477 => (some (bt477.1, bt477.2))) else (if a1_0 = 2 then ((spec_Wipe.f k l0_0 a1_1).bind fun bt481 => (some (bt481.1, bt481.2))) else ((spec_l05Copy.f k l0_0).bind fun t485 => (some (t485, false))))
def spec_DoSteps.l0 : Nat → List (S56) → Int → List (S83) → Option ((List (S83)) × Int)
  | 0, _, _, _ => none
  | k + 1, x1, x7, x705000 => if x7 < (x1.length : Int) then (if 0 ≤ x7 then ((spec_DoStep.f k x705000 ((rd_T56 x1 x7).f0) ((rd_T56 x1 x7).f1) ((rd_T56 x1 x7).f2) ((rd_T56 x1 x7).f3)).bind fun bt706 => (if bt706.2 = true then (spec_DoSteps.l0 k x1 (wrap64 (x7 + 1)) bt706.1) else (some (x705000, x7)))) else (none)) else (some (x705000, (x1.length : Int)))
def spec_DoSteps.f (k : Nat) (l0_0 : List (S83)) (l1 : List (S56)) : Option ((List (S83)) × Int) := (spec_l05Copy.f k l0_0).bind fun t701 => (spec_DoSteps.l0 k l1 0 t701)
def impl_copyFlash.l0 : Nat → List (S83) → Int → Int → List (S83) → Option ((List (S83)))
  | 0, _, _, _, _ => none
  | k + 1, x7, x8, x9, x548000 => if x9 < x8 then (if 0 ≤ x9 then (if x9 < (x7.length : Int) then (if ([] : List (S101)).length + ((rd_T83 x7 x9).f2).length < 5864062014805 then (if x548000.length < 3518437208883 then (impl_copyFlash.l0 k x7 x8 (wrap64 (x9 + 1)) (x548000 ++ [(⟨(rd_T83 x7 x9).f0, (rd_T83 x7 x9).f1, (([] : List (S101)) ++ ((rd_T83 x7 x9).f2))⟩ : S83)])) else (none)) else (none)) else (none)) else (none)) else (some x548000)
def impl_copyFlash.f (k : Nat) (l0_0 : List (S83)) : Option ((List (S83))) := impl_copyFlash.l0 k l0_0 (l0_0.length : Int) 0 ([] : List (S83))
def impl_in.f (a0 : Int) (a1 : Int) (a2 : Int) : Option (Bool) := if a0 ≥ a1 then (some (decide (a0 ≤ a2))) else (some false)
def impl_leafOk.f (a0_0 : Int) (a0_1 : ByteArray) : Option (Bool) := if a0_0 = 0 then (some (a0_1.toList == ([] : List UInt8))) else (if a0_0 = 1 then ((impl_in.f (a0_1.size : Int) 1 120).bind fun t557 => (some t557)) else (if a0_0 = 2 then (some (decide ((a0_1.size : Int) ≤ 120))) else (some false)))
mutual
def impl_FlashOk.l0 : Nat → List (S83) → Int → Int → List (S83) → Option (Bool)
  | 0, _, _, _, _ => none
  | k + 1, x8, x9, x10, x559000 => if x10 < x9 then (if 0 ≤ x10 then (if x10 < (x8.length : Int) then (if (((rd_T83 x8 x10).f2).length : Int) = 4 then ((impl_in.f ((rd_T83 x8 x10).f1) 0 1000000000).bind fun t562 => (impl_FlashOk.j1 k x8 x9 x10 (!t562) x559000 ((rd_T83 x8 x10).f0) ((rd_T83 x8 x10).f1) ((rd_T83 x8 x10).f2))) else (impl_FlashOk.j1 k x8 x9 x10 true x559000 ((rd_T83 x8 x10).f0) ((rd_T83 x8 x10).f1) ((rd_T83 x8 x10).f2))) else (none)) else (none)) else ((impl_in.f (x559000.length : Int) 3 10).bind fun t559 => (some t559))
def impl_FlashOk.j1 : Nat → List (S83) → Int → Int → Bool → List (S83) → Bool → Int → List (S101) → Option (Bool)
  | 0, _, _, _, _, _, _, _, _ => none
  | k + 1, x8, x9, x10, x23, x559000, x562000, x562001, x562002 => if x23 = true then (some false) else (impl_FlashOk.l1 k x8 x9 x10 x562002 (x562002.length : Int) 0 x559000 x562000 x562001 x562002)
def impl_FlashOk.l1 : Nat → List (S83) → Int → Int → List (S101) → Int → Int → List (S83) → Bool → Int → List (S101) → Option (Bool)
  | 0, _, _, _, _, _, _, _, _, _, _ => none
  | k + 1, x8, x9, x10, x25, x26, x27, x559000, x562000, x562001, x562002 => if x27 < x26 then (if 0 ≤ x27 then (if x27 < (x25.length : Int) then ((impl_leafOk.f ((rd_T101 x25 x27).f0) ((rd_T101 x25 x27).f1)).bind fun t565 => (if t565 = true then (if x27 > 0 then (if 0 ≤ (wrap64 (x27 - 1)) then (if (wrap64 (x27 - 1)) < (x562002.length : Int) then (if ((rd_T101 x562002 (wrap64 (x27 - 1))).f0) = 0 then (if ((rd_T101 x25 x27).f0) = 0 then (impl_FlashOk.l1 k x8 x9 x10 x25 x26 (wrap64 (x27 + 1)) x559000 x562000 x562001 x562002) else (some false)) else (impl_FlashOk.l1 k x8 x9 x10 x25 x26 (wrap64 (x27 + 1)) x559000 x562000 x562001 x562002)) else (none)) else (none)) else (impl_FlashOk.l1 k x8 x9 x10 x25 x26 (wrap64 (x27 + 1)) x559000 x562000 x562001 x562002)) else (some false))) else (none)) else (none)) else (impl_FlashOk.l0 k x8 x9 (wrap64 (x10 + 1)) x559000)
end
def impl_FlashOk.f (k : Nat) (l0_0 : List (S83)) : Option (Bool) := impl_FlashOk.l0 k l0_0 (l0_0.length : Int) 0 l0_0
def impl_usable.f (k : Nat) (l0_0 : List (S83)) (a1 : Int) : Option (Bool) := (impl_FlashOk.f k l0_0).bind fun t568 => (if t568 = true then ((impl_in.f a1 0 (wrap64 ((l0_0.length : Int) - 1))).bind fun t569 => (if t569 = true then (if 0 ≤ a1 then (if a1 < (l0_0.length : Int) then (some (!((rd_T83 l0_0 a1).f0))) else (none)) else (none)) else (some false))) else (some false))
def impl_NextBlank.l0 : Nat → List (S101) → Int → Int → Option (Int)
  | 0, _, _, _ => none
  | k + 1, x6, x7, x8 => if x8 < x7 then (if 0 ≤ x8 then (if x8 < (x6.length : Int) then (if ((rd_T101 x6 x8).f0) = 0 then (some x8) else (impl_NextBlank.l0 k x6 x7 (wrap64 (x8 + 1)))) else (none)) else (none)) else (some 4)
def impl_NextBlank.f (k : Nat) (a0_0 : Bool) (a0_1 : Int) (l0_2 : List (S101)) : Option (Int) := impl_NextBlank.l0 k l0_2 (l0_2.length : Int) 0
def impl_Program.f (k : Nat) (l0_0 : List (S83)) (a1 : Int) (a2 : Int) (a3 : ByteArray) : Option ((List (S83)) × Bool) := (impl_copyFlash.f k l0_0).bind fun t579 => ((impl_usable.f k l0_0 a1).bind fun t583 => (if t583 = true then ((impl_in.f a2 0 3).bind fun t584 => (if t584 = true then (if 0 ≤ a1 then (if a1 < (l0_0.length : Int) then ((impl_NextBlank.f k ((rd_T83 l0_0 a1).f0) ((rd_T83 l0_0 a1).f1) ((rd_T83 l0_0 a1).f2)).bind fun t586 => (if a2 = t586 then ((impl_in.f (a3.size : Int) 1 120).bind fun t587 => (if t587 = true then (if a1 < (t579.length : Int) then (if 0 ≤ a2 then (if a2 < (((rd_T83 t579 a1).f2).length : Int) then (some ((t579.set (a1 : Int).toNat (⟨(rd_T83 t579 a1).f0, (rd_T83 t579 a1).f1, (((rd_T83 t579 a1).f2).set (a2 : Int).toNat (⟨1, a3⟩ : S101))⟩ : S83)), true)) else (none)) else (none)) else (none)) else (some (t579, false)))) else (some (t579, false)))) else (none)) else (none)) else (some (t579, false)))) else (some (t579, false))))
def impl_blankLeaves.f  : Option ((List (S101))) := if 4 ≤ 11728124029610 then (some (List.replicate 4 z101)) else (none)
def impl_Wipe.f (k : Nat) (l0_0 : List (S83)) (a1 : Int) : Option ((List (S83)) × Bool) := (impl_copyFlash.f k l0_0).bind fun t582 => ((impl_usable.f k l0_0 a1).bind fun t586 => (if t586 = true then (if 0 ≤ a1 then (if a1 < (l0_0.length : Int) then (if ((rd_T83 l0_0 a1).f1) = 1000000000 then (some (t582, false)) else ((impl_blankLeaves.f).bind fun t588 => (if a1 < (t582.length : Int) then ((some (t582.set (a1 : Int).toNat (⟨(rd_T83 t582 a1).f0, (rd_T83 t582 a1).f1, t588⟩ : S83) : List (S83))).bind fun y591 => (some ((y591.set (a1 : Int).toNat (⟨(rd_T83 y591 a1).f0, wrap64 (((rd_T83 t582 a1).f1) + 1), (rd_T83 y591 a1).f2⟩ : S83)), true))) else (none)))) else (none)) else (none)) else (some (t582, false))))
def impl_DoStep.f (k : Nat) (l0_0 : List (S83)) (a1_0 : Int) (a1_1 : Int) (a1_2 : Int) (a1_3 : ByteArray) : Option ((List (S83)) × Bool) := if a1_0 = 1 then ((impl_Program.f k l0_0 a1_1 a1_2 a1_3).bind fun bt596 => (some (bt596.1, bt596.2))) else (if a1_0 = 2 then ((impl_Wipe.f k l0_0 a1_1).bind fun bt600 => (some (bt600.1, bt600.2))) else ((impl_copyFlash.f k l0_0).bind fun t604 => (some (t604, false))))
def impl_DoSteps.l0 : Nat → List (S56) → List (S56) → Int → Int → List (S83) → Option ((List (S83)) × Int)
  | 0, _, _, _, _, _ => none
  | k + 1, x1, x13, x14, x15, x753000 => if x15 < x14 then (if 0 ≤ x15 then (if x15 < (x13.length : Int) then ((impl_DoStep.f k x753000 ((rd_T56 x13 x15).f0) ((rd_T56 x13 x15).f1) ((rd_T56 x13 x15).f2) ((rd_T56 x13 x15).f3)).bind fun bt755 => (if bt755.2 = true then (impl_DoSteps.l0 k x1 x13 x14 (wrap64 (x15 + 1)) bt755.1) else (some (x753000, x15)))) else (none)) else (none)) else (some (x753000, (x1.length : Int)))
def impl_DoSteps.f (k : Nat) (l0_0 : List (S83)) (l1 : List (S56)) : Option ((List (S83)) × Int) := (impl_copyFlash.f k l0_0).bind fun t749 => (impl_DoSteps.l0 k l1 l1 (l1.length : Int) 0 t749)
def spec_l01Byte.f (s0_0 : List Int) (s0_1 : Int) (s0_2 : Int) : Option (Int × Int × Int) := if s0_1 < (s0_0.length : Int) then (if 0 ≤ s0_1 then (some (Go.bits .and .i64 (wrap64 ((Go.bits .and .i64 (Go.bits .xor .i64 ((wrap64 ((wrap64 (s0_2 * 6364136223846793005)) + 1442695040888963407)) / 8589934592) ((wrap64 ((wrap64 (s0_2 * 6364136223846793005)) + 1442695040888963407)) / 35184372088832)) 255) + (wrap64 (rd s0_0 s0_1)))) 255, wrap64 (s0_1 + 1), wrap64 ((wrap64 (s0_2 * 6364136223846793005)) + 1442695040888963407))) else (none)) else (some (Go.bits .and .i64 (Go.bits .xor .i64 ((wrap64 ((wrap64 (s0_2 * 6364136223846793005)) + 1442695040888963407)) / 8589934592) ((wrap64 ((wrap64 (s0_2 * 6364136223846793005)) + 1442695040888963407)) / 35184372088832)) 255, s0_1, wrap64 ((wrap64 (s0_2 * 6364136223846793005)) + 1442695040888963407)))
def spec_l01Below.f (s0_0 : List Int) (s0_1 : Int) (s0_2 : Int) (a1 : Int) : Option (Int × Int × Int) := if a1 ≤ 0 then (some (0, s0_1, s0_2)) else (if a1 ≤ 256 then ((spec_l01Byte.f s0_0 s0_1 s0_2).bind fun bt836 => (if a1 = 0 then (none) else (some (Int.tmod bt836.1 a1, bt836.2.1, bt836.2.2)))) else ((spec_l01Byte.f s0_0 s0_1 s0_2).bind fun bt839 => ((spec_l01Byte.f s0_0 bt839.2.1 bt839.2.2).bind fun bt842 => ((spec_l01Byte.f s0_0 bt842.2.1 bt842.2.2).bind fun bt845 => ((spec_l01Byte.f s0_0 bt845.2.1 bt845.2.2).bind fun bt848 => (if a1 = 0 then (none) else (some (Int.tmod (wrap64 ((wrap64 ((wrap64 ((wrap64 (bt839.1 * 16777216)) + (wrap64 (bt842.1 * 65536)))) + (wrap64 (bt845.1 * 256)))) + bt848.1)) a1, bt848.2.1, bt848.2.2))))))))
def spec_l01New.l0 : Nat → List Int → Int → Int → Option (List Int × Int × Int)
  | 0, _, _, _ => none
  | k + 1, x0, x3, x4 => if x4 < (x0.length : Int) then (if x4 < 4000 then (if 0 ≤ x4 then (spec_l01New.l0 k x0 (Go.bits .and .i64 (wrap64 ((wrap64 ((wrap64 (x3 * 131)) + (wrap64 (rd x0 x4)))) + 7)) 1073741823) (wrap64 (x4 + 1))) else (none)) else (some (x0, 0, x3))) else (some (x0, 0, x3))
def spec_l01New.f (k : Nat) (l0 : List Int) : Option (List Int × Int × Int) := spec_l01New.l0 k l0 (wrap64 (36501 + (l0.length : Int))) 0
def spec_DrawPlaces.l0 : Nat → List Int → Int → List Int → Int → Int → Option (List Int)
  | 0, _, _, _, _, _ => none
  | k + 1, x4, x5, x1048000, x1048001, x1048002 => if x5 < 12 then ((spec_l01Below.f x1048000 x1048001 x1048002 10000).bind fun bt1054 => (if x4.length < 17592186044416 then (spec_DrawPlaces.l0 k (x4 ++ [bt1054.1]) (wrap64 (x5 + 1)) x1048000 bt1054.2.1 bt1054.2.2) else (none))) else (some x4)
def spec_DrawPlaces.f (k : Nat) (l0 : List Int) : Option (List Int) := (spec_l01New.f k l0).bind fun bt1044 => ((spec_l01Byte.f bt1044.1 bt1044.2.1 bt1044.2.2).bind fun bt1048 => (spec_DrawPlaces.l0 k (([] : List Int)) 0 bt1044.1 bt1048.2.1 bt1048.2.2))
def spec_l01PickInt.f (s0_0 : List Int) (s0_1 : Int) (s0_2 : Int) (l1 : List Int) : Option (Int × Int × Int) := (spec_l01Below.f s0_0 s0_1 s0_2 (l1.length : Int)).bind fun bt931 => (if 0 ≤ bt931.1 then (if bt931.1 < (l1.length : Int) then (some (rd l1 bt931.1, bt931.2.1, bt931.2.2)) else (none)) else (none))
def spec_l01Once.f (s0_0 : List Int) (s0_1 : Int) (s0_2 : Int) (a1 : Int) : Option (Bool × Int × Int) := (spec_l01Below.f s0_0 s0_1 s0_2 a1).bind fun bt851 => (some ((bt851.1 == 0), bt851.2.1, bt851.2.2))
def spec_l01Place.f (s0_0 : List Int) (s0_1 : Int) (s0_2 : Int) (a1 : Int) : Option (Int × Int × Int) := (spec_l01Once.f s0_0 s0_1 s0_2 15).bind fun bt1061 => (if bt1061.1 = true then ((spec_l01PickInt.f s0_0 bt1061.2.1 bt1061.2.2 (([(-1), a1, wrap64 (a1 + 1), 9223372036854775807, (-9223372036854775808)] : List Int))).bind fun bt1067 => (some (bt1067.1, bt1067.2.1, bt1067.2.2))) else ((spec_l01Below.f s0_0 bt1061.2.1 bt1061.2.2 a1).bind fun bt1070 => (some (bt1070.1, bt1070.2.1, bt1070.2.2))))
mutual
def laws_sameFlash.l0 : Nat → Int → List (S83) → List (S83) → Option (Bool)
  | 0, _, _, _ => none
  | k + 1, x5, x1037000, x1038000 => if x5 < (x1037000.length : Int) then (if 0 ≤ x5 then (if x5 < (x1038000.length : Int) then (if (((rd_T83 x1037000 x5).f0) != ((rd_T83 x1038000 x5).f0)) = true then (laws_sameFlash.j1 k x5 true x1037000 x1038000 ((rd_T83 x1037000 x5).f0) ((rd_T83 x1037000 x5).f1) ((rd_T83 x1037000 x5).f2) ((rd_T83 x1038000 x5).f0) ((rd_T83 x1038000 x5).f1) ((rd_T83 x1038000 x5).f2)) else (if ((rd_T83 x1037000 x5).f1) = ((rd_T83 x1038000 x5).f1) then (laws_sameFlash.j1 k x5 ((((rd_T83 x1037000 x5).f2).length : Int) != (((rd_T83 x1038000 x5).f2).length : Int)) x1037000 x1038000 ((rd_T83 x1037000 x5).f0) ((rd_T83 x1037000 x5).f1) ((rd_T83 x1037000 x5).f2) ((rd_T83 x1038000 x5).f0) ((rd_T83 x1038000 x5).f1) ((rd_T83 x1038000 x5).f2)) else (laws_sameFlash.j1 k x5 true x1037000 x1038000 ((rd_T83 x1037000 x5).f0) ((rd_T83 x1037000 x5).f1) ((rd_T83 x1037000 x5).f2) ((rd_T83 x1038000 x5).f0) ((rd_T83 x1038000 x5).f1) ((rd_T83 x1038000 x5).f2)))) else (none)) else (none)) else (some true)
def laws_sameFlash.j1 : Nat → Int → Bool → List (S83) → List (S83) → Bool → Int → List (S101) → Bool → Int → List (S101) → Option (Bool)
  | 0, _, _, _, _, _, _, _, _, _, _ => none
  | k + 1, x5, x53, x1037000, x1038000, x1040000, x1040001, x1040002, x1042000, x1042001, x1042002 => if x53 = true then (some false) else (laws_sameFlash.l1 k x5 0 x1037000 x1038000 x1040000 x1040001 x1040002 x1042000 x1042001 x1042002)
def laws_sameFlash.l1 : Nat → Int → Int → List (S83) → List (S83) → Bool → Int → List (S101) → Bool → Int → List (S101) → Option (Bool)
  | 0, _, _, _, _, _, _, _, _, _, _ => none
  | k + 1, x5, x8, x1037000, x1038000, x1040000, x1040001, x1040002, x1042000, x1042001, x1042002 => if x8 < (x1040002.length : Int) then (if 0 ≤ x8 then (if x8 < (x1042002.length : Int) then (if (!(((rd_T101 x1040002 x8).f0) == ((rd_T101 x1042002 x8).f0)) || (!((((rd_T101 x1040002 x8).f1).toList) == (((rd_T101 x1042002 x8).f1).toList)))) = true then (some false) else (laws_sameFlash.l1 k x5 (wrap64 (x8 + 1)) x1037000 x1038000 x1040000 x1040001 x1040002 x1042000 x1042001 x1042002)) else (none)) else (none)) else (laws_sameFlash.l0 k (wrap64 (x5 + 1)) x1037000 x1038000)
end
def laws_sameFlash.f (k : Nat) (l0_0 : List (S83)) (l1_0 : List (S83)) : Option (Bool) := if (l0_0.length : Int) = (l1_0.length : Int) then (laws_sameFlash.l0 k 0 l0_0 l1_0) else (some false)
def laws_big.f (l0 : List Int) : Option (Bool) := some (decide ((l0.length : Int) > 1048576))
mutual
def spec_OpenBlock.l0 : Nat → Int → List (S83) → Option (Int)
  | 0, _, _ => none
  | k + 1, x3, x959000 => if x3 < (x959000.length : Int) then (spec_OpenBlock.l1 k x3 0 0 0 x959000) else (some (-1))
def spec_OpenBlock.l1 : Nat → Int → Int → Int → Int → List (S83) → Option (Int)
  | 0, _, _, _, _, _ => none
  | k + 1, x3, x4, x5, x6, x959000 => if 0 ≤ x3 then (if x3 < (x959000.length : Int) then (if x6 < (((rd_T83 x959000 x3).f2).length : Int) then (if 0 ≤ x6 then (if ((rd_T101 ((rd_T83 x959000 x3).f2) x6).f0) = 0 then (spec_OpenBlock.l1 k x3 (wrap64 (x4 + 1)) x5 (wrap64 (x6 + 1)) x959000) else (spec_OpenBlock.l1 k x3 x4 (wrap64 (x5 + 1)) (wrap64 (x6 + 1)) x959000)) else (none)) else (if ((rd_T83 x959000 x3).f0 = true) then (spec_OpenBlock.l0 k (wrap64 (x3 + 1)) x959000) else (if x4 > 0 then (if x5 > 0 then (some x3) else (spec_OpenBlock.l0 k (wrap64 (x3 + 1)) x959000)) else (spec_OpenBlock.l0 k (wrap64 (x3 + 1)) x959000)))) else (none)) else (none)
end
def spec_OpenBlock.f (k : Nat) (l0_0 : List (S83)) : Option (Int) := spec_OpenBlock.l0 k 0 l0_0
mutual
def spec_FreeBlocks.l0 : Nat → List Int → Int → List (S83) → Option (List Int)
  | 0, _, _, _ => none
  | k + 1, x3, x4, x964000 => if x4 < (x964000.length : Int) then (if 0 ≤ x4 then (spec_FreeBlocks.l1 k x3 x4 (!((rd_T83 x964000 x4).f0)) 0 x964000) else (none)) else (some x3)
def spec_FreeBlocks.l1 : Nat → List Int → Int → Bool → Int → List (S83) → Option (List Int)
  | 0, _, _, _, _, _ => none
  | k + 1, x3, x4, x5, x6, x964000 => if 0 ≤ x4 then (if x4 < (x964000.length : Int) then (if x6 < (((rd_T83 x964000 x4).f2).length : Int) then (if x5 = true then (if 0 ≤ x6 then (spec_FreeBlocks.l1 k x3 x4 (((rd_T101 ((rd_T83 x964000 x4).f2) x6).f0) == 0) (wrap64 (x6 + 1)) x964000) else (none)) else (spec_FreeBlocks.l1 k x3 x4 false (wrap64 (x6 + 1)) x964000)) else (if x5 = true then (if x3.length < 17592186044416 then (spec_FreeBlocks.l0 k (x3 ++ [x4]) (wrap64 (x4 + 1)) x964000) else (none)) else (spec_FreeBlocks.l0 k x3 (wrap64 (x4 + 1)) x964000))) else (none)) else (none)
end
def spec_FreeBlocks.f (k : Nat) (l0_0 : List (S83)) : Option (List Int) := spec_FreeBlocks.l0 k (([] : List Int)) 0 l0_0
def spec_PlaceOf.l0 : Nat → List Int → Int → Int → List (S83) → Option (Int × Int × Bool)
  | 0, _, _, _, _ => none
  | k + 1, x6, x7, x8, x975000 => if x8 < (x6.length : Int) then (if 0 ≤ x8 then (if 0 ≤ (rd x6 x8) then (if (rd x6 x8) < (x975000.length : Int) then (if 0 ≤ x7 then (if x7 < (x975000.length : Int) then (if ((rd_T83 x975000 (rd x6 x8)).f1) < ((rd_T83 x975000 x7).f1) then (spec_PlaceOf.l0 k x6 (rd x6 x8) (wrap64 (x8 + 1)) x975000) else (spec_PlaceOf.l0 k x6 x7 (wrap64 (x8 + 1)) x975000)) else (none)) else (none)) else (none)) else (none)) else (none)) else (some (x7, 0, true))
def spec_PlaceOf.f (k : Nat) (l0_0 : List (S83)) : Option (Int × Int × Bool) := (spec_FlashOk.f k l0_0).bind fun t975 => (if t975 = true then ((spec_OpenBlock.f k l0_0).bind fun t976 => (if t976 ≥ 0 then (if 0 ≤ t976 then (if t976 < (l0_0.length : Int) then ((spec_NextBlank.f k ((rd_T83 l0_0 t976).f0) ((rd_T83 l0_0 t976).f1) ((rd_T83 l0_0 t976).f2)).bind fun t978 => (some (t976, t978, true))) else (none)) else (none)) else ((spec_FreeBlocks.f k l0_0).bind fun t979 => (if (t979.length : Int) = 0 then (some (0, 0, false)) else (if 0 < (t979.length : Int) then (spec_PlaceOf.l0 k t979 (rd t979 0) 1 l0_0) else (none)))))) else (some (0, 0, false)))
def spec_FlashNew.l0 : Nat → Int → Int → List (S83) → Option ((List (S83)) × Bool)
  | 0, _, _, _ => none
  | k + 1, x0, x5, x866000 => if x5 < x0 then (if 4 ≤ 11728124029610 then (if x866000.length < 3518437208883 then (spec_FlashNew.l0 k x0 (wrap64 (x5 + 1)) (x866000 ++ [(⟨false, 0, (List.replicate 4 z101)⟩ : S83)])) else (none)) else (none)) else (some (x866000, true))
def spec_FlashNew.f (k : Nat) (a0 : Int) : Option ((List (S83)) × Bool) := (spec_l01In.f a0 3 10).bind fun t864 => (if t864 = true then (spec_FlashNew.l0 k a0 0 ([] : List (S83))) else (some (([] : List (S83)), false)))
def spec_MarkBad.f (k : Nat) (l0_0 : List (S83)) (a1 : Int) : Option ((List (S83))) := (spec_l05Copy.f k l0_0).bind fun t874 => ((spec_l01In.f a1 0 (wrap64 ((l0_0.length : Int) - 1))).bind fun t878 => (if t878 = true then (if 0 ≤ a1 then (if a1 < (t874.length : Int) then (some (t874.set (a1 : Int).toNat (⟨true, (rd_T83 t874 a1).f1, (rd_T83 t874 a1).f2⟩ : S83))) else (none)) else (none)) else (some t874)))
def impl_ReadLeaf.f (l0_0 : List (S83)) (a1 : Int) (a2 : Int) : Option (ByteArray × Bool) := (impl_in.f a1 0 (wrap64 ((l0_0.length : Int) - 1))).bind fun t1079 => (if t1079 = true then (if 0 ≤ a1 then (if a1 < (l0_0.length : Int) then ((impl_in.f a2 0 (wrap64 ((((rd_T83 l0_0 a1).f2).length : Int) - 1))).bind fun t1081 => (if t1081 = true then (if 0 ≤ a2 then (if a2 < (((rd_T83 l0_0 a1).f2).length : Int) then (if ((rd_T101 ((rd_T83 l0_0 a1).f2) a2).f0) = 1 then (some ((rd_T101 ((rd_T83 l0_0 a1).f2) a2).f1, true)) else (some ((⟨#[]⟩ : ByteArray), false))) else (none)) else (none)) else (some ((⟨#[]⟩ : ByteArray), false)))) else (none)) else (none)) else (some ((⟨#[]⟩ : ByteArray), false)))
mutual
def spec_l01Text.j0 : Nat → Int → List Int → Int → Int → Option (ByteArray × Int × Int)
  | 0, _, _, _, _ => none
  | k + 1, x1, x1000, x1001, x1002 => spec_l01Text.l0 k x1 (([] : List Int)) 0 x1000 x1001 x1002
def spec_l01Text.l0 : Nat → Int → List Int → Int → List Int → Int → Int → Option (ByteArray × Int × Int)
  | 0, _, _, _, _, _, _ => none
  | k + 1, x1, x5, x6, x1000, x1001, x1002 => if x6 < x1 then ((spec_l01Byte.f x1000 x1001 x1002).bind fun bt857 => (if x5.length < 140737488355328 then (spec_l01Text.l0 k x1 (x5 ++ [(bt857.1) % 256]) (wrap64 (x6 + 1)) x1000 bt857.2.1 bt857.2.2) else (none))) else (some (strOfNums x5, x1001, x1002))
end
def spec_l01Text.f (k : Nat) (s0_0 : List Int) (s0_1 : Int) (s0_2 : Int) (a1 : Int) : Option (ByteArray × Int × Int) := if a1 > 5000 then (spec_l01Text.j0 k 5000 s0_0 s0_1 s0_2) else (spec_l01Text.j0 k a1 s0_0 s0_1 s0_2)
def spec_l05Flash.l0 : Nat → Int → List Int → Int → Int → List (S83) → Option ((List (S83)) × Int × Int)
  | 0, _, _, _, _, _ => none
  | k + 1, x5, x1000, x1001, x1002, x889000 => (spec_l01Below.f x1000 x1001 x1002 20).bind fun bt889 => (if x5 < bt889.1 then ((spec_l01Below.f x1000 bt889.2.1 bt889.2.2 (x889000.length : Int)).bind fun bt892 => ((spec_l01Below.f x1000 bt892.2.1 bt892.2.2 8).bind fun bt895 => (if bt895.1 = 0 then ((spec_Wipe.f k x889000 bt892.1).bind fun bt898 => (spec_l05Flash.l0 k (wrap64 (x5 + 1)) x1000 bt895.2.1 bt895.2.2 bt898.1)) else (if bt895.1 = 1 then (if 0 ≤ bt892.1 then (if bt892.1 < (x889000.length : Int) then ((spec_NextBlank.f k ((rd_T83 x889000 bt892.1).f0) ((rd_T83 x889000 bt892.1).f1) ((rd_T83 x889000 bt892.1).f2)).bind fun t903 => (if t903 < 4 then ((spec_NextBlank.f k ((rd_T83 x889000 bt892.1).f0) ((rd_T83 x889000 bt892.1).f1) ((rd_T83 x889000 bt892.1).f2)).bind fun t906 => (if 0 ≤ t906 then (if t906 < (((rd_T83 x889000 bt892.1).f2).length : Int) then (spec_l05Flash.l0 k (wrap64 (x5 + 1)) x1000 bt895.2.1 bt895.2.2 (x889000.set (bt892.1 : Int).toNat (⟨(rd_T83 x889000 bt892.1).f0, (rd_T83 x889000 bt892.1).f1, (((rd_T83 x889000 bt892.1).f2).set (t906 : Int).toNat (⟨2, (⟨#[116, 111]⟩ : ByteArray)⟩ : S101))⟩ : S83))) else (none)) else (none))) else (spec_l05Flash.l0 k (wrap64 (x5 + 1)) x1000 bt895.2.1 bt895.2.2 x889000))) else (none)) else (none)) else (if 0 ≤ bt892.1 then (if bt892.1 < (x889000.length : Int) then ((spec_NextBlank.f k ((rd_T83 x889000 bt892.1).f0) ((rd_T83 x889000 bt892.1).f1) ((rd_T83 x889000 bt892.1).f2)).bind fun t911 => ((spec_l01Below.f x1000 bt895.2.1 bt895.2.2 5).bind fun bt912 => ((spec_l01Text.f k x1000 bt912.2.1 bt912.2.2 (wrap64 (1 + bt912.1))).bind fun bt915 => ((spec_Program.f k x889000 bt892.1 t911 bt915.1).bind fun bt918 => (spec_l05Flash.l0 k (wrap64 (x5 + 1)) x1000 bt915.2.1 bt915.2.2 bt918.1))))) else (none)) else (none)))))) else ((spec_l01Once.f x1000 bt889.2.1 bt889.2.2 4).bind fun bt922 => (if bt922.1 = true then ((spec_l01Below.f x1000 bt922.2.1 bt922.2.2 (x889000.length : Int)).bind fun bt925 => ((spec_MarkBad.f k x889000 bt925.1).bind fun t928 => (some (t928, bt925.2.1, bt925.2.2)))) else (some (x889000, bt922.2.1, bt922.2.2)))))
def spec_l05Flash.f (k : Nat) (s0_0 : List Int) (s0_1 : Int) (s0_2 : Int) : Option ((List (S83)) × Int × Int) := (spec_l01Below.f s0_0 s0_1 s0_2 5).bind fun bt881 => ((spec_FlashNew.f k (wrap64 (3 + bt881.1))).bind fun bt884 => (spec_l05Flash.l0 k 0 s0_0 bt881.2.1 bt881.2.2 bt884.1))
mutual
def spec_l08Steps.l0 : Nat → List (S56) → Int → List Int → Int → Int → List (S83) → Option ((List (S56)) × Int × Int)
  | 0, _, _, _, _, _, _ => none
  | k + 1, x5, x7, x1000, x1001, x1002, x992000 => (spec_l01Below.f x1000 x1001 x1002 7).bind fun bt992 => (if x7 < bt992.1 then ((spec_l01Below.f x1000 bt992.2.1 bt992.2.2 5).bind fun bt995 => ((spec_l01Text.f k x1000 bt995.2.1 bt995.2.2 (wrap64 (1 + bt995.1))).bind fun bt998 => ((spec_PlaceOf.f k x992000).bind fun bt1002 => (if bt1002.2.2 = true then ((spec_l01Once.f x1000 bt998.2.1 bt998.2.2 5).bind fun bt1005 => (spec_l08Steps.j1 k x5 x7 bt1005.1 x1000 bt1005.2.1 bt1005.2.2 x992000 1 bt1002.1 bt1002.2.1 bt998.1)) else (spec_l08Steps.j1 k x5 x7 true x1000 bt998.2.1 bt998.2.2 x992000 1 bt1002.1 bt1002.2.1 bt998.1))))) else (some (x5, bt992.2.1, bt992.2.2)))
def spec_l08Steps.j1 : Nat → List (S56) → Int → Bool → List Int → Int → Int → List (S83) → Int → Int → Int → ByteArray → Option ((List (S56)) × Int × Int)
  | 0, _, _, _, _, _, _, _, _, _, _, _ => none
  | k + 1, x5, x7, x41, x1000, x1001, x1002, x992000, x1002000, x1002001, x1002002, x1002003 => if x41 = true then ((spec_l01Below.f x1000 x1001 x1002 4).bind fun bt1008 => (spec_l08Steps.j2 k x5 x7 x1000 bt1008.2.1 bt1008.2.2 x992000 2 bt1008.1 0 (⟨#[]⟩ : ByteArray))) else (spec_l08Steps.j2 k x5 x7 x1000 x1001 x1002 x992000 x1002000 x1002001 x1002002 x1002003)
def spec_l08Steps.j2 : Nat → List (S56) → Int → List Int → Int → Int → List (S83) → Int → Int → Int → ByteArray → Option ((List (S56)) × Int × Int)
  | 0, _, _, _, _, _, _, _, _, _, _ => none
  | k + 1, x5, x7, x1000, x1001, x1002, x992000, x1002000, x1002001, x1002002, x1002003 => (spec_l01Once.f x1000 x1001 x1002 24).bind fun bt1011 => (if bt1011.1 = true then ((spec_l01Below.f x1000 bt1011.2.1 bt1011.2.2 4).bind fun bt1014 => ((spec_DoStep.f k x992000 bt1014.1 x1002001 x1002002 x1002003).bind fun bt1017 => (if x5.length < 3518437208883 then (spec_l08Steps.l0 k (x5 ++ [(⟨bt1014.1, x1002001, x1002002, x1002003⟩ : S56)]) (wrap64 (x7 + 1)) x1000 bt1014.2.1 bt1014.2.2 bt1017.1) else (none)))) else ((spec_DoStep.f k x992000 x1002000 x1002001 x1002002 x1002003).bind fun bt1024 => (if x5.length < 3518437208883 then (spec_l08Steps.l0 k (x5 ++ [(⟨x1002000, x1002001, x1002002, x1002003⟩ : S56)]) (wrap64 (x7 + 1)) x1000 bt1011.2.1 bt1011.2.2 bt1024.1) else (none))))
end
def spec_l08Steps.f (k : Nat) (s0_0 : List Int) (s0_1 : Int) (s0_2 : Int) (l1_0 : List (S83)) : Option ((List (S56)) × Int × Int) := spec_l08Steps.l0 k (([] : List (S56))) 0 s0_0 s0_1 s0_2 l1_0
def spec_Torment.l0 : Nat → Int → Int → Int → Int → ByteArray → List (S83) → Option ((List (S83)) × Bool)
  | 0, _, _, _, _, _, _ => none
  | k + 1, x9, x490000, x490001, x490002, x490003, x500000 => if 0 ≤ x490001 then (if x490001 < (x500000.length : Int) then (if x9 < (((rd_T83 x500000 x490001).f2).length : Int) then (if 0 ≤ x9 then (spec_Torment.l0 k (wrap64 (x9 + 1)) x490000 x490001 x490002 x490003 (x500000.set (x490001 : Int).toNat (⟨(rd_T83 x500000 x490001).f0, (rd_T83 x500000 x490001).f1, (((rd_T83 x500000 x490001).f2).set (x9 : Int).toNat (⟨2, (⟨#[]⟩ : ByteArray)⟩ : S101))⟩ : S83))) else (none)) else (some (x500000, true))) else (none)) else (none)
def spec_Torment.f (k : Nat) (l0_0 : List (S83)) (a1_0 : Int) (a1_1 : Int) (a1_2 : Int) (a1_3 : ByteArray) : Option ((List (S83)) × Bool) := (spec_DoStep.f k l0_0 a1_0 a1_1 a1_2 a1_3).bind fun bt491 => ((spec_l05Copy.f k l0_0).bind fun t496 => (if bt491.2 = true then (if a1_0 = 1 then (if 0 ≤ a1_1 then (if a1_1 < (t496.length : Int) then (if 0 ≤ (wrap64 ((a1_3.size : Int) / 2)) then (if (wrap64 ((a1_3.size : Int) / 2)) ≤ (a1_3.size : Int) then (if 0 ≤ a1_2 then (if a1_2 < (((rd_T83 t496 a1_1).f2).length : Int) then (some ((t496.set (a1_1 : Int).toNat (⟨(rd_T83 t496 a1_1).f0, (rd_T83 t496 a1_1).f1, (((rd_T83 t496 a1_1).f2).set (a1_2 : Int).toNat (⟨2, a1_3.extract 0 ((wrap64 ((a1_3.size : Int) / 2)) : Int).toNat⟩ : S101))⟩ : S83)), true)) else (none)) else (none)) else (none)) else (none)) else (none)) else (none)) else (spec_Torment.l0 k 0 a1_0 a1_1 a1_2 a1_3 t496)) else (some (t496, false))))
def impl_Torment.l0 : Nat → Int → Int → Int → Int → Int → ByteArray → List (S83) → Option ((List (S83)) × Bool)
  | 0, _, _, _, _, _, _, _ => none
  | k + 1, x50, x51, x609000, x609001, x609002, x609003, x614000 => if x51 < x50 then (if 0 ≤ x609001 then (if x609001 < (x614000.length : Int) then (if 0 ≤ x51 then (if x51 < (((rd_T83 x614000 x609001).f2).length : Int) then (impl_Torment.l0 k x50 (wrap64 (x51 + 1)) x609000 x609001 x609002 x609003 (x614000.set (x609001 : Int).toNat (⟨(rd_T83 x614000 x609001).f0, (rd_T83 x614000 x609001).f1, (((rd_T83 x614000 x609001).f2).set (x51 : Int).toNat (⟨2, (⟨#[]⟩ : ByteArray)⟩ : S101))⟩ : S83))) else (none)) else (none)) else (none)) else (none)) else (some (x614000, true))
def impl_Torment.f (k : Nat) (l0_0 : List (S83)) (a1_0 : Int) (a1_1 : Int) (a1_2 : Int) (a1_3 : ByteArray) : Option ((List (S83)) × Bool) := (impl_copyFlash.f k l0_0).bind fun t610 => ((impl_DoStep.f k l0_0 a1_0 a1_1 a1_2 a1_3).bind fun bt614 => (if bt614.2 = true then (if 0 ≤ a1_1 then (if a1_1 < (t610.length : Int) then (if a1_0 = 1 then (if 0 ≤ (wrap64 ((a1_3.size : Int) / 2)) then (if (wrap64 ((a1_3.size : Int) / 2)) ≤ (a1_3.size : Int) then (if 0 ≤ a1_2 then (if a1_2 < (((rd_T83 t610 a1_1).f2).length : Int) then (some ((t610.set (a1_1 : Int).toNat (⟨(rd_T83 t610 a1_1).f0, (rd_T83 t610 a1_1).f1, (((rd_T83 t610 a1_1).f2).set (a1_2 : Int).toNat (⟨2, a1_3.extract 0 ((wrap64 ((a1_3.size : Int) / 2)) : Int).toNat⟩ : S101))⟩ : S83)), true)) else (none)) else (none)) else (none)) else (none)) else (impl_Torment.l0 k (((rd_T83 t610 a1_1).f2).length : Int) 0 a1_0 a1_1 a1_2 a1_3 t610)) else (none)) else (none)) else (some (t610, false))))
def impl_CutSteps.j0 : Nat → List (S56) → Int → Bool → List (S83) → List (S83) → Option ((List (S83)) × Bool)
  | 0, _, _, _, _, _ => none
  | k + 1, x1, x2, x41, x761000, x775000 => if x41 = true then (some (x775000, true)) else (if 0 ≤ x2 then (if x2 < (x1.length : Int) then ((impl_Torment.f k x775000 ((rd_T56 x1 x2).f0) ((rd_T56 x1 x2).f1) ((rd_T56 x1 x2).f2) ((rd_T56 x1 x2).f3)).bind fun bt779 => (if bt779.2 = true then (some (bt779.1, true)) else ((impl_copyFlash.f k x761000).bind fun t784 => (some (t784, false))))) else (none)) else (none))
def impl_CutSteps.f (k : Nat) (l0_0 : List (S83)) (l1 : List (S56)) (a2 : Int) (a3 : Bool) : Option ((List (S83)) × Bool) := (impl_in.f a2 0 (l1.length : Int)).bind fun t762 => (if t762 = true then (if 0 ≤ a2 then (if a2 ≤ (l1.length : Int) then ((impl_DoSteps.f k l0_0 (l1.take (a2 : Int).toNat)).bind fun bt770 => (if bt770.2 < a2 then ((impl_copyFlash.f k l0_0).bind fun t775 => (some (t775, false))) else (if a3 = true then (impl_CutSteps.j0 k l1 a2 (a2 == (l1.length : Int)) l0_0 bt770.1) else (impl_CutSteps.j0 k l1 a2 true l0_0 bt770.1)))) else (none)) else (none)) else ((impl_copyFlash.f k l0_0).bind fun t763 => (some (t763, false))))
def spec_CutSteps.j0 : Nat → List (S56) → Int → Bool → List (S83) → List (S83) → Option ((List (S83)) × Bool)
  | 0, _, _, _, _, _ => none
  | k + 1, x1, x2, x41, x712000, x726000 => if x41 = true then (some (x726000, true)) else (if 0 ≤ x2 then (if x2 < (x1.length : Int) then ((spec_Torment.f k x726000 ((rd_T56 x1 x2).f0) ((rd_T56 x1 x2).f1) ((rd_T56 x1 x2).f2) ((rd_T56 x1 x2).f3)).bind fun bt730 => (if bt730.2 = true then (some (bt730.1, true)) else ((spec_l05Copy.f k x712000).bind fun t735 => (some (t735, false))))) else (none)) else (none))
def spec_CutSteps.f (k : Nat) (l0_0 : List (S83)) (l1 : List (S56)) (a2 : Int) (a3 : Bool) : Option ((List (S83)) × Bool) := (spec_l01In.f a2 0 (l1.length : Int)).bind fun t713 => (if t713 = true then (if 0 ≤ a2 then (if a2 ≤ (l1.length : Int) then ((spec_DoSteps.f k l0_0 (l1.take (a2 : Int).toNat)).bind fun bt721 => (if bt721.2 < a2 then ((spec_l05Copy.f k l0_0).bind fun t726 => (some (t726, false))) else (if a3 = true then (spec_CutSteps.j0 k l1 a2 (a2 == (l1.length : Int)) l0_0 bt721.1) else (spec_CutSteps.j0 k l1 a2 true l0_0 bt721.1)))) else (none)) else (none)) else ((spec_l05Copy.f k l0_0).bind fun t714 => (some (t714, false))))
end Go.Proofs.Ytklkhnomnanpoaa.PK
