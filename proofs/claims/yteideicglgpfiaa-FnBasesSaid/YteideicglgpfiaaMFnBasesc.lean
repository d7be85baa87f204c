/- FnBases: functions of the translation as Lean functions with what their calls come to, plain lemmas on them, and, at the end, the row. Parts of one proof, merged by a program of this session; each part's own sentence stands at its head. -/
import Derived.Test.YteideicglgpfiaaMFnBasesb
/- Plain runs of functions: each is a plain Lean function, and keeps its contract. Written by a program of this session. -/
namespace Go.Proofs.Yteideicglgpfiaa.M2
open Go Go.Proofs.Yteideicglgpfiaa.PK
set_option linter.unusedVariables false
set_option linter.unusedSimpArgs false
set_option maxHeartbeats 4000000
/-! ### laws_big: function 17 -/
noncomputable def laws_big.sp : Nat → Option (Spec Ty) := fun r => none
noncomputable def laws_big.en : Option (Spec Ty) := none
noncomputable def laws_big.ctx (k : Nat) : Ctx Ty D := (fun _ _ _ _ => none)
noncomputable def laws_big.f (k : Nat) (a0 : List Int) : Option (Bool) := (some ((decide ((a0.length : Int) > 1048576))))
noncomputable def laws_big.e (r : Bool) : Res Ty D := (.sc (.bool r), [], [])
noncomputable abbrev laws_big.g (rec : List Item → St Ty D → R) (k : Nat) := go1 Try.f17 (laws_big.ctx k) laws_big.sp 0 laws_big.en rec
set_option maxRecDepth 100000 in
theorem laws_big.te (rec : List Item → St Ty D → R) (k : Nat) (a0 : List Int) : laws_big.g rec k [.code (body Try.f17)] (startSt [.row 0 .t5 a0] []) =
  some (laws_big.e ((decide ((a0.length : Int) > 1048576)))) := by kernel_rfl
set_option maxRecDepth 100000 in
theorem laws_big.oke (k : Nat) (a0 : List Int) : goF Try.f17 laws_big.ctx laws_big.sp 0 laws_big.en (k + 1) [.code (body Try.f17)] (startSt [.row 0 .t5 a0] []) = (laws_big.f k a0).map laws_big.e := by
  rw [laws_big.f]; exact (laws_big.te _ k a0).trans rfl
theorem laws_big.con (k : Nat) (a0 : List Int) (r) (h : laws_big.f k a0 = some r) : Contract Try.prog kit 17 [.row 0 .t5 a0] [] (laws_big.e r).1 (laws_big.e r).2.1 (laws_big.e r).2.2 :=
  con_okG kitOk mix (fun k => CtxOk.nil) (laws_big.oke k a0) h (by kernel_rfl) (by kernel_rfl) (by kernel_rfl) rfl (by kernel_rfl) rfl rfl
noncomputable def laws_big.x (k : Nat) : X := fun ins bs κ => match ins, bs with
  | [.row 0 .t5 a0], [] => (laws_big.f k a0).bind fun r => κ (laws_big.e r).1 (laws_big.e r).2.1 (laws_big.e r).2.2
  | _, _ => none
theorem laws_big.xok (k : Nat) : XOk 17 (laws_big.x k) := by
  intro ins bs κ res h
  unfold laws_big.x at h
  split at h
  · obtain ⟨r, hr, h⟩ := Option.bind_eq_some_iff.1 h
    exact ⟨_, _, _, laws_big.con k _ r hr, h⟩
  · cases h

/-! ### spec_l01New: function 55 -/
noncomputable def spec_l01New.sp : Nat → Option (Spec Ty) := fun r => bif Nat.beq r 3 then some ⟨[(0, .keep), (3, .keep), (4, .keep)], []⟩ else none
noncomputable def spec_l01New.en : Option (Spec Ty) := none
noncomputable def spec_l01New.s3 (x0 : List Int) (x3 : Int) (x4 : Int) : St Ty D := ⟨(Env.put (Env.put (Env.put E (some 0) (.row 1 .t5 x0)) (some 3) (.sc (.int .i64 x3))) (some 4) (.sc (.int .i64 x4))), H0, 1000⟩
noncomputable def spec_l01New.ctx (k : Nat) : Ctx Ty D := (fun _ _ _ _ => none)
noncomputable def spec_l01New.c3 : Nat → (List Int) → Int → Int → Option ((List Int) × Int × Int)
  | 0, _, _, _ => none
  | k + 1, x0, x3, x4 => (if x4 < (x0.length : Int) then (if x4 < 4000 then (if 0 ≤ x4 then (if x4 < (x0.length : Int) then (spec_l01New.c3 k x0 (Go.bits .and .i64 (w64 ((w64 ((w64 (x3 * 131)) + (w64 ((rd_T5 x0 x4))))) + 7)) 1073741823) (w64 (x4 + 1))) else none) else none) else (some (x0, 0, x3))) else (some (x0, 0, x3)))
noncomputable def spec_l01New.f (k : Nat) (a0 : List Int) : Option ((List Int) × Int × Int) := (spec_l01New.c3 k a0 (w64 (36501 + (a0.length : Int))) 0)
noncomputable def spec_l01New.e (r : (List Int) × Int × Int) : Res Ty D := (.pt 0 0 0, [], [.box [.row 1 .t5 r.1, .sc (.int .i64 r.2.1), .sc (.int .i64 r.2.2)]])
noncomputable abbrev spec_l01New.g (rec : List Item → St Ty D → R) (k : Nat) := go1 Try.f55 (spec_l01New.ctx k) spec_l01New.sp 0 spec_l01New.en rec
set_option maxRecDepth 100000 in
theorem spec_l01New.t3 (rec : List Item → St Ty D → R) (k : Nat) (x0 : List Int) (x3 : Int) (x4 : Int) : spec_l01New.g rec k (td Try.f55 3) (spec_l01New.s3 x0 x3 x4) =
  bif decide (x4 < (x0.length : Int)) then bif decide (x4 < 4000) then bif decide (0 ≤ x4) then bif decide (x4 < (x0.length : Int)) then rec (td Try.f55 3) (spec_l01New.s3 x0 (Go.bits .and .i64 (w64 ((w64 ((w64 (x3 * 131)) + (w64 ((rd_T5 x0 x4))))) + 7)) 1073741823) (w64 (x4 + 1))) else none else none else some (spec_l01New.e (x0, 0, x3)) else some (spec_l01New.e (x0, 0, x3)) := by kernel_rfl
set_option maxRecDepth 100000 in
theorem spec_l01New.te (rec : List Item → St Ty D → R) (k : Nat) (a0 : List Int) : spec_l01New.g rec k [.code (body Try.f55)] (startSt [.row 1 .t5 a0] []) =
  rec (td Try.f55 3) (spec_l01New.s3 a0 (w64 (36501 + (a0.length : Int))) 0) := by kernel_rfl
set_option maxRecDepth 100000 in
theorem spec_l01New.ok : ∀ k : Nat, (∀ (x0 : List Int) (x3 : Int) (x4 : Int), goF Try.f55 spec_l01New.ctx spec_l01New.sp 0 spec_l01New.en k (td Try.f55 3) (spec_l01New.s3 x0 x3 x4) = (spec_l01New.c3 k x0 x3 x4).map spec_l01New.e)
  | 0 => fun _ _ _ => rfl
  | k + 1 => by
    have ih := spec_l01New.ok k
    have i3 := ih
    intro x0 x3 x4; rw [spec_l01New.c3]; exact (spec_l01New.t3 _ k x0 x3 x4).trans (cd (cd (cd (cd (i3 _ _ _) rfl) rfl) rfl) rfl)
set_option maxRecDepth 100000 in
theorem spec_l01New.oke (k : Nat) (a0 : List Int) : goF Try.f55 spec_l01New.ctx spec_l01New.sp 0 spec_l01New.en (k + 1) [.code (body Try.f55)] (startSt [.row 1 .t5 a0] []) = (spec_l01New.f k a0).map spec_l01New.e := by
  have i3 := spec_l01New.ok k
  rw [spec_l01New.f]; exact (spec_l01New.te _ k a0).trans (i3 _ _ _)
theorem spec_l01New.con (k : Nat) (a0 : List Int) (r) (h : spec_l01New.f k a0 = some r) : Contract Try.prog kit 55 [.row 1 .t5 a0] [] (spec_l01New.e r).1 (spec_l01New.e r).2.1 (spec_l01New.e r).2.2 :=
  con_okG kitOk mix (fun k => CtxOk.nil) (spec_l01New.oke k a0) h (by kernel_rfl) (by kernel_rfl) (by kernel_rfl) rfl (by kernel_rfl) rfl rfl
noncomputable def spec_l01New.x (k : Nat) : X := fun ins bs κ => match ins, bs with
  | [.row 1 .t5 a0], [] => (spec_l01New.f k a0).bind fun r => κ (spec_l01New.e r).1 (spec_l01New.e r).2.1 (spec_l01New.e r).2.2
  | _, _ => none
theorem spec_l01New.xok (k : Nat) : XOk 55 (spec_l01New.x k) := by
  intro ins bs κ res h
  unfold spec_l01New.x at h
  split at h
  · obtain ⟨r, hr, h⟩ := Option.bind_eq_some_iff.1 h
    exact ⟨_, _, _, spec_l01New.con k _ r hr, h⟩
  · cases h

/-! ### spec_l01In: function 76 -/
noncomputable def spec_l01In.sp : Nat → Option (Spec Ty) := fun r => none
noncomputable def spec_l01In.en : Option (Spec Ty) := none
noncomputable def spec_l01In.ctx (k : Nat) : Ctx Ty D := (fun _ _ _ _ => none)
noncomputable def spec_l01In.f (k : Nat) (a0 : Int) (a1 : Int) (a2 : Int) : Option (Bool) := (if a0 ≥ a1 then (some ((decide (a0 ≤ a2)))) else (some (false)))
noncomputable def spec_l01In.e (r : Bool) : Res Ty D := (.sc (.bool r), [], [])
noncomputable abbrev spec_l01In.g (rec : List Item → St Ty D → R) (k : Nat) := go1 Try.f76 (spec_l01In.ctx k) spec_l01In.sp 0 spec_l01In.en rec
set_option maxRecDepth 100000 in
theorem spec_l01In.te (rec : List Item → St Ty D → R) (k : Nat) (a0 : Int) (a1 : Int) (a2 : Int) : spec_l01In.g rec k [.code (body Try.f76)] (startSt [.sc (.int .i64 a0), .sc (.int .i64 a1), .sc (.int .i64 a2)] []) =
  bif decide (a0 ≥ a1) then some (spec_l01In.e ((decide (a0 ≤ a2)))) else some (spec_l01In.e (false)) := by kernel_rfl
set_option maxRecDepth 100000 in
theorem spec_l01In.oke (k : Nat) (a0 : Int) (a1 : Int) (a2 : Int) : goF Try.f76 spec_l01In.ctx spec_l01In.sp 0 spec_l01In.en (k + 1) [.code (body Try.f76)] (startSt [.sc (.int .i64 a0), .sc (.int .i64 a1), .sc (.int .i64 a2)] []) = (spec_l01In.f k a0 a1 a2).map spec_l01In.e := by
  rw [spec_l01In.f]; exact (spec_l01In.te _ k a0 a1 a2).trans (cd rfl rfl)
theorem spec_l01In.con (k : Nat) (a0 : Int) (a1 : Int) (a2 : Int) (r) (h : spec_l01In.f k a0 a1 a2 = some r) : Contract Try.prog kit 76 [.sc (.int .i64 a0), .sc (.int .i64 a1), .sc (.int .i64 a2)] [] (spec_l01In.e r).1 (spec_l01In.e r).2.1 (spec_l01In.e r).2.2 :=
  con_okG kitOk mix (fun k => CtxOk.nil) (spec_l01In.oke k a0 a1 a2) h (by kernel_rfl) (by kernel_rfl) (by kernel_rfl) rfl (by kernel_rfl) rfl rfl
noncomputable def spec_l01In.x (k : Nat) : X := fun ins bs κ => match ins, bs with
  | [.sc (.int .i64 a0), .sc (.int .i64 a1), .sc (.int .i64 a2)], [] => (spec_l01In.f k a0 a1 a2).bind fun r => κ (spec_l01In.e r).1 (spec_l01In.e r).2.1 (spec_l01In.e r).2.2
  | _, _ => none
theorem spec_l01In.xok (k : Nat) : XOk 76 (spec_l01In.x k) := by
  intro ins bs κ res h
  unfold spec_l01In.x at h
  split at h
  · obtain ⟨r, hr, h⟩ := Option.bind_eq_some_iff.1 h
    exact ⟨_, _, _, spec_l01In.con k _ _ _ r hr, h⟩
  · cases h

/-! ### spec_ArenaOk: function 75 -/
noncomputable def spec_ArenaOk.sp : Nat → Option (Spec Ty) := fun r => bif Nat.beq r 2 then some ⟨[(1, .box [.keep]), (3, .keep)], []⟩ else bif Nat.beq r 8 then some ⟨[(1, .box [.keep]), (3, .keep), (4, .box [.keep, .keep]), (5, .keep)], []⟩ else none
noncomputable def spec_ArenaOk.en : Option (Spec Ty) := none
noncomputable def spec_ArenaOk.s2 (x3 : Int) (h64_0 : List S88) : St Ty D := ⟨(Env.put (Env.put E (some 1) (.pt 64 0 0)) (some 3) (.sc (.int .i64 x3))), Heap.put H0 [(64, some (.box [.row 0 .t88 h64_0]))], 1000⟩
noncomputable def spec_ArenaOk.s8 (x3 : Int) (x5 : Int) (h64_0 : List S88) (h65_0 : Bool) (h65_1 : List Int) : St Ty D := ⟨(Env.put (Env.put (Env.put (Env.put E (some 1) (.pt 64 0 0)) (some 3) (.sc (.int .i64 x3))) (some 4) (.pt 65 0 0)) (some 5) (.sc (.int .i64 x5))), Heap.put H0 [(64, some (.box [.row 0 .t88 h64_0])), (65, some (.box [.sc (.bool h65_0), .row 0 .t3 h65_1]))], 1000⟩
noncomputable def spec_ArenaOk.ctx (k : Nat) : Ctx Ty D := (cons 76 (spec_l01In.x k) (fun _ _ _ _ => none))
mutual
noncomputable def spec_ArenaOk.c2 : Nat → Int → (List S88) → Option (Bool)
  | 0, _, _ => none
  | k + 1, x3, h64_0 => (if x3 < (h64_0.length : Int) then (if 0 ≤ x3 then (if x3 < (h64_0.length : Int) then (if (((rd_T88 h64_0 x3).f1).length : Int) = 4 then (spec_ArenaOk.c8 k x3 0 h64_0 ((rd_T88 h64_0 x3).f0) ((rd_T88 h64_0 x3).f1)) else (some (false))) else none) else none) else (some (true)))
noncomputable def spec_ArenaOk.c8 : Nat → Int → Int → (List S88) → Bool → (List Int) → Option (Bool)
  | 0, _, _, _, _, _ => none
  | k + 1, x3, x5, h64_0, h65_0, h65_1 => (if x5 < 4 then (if 0 ≤ x5 then (if x5 < (h65_1.length : Int) then (if h65_0 = true then (if (rd_T3 h65_1 x5) < 0 then (some (false)) else (if h65_0 = true then (spec_ArenaOk.c8 k x3 (w64 (x5 + 1)) h64_0 h65_0 h65_1) else (if (rd_T3 h65_1 x5) = (-1) then (spec_ArenaOk.c8 k x3 (w64 (x5 + 1)) h64_0 h65_0 h65_1) else ((spec_l01In.f k (rd_T3 h65_1 x5) 0 (w64 (x3 - 1))).bind fun t1 => (if t1 = true then (if 0 ≤ (rd_T3 h65_1 x5) then (if (rd_T3 h65_1 x5) < (h64_0.length : Int) then (if ((rd_T88 h64_0 (rd_T3 h65_1 x5)).f0) = true then (spec_ArenaOk.c8 k x3 (w64 (x5 + 1)) h64_0 h65_0 h65_1) else (some (false))) else none) else none) else (some (false))))))) else (if h65_0 = true then (spec_ArenaOk.c8 k x3 (w64 (x5 + 1)) h64_0 h65_0 h65_1) else (if (rd_T3 h65_1 x5) = (-1) then (spec_ArenaOk.c8 k x3 (w64 (x5 + 1)) h64_0 h65_0 h65_1) else ((spec_l01In.f k (rd_T3 h65_1 x5) 0 (w64 (x3 - 1))).bind fun t2 => (if t2 = true then (if 0 ≤ (rd_T3 h65_1 x5) then (if (rd_T3 h65_1 x5) < (h64_0.length : Int) then (if ((rd_T88 h64_0 (rd_T3 h65_1 x5)).f0) = true then (spec_ArenaOk.c8 k x3 (w64 (x5 + 1)) h64_0 h65_0 h65_1) else (some (false))) else none) else none) else (some (false))))))) else none) else none) else (spec_ArenaOk.c2 k (w64 (x3 + 1)) h64_0))
end
noncomputable def spec_ArenaOk.f (k : Nat) (a0_0 : List S88) : Option (Bool) := (spec_ArenaOk.c2 k 0 a0_0)
noncomputable def spec_ArenaOk.e (r : Bool) : Res Ty D := (.sc (.bool r), [], [])
noncomputable abbrev spec_ArenaOk.g (rec : List Item → St Ty D → R) (k : Nat) := go1 Try.f75 (spec_ArenaOk.ctx k) spec_ArenaOk.sp 0 spec_ArenaOk.en rec
set_option maxRecDepth 100000 in
theorem spec_ArenaOk.t2 (rec : List Item → St Ty D → R) (k : Nat) (x3 : Int) (h64_0 : List S88) : spec_ArenaOk.g rec k (td Try.f75 2) (spec_ArenaOk.s2 x3 h64_0) =
  bif decide (x3 < (h64_0.length : Int)) then bif decide (0 ≤ x3) then bif decide (x3 < (h64_0.length : Int)) then bif !decide ((((rd_T88 h64_0 x3).f1).length : Int) = 4) then some (spec_ArenaOk.e (false)) else rec (td Try.f75 8) (spec_ArenaOk.s8 x3 0 h64_0 ((rd_T88 h64_0 x3).f0) ((rd_T88 h64_0 x3).f1)) else none else none else some (spec_ArenaOk.e (true)) := by kernel_rfl
set_option maxRecDepth 100000 in
theorem spec_ArenaOk.t8 (rec : List Item → St Ty D → R) (k : Nat) (x3 : Int) (x5 : Int) (h64_0 : List S88) (h65_0 : Bool) (h65_1 : List Int) : spec_ArenaOk.g rec k (td Try.f75 8) (spec_ArenaOk.s8 x3 x5 h64_0 h65_0 h65_1) =
  bif decide (x5 < 4) then bif decide (0 ≤ x5) then bif decide (x5 < (h65_1.length : Int)) then bif h65_0 then bif decide ((rd_T3 h65_1 x5) < 0) then some (spec_ArenaOk.e (false)) else bif !h65_0 then bif !decide ((rd_T3 h65_1 x5) = (-1)) then (spec_l01In.f k (rd_T3 h65_1 x5) 0 (w64 (x3 - 1))).bind fun t1 => bif !t1 then some (spec_ArenaOk.e (false)) else bif decide (0 ≤ (rd_T3 h65_1 x5)) then bif decide ((rd_T3 h65_1 x5) < (h64_0.length : Int)) then bif !((rd_T88 h64_0 (rd_T3 h65_1 x5)).f0) then some (spec_ArenaOk.e (false)) else rec (td Try.f75 8) (spec_ArenaOk.s8 x3 (w64 (x5 + 1)) h64_0 h65_0 h65_1) else none else none else rec (td Try.f75 8) (spec_ArenaOk.s8 x3 (w64 (x5 + 1)) h64_0 h65_0 h65_1) else rec (td Try.f75 8) (spec_ArenaOk.s8 x3 (w64 (x5 + 1)) h64_0 h65_0 h65_1) else bif !h65_0 then bif !decide ((rd_T3 h65_1 x5) = (-1)) then (spec_l01In.f k (rd_T3 h65_1 x5) 0 (w64 (x3 - 1))).bind fun t2 => bif !t2 then some (spec_ArenaOk.e (false)) else bif decide (0 ≤ (rd_T3 h65_1 x5)) then bif decide ((rd_T3 h65_1 x5) < (h64_0.length : Int)) then bif !((rd_T88 h64_0 (rd_T3 h65_1 x5)).f0) then some (spec_ArenaOk.e (false)) else rec (td Try.f75 8) (spec_ArenaOk.s8 x3 (w64 (x5 + 1)) h64_0 h65_0 h65_1) else none else none else rec (td Try.f75 8) (spec_ArenaOk.s8 x3 (w64 (x5 + 1)) h64_0 h65_0 h65_1) else rec (td Try.f75 8) (spec_ArenaOk.s8 x3 (w64 (x5 + 1)) h64_0 h65_0 h65_1) else none else none else rec (td Try.f75 2) (spec_ArenaOk.s2 (w64 (x3 + 1)) h64_0) := by kernel_rfl
set_option maxRecDepth 100000 in
theorem spec_ArenaOk.te (rec : List Item → St Ty D → R) (k : Nat) (a0_0 : List S88) : spec_ArenaOk.g rec k [.code (body Try.f75)] (startSt [.ag [.row 0 .t88 a0_0]] []) =
  rec (td Try.f75 2) (spec_ArenaOk.s2 0 a0_0) := by kernel_rfl
set_option maxRecDepth 100000 in
theorem spec_ArenaOk.ok : ∀ k : Nat, (∀ (x3 : Int) (h64_0 : List S88), goF Try.f75 spec_ArenaOk.ctx spec_ArenaOk.sp 0 spec_ArenaOk.en k (td Try.f75 2) (spec_ArenaOk.s2 x3 h64_0) = (spec_ArenaOk.c2 k x3 h64_0).map spec_ArenaOk.e) ∧ (∀ (x3 : Int) (x5 : Int) (h64_0 : List S88) (h65_0 : Bool) (h65_1 : List Int), goF Try.f75 spec_ArenaOk.ctx spec_ArenaOk.sp 0 spec_ArenaOk.en k (td Try.f75 8) (spec_ArenaOk.s8 x3 x5 h64_0 h65_0 h65_1) = (spec_ArenaOk.c8 k x3 x5 h64_0 h65_0 h65_1).map spec_ArenaOk.e)
  | 0 => ⟨fun _ _ => rfl, fun _ _ _ _ _ => rfl⟩
  | k + 1 => by
    have ih := spec_ArenaOk.ok k
    obtain ⟨i2, i8⟩ := ih
    refine ⟨?_, ?_⟩
    · intro x3 h64_0; rw [spec_ArenaOk.c2]; exact (spec_ArenaOk.t2 _ k x3 h64_0).trans (cd (cd (cd (nd rfl (i8 _ _ _ _ _)) rfl) rfl) rfl)
    · intro x3 x5 h64_0 h65_0 h65_1; rw [spec_ArenaOk.c8]; exact (spec_ArenaOk.t8 _ k x3 x5 h64_0 h65_0 h65_1).trans (cd (cd (cd (cb (cd rfl (nb (nd (bn (fun t1 => (nb rfl (cd (cd (nb rfl (i8 _ _ _ _ _)) rfl) rfl)))) (i8 _ _ _ _ _)) (i8 _ _ _ _ _))) (nb (nd (bn (fun t2 => (nb rfl (cd (cd (nb rfl (i8 _ _ _ _ _)) rfl) rfl)))) (i8 _ _ _ _ _)) (i8 _ _ _ _ _))) rfl) rfl) (i2 _ _))
set_option maxRecDepth 100000 in
theorem spec_ArenaOk.oke (k : Nat) (a0_0 : List S88) : goF Try.f75 spec_ArenaOk.ctx spec_ArenaOk.sp 0 spec_ArenaOk.en (k + 1) [.code (body Try.f75)] (startSt [.ag [.row 0 .t88 a0_0]] []) = (spec_ArenaOk.f k a0_0).map spec_ArenaOk.e := by
  obtain ⟨i2, i8⟩ := spec_ArenaOk.ok k
  rw [spec_ArenaOk.f]; exact (spec_ArenaOk.te _ k a0_0).trans (i2 _ _)
theorem spec_ArenaOk.con (k : Nat) (a0_0 : List S88) (r) (h : spec_ArenaOk.f k a0_0 = some r) : Contract Try.prog kit 75 [.ag [.row 0 .t88 a0_0]] [] (spec_ArenaOk.e r).1 (spec_ArenaOk.e r).2.1 (spec_ArenaOk.e r).2.2 :=
  con_okG kitOk mix (fun k => (CtxOk.cons (spec_l01In.xok k) CtxOk.nil)) (spec_ArenaOk.oke k a0_0) h (by kernel_rfl) (by kernel_rfl) (by kernel_rfl) rfl (by kernel_rfl) rfl rfl
noncomputable def spec_ArenaOk.x (k : Nat) : X := fun ins bs κ => match ins, bs with
  | [.ag [.row 0 .t88 a0_0]], [] => (spec_ArenaOk.f k a0_0).bind fun r => κ (spec_ArenaOk.e r).1 (spec_ArenaOk.e r).2.1 (spec_ArenaOk.e r).2.2
  | _, _ => none
theorem spec_ArenaOk.xok (k : Nat) : XOk 75 (spec_ArenaOk.x k) := by
  intro ins bs κ res h
  unfold spec_ArenaOk.x at h
  split at h
  · obtain ⟨r, hr, h⟩ := Option.bind_eq_some_iff.1 h
    exact ⟨_, _, _, spec_ArenaOk.con k _ r hr, h⟩
  · cases h

/-! ### spec_l11Root: function 77 -/
noncomputable def spec_l11Root.sp : Nat → Option (Spec Ty) := fun r => none
noncomputable def spec_l11Root.en : Option (Spec Ty) := none
noncomputable def spec_l11Root.ctx (k : Nat) : Ctx Ty D := (cons 76 (spec_l01In.x k) (fun _ _ _ _ => none))
noncomputable def spec_l11Root.f (k : Nat) (a0_0 : List S88) (a1 : Int) : Option (Bool) := (if a1 = (-1) then (some (true)) else ((spec_l01In.f k a1 0 (w64 ((a0_0.length : Int) - 1))).bind fun t1 => (if t1 = true then (if 0 ≤ a1 then (if a1 < (a0_0.length : Int) then (some ((!((rd_T88 a0_0 a1).f0)))) else none) else none) else (some (false)))))
noncomputable def spec_l11Root.e (r : Bool) : Res Ty D := (.sc (.bool r), [], [])
noncomputable abbrev spec_l11Root.g (rec : List Item → St Ty D → R) (k : Nat) := go1 Try.f77 (spec_l11Root.ctx k) spec_l11Root.sp 0 spec_l11Root.en rec
set_option maxRecDepth 100000 in
theorem spec_l11Root.te (rec : List Item → St Ty D → R) (k : Nat) (a0_0 : List S88) (a1 : Int) : spec_l11Root.g rec k [.code (body Try.f77)] (startSt [.ag [.row 0 .t88 a0_0], .sc (.int .i64 a1)] []) =
  bif decide (a1 = (-1)) then some (spec_l11Root.e (true)) else (spec_l01In.f k a1 0 (w64 ((a0_0.length : Int) - 1))).bind fun t1 => bif t1 then bif decide (0 ≤ a1) then bif decide (a1 < (a0_0.length : Int)) then some (spec_l11Root.e ((!((rd_T88 a0_0 a1).f0)))) else none else none else some (spec_l11Root.e (false)) := by kernel_rfl
set_option maxRecDepth 100000 in
theorem spec_l11Root.oke (k : Nat) (a0_0 : List S88) (a1 : Int) : goF Try.f77 spec_l11Root.ctx spec_l11Root.sp 0 spec_l11Root.en (k + 1) [.code (body Try.f77)] (startSt [.ag [.row 0 .t88 a0_0], .sc (.int .i64 a1)] []) = (spec_l11Root.f k a0_0 a1).map spec_l11Root.e := by
  rw [spec_l11Root.f]; exact (spec_l11Root.te _ k a0_0 a1).trans (cd rfl (bn (fun t1 => (cb (cd (cd rfl rfl) rfl) rfl))))
theorem spec_l11Root.con (k : Nat) (a0_0 : List S88) (a1 : Int) (r) (h : spec_l11Root.f k a0_0 a1 = some r) : Contract Try.prog kit 77 [.ag [.row 0 .t88 a0_0], .sc (.int .i64 a1)] [] (spec_l11Root.e r).1 (spec_l11Root.e r).2.1 (spec_l11Root.e r).2.2 :=
  con_okG kitOk mix (fun k => (CtxOk.cons (spec_l01In.xok k) CtxOk.nil)) (spec_l11Root.oke k a0_0 a1) h (by kernel_rfl) (by kernel_rfl) (by kernel_rfl) rfl (by kernel_rfl) rfl rfl
noncomputable def spec_l11Root.x (k : Nat) : X := fun ins bs κ => match ins, bs with
  | [.ag [.row 0 .t88 a0_0], .sc (.int .i64 a1)], [] => (spec_l11Root.f k a0_0 a1).bind fun r => κ (spec_l11Root.e r).1 (spec_l11Root.e r).2.1 (spec_l11Root.e r).2.2
  | _, _ => none
theorem spec_l11Root.xok (k : Nat) : XOk 77 (spec_l11Root.x k) := by
  intro ins bs κ res h
  unfold spec_l11Root.x at h
  split at h
  · obtain ⟨r, hr, h⟩ := Option.bind_eq_some_iff.1 h
    exact ⟨_, _, _, spec_l11Root.con k _ _ r hr, h⟩
  · cases h

/-! ### spec_l11Get: function 78 -/
noncomputable def spec_l11Get.sp : Nat → Option (Spec Ty) := fun r => none
noncomputable def spec_l11Get.en : Option (Spec Ty) := none
noncomputable def spec_l11Get.ctx (k : Nat) : Ctx Ty D := (fun _ _ _ _ => none)
noncomputable def spec_l11Get.f (k : Nat) (a0_0 : List S88) (a1 : Int) (a2 : Int) : Option (Int) := (if a1 < 0 then (some (0)) else (if 0 ≤ a1 then (if a1 < (a0_0.length : Int) then (if 0 ≤ (w64 (Int.tdiv a2 4)) then (if (w64 (Int.tdiv a2 4)) < (((rd_T88 a0_0 a1).f1).length : Int) then (if (rd_T3 ((rd_T88 a0_0 a1).f1) (w64 (Int.tdiv a2 4))) < 0 then (some (0)) else (if 0 ≤ (rd_T3 ((rd_T88 a0_0 a1).f1) (w64 (Int.tdiv a2 4))) then (if (rd_T3 ((rd_T88 a0_0 a1).f1) (w64 (Int.tdiv a2 4))) < (a0_0.length : Int) then (if 0 ≤ (Int.tmod a2 4) then (if (Int.tmod a2 4) < (((rd_T88 a0_0 (rd_T3 ((rd_T88 a0_0 a1).f1) (w64 (Int.tdiv a2 4)))).f1).length : Int) then (some ((rd_T3 ((rd_T88 a0_0 (rd_T3 ((rd_T88 a0_0 a1).f1) (w64 (Int.tdiv a2 4)))).f1) (Int.tmod a2 4)))) else none) else none) else none) else none)) else none) else none) else none) else none))
noncomputable def spec_l11Get.e (r : Int) : Res Ty D := (.sc (.int .i64 r), [], [])
noncomputable abbrev spec_l11Get.g (rec : List Item → St Ty D → R) (k : Nat) := go1 Try.f78 (spec_l11Get.ctx k) spec_l11Get.sp 0 spec_l11Get.en rec
set_option maxRecDepth 100000 in
theorem spec_l11Get.te (rec : List Item → St Ty D → R) (k : Nat) (a0_0 : List S88) (a1 : Int) (a2 : Int) : spec_l11Get.g rec k [.code (body Try.f78)] (startSt [.ag [.row 0 .t88 a0_0], .sc (.int .i64 a1), .sc (.int .i64 a2)] []) =
  bif decide (a1 < 0) then some (spec_l11Get.e (0)) else bif decide (0 ≤ a1) then bif decide (a1 < (a0_0.length : Int)) then bif decide (0 ≤ (w64 (Int.tdiv a2 4))) then bif decide ((w64 (Int.tdiv a2 4)) < (((rd_T88 a0_0 a1).f1).length : Int)) then bif decide ((rd_T3 ((rd_T88 a0_0 a1).f1) (w64 (Int.tdiv a2 4))) < 0) then some (spec_l11Get.e (0)) else bif decide (0 ≤ (rd_T3 ((rd_T88 a0_0 a1).f1) (w64 (Int.tdiv a2 4)))) then bif decide ((rd_T3 ((rd_T88 a0_0 a1).f1) (w64 (Int.tdiv a2 4))) < (a0_0.length : Int)) then bif decide (0 ≤ (Int.tmod a2 4)) then bif decide ((Int.tmod a2 4) < (((rd_T88 a0_0 (rd_T3 ((rd_T88 a0_0 a1).f1) (w64 (Int.tdiv a2 4)))).f1).length : Int)) then some (spec_l11Get.e ((rd_T3 ((rd_T88 a0_0 (rd_T3 ((rd_T88 a0_0 a1).f1) (w64 (Int.tdiv a2 4)))).f1) (Int.tmod a2 4)))) else none else none else none else none else none else none else none else none := by kernel_rfl
set_option maxRecDepth 100000 in
theorem spec_l11Get.oke (k : Nat) (a0_0 : List S88) (a1 : Int) (a2 : Int) : goF Try.f78 spec_l11Get.ctx spec_l11Get.sp 0 spec_l11Get.en (k + 1) [.code (body Try.f78)] (startSt [.ag [.row 0 .t88 a0_0], .sc (.int .i64 a1), .sc (.int .i64 a2)] []) = (spec_l11Get.f k a0_0 a1 a2).map spec_l11Get.e := by
  rw [spec_l11Get.f]; exact (spec_l11Get.te _ k a0_0 a1 a2).trans (cd rfl (cd (cd (cd (cd (cd rfl (cd (cd (cd (cd rfl rfl) rfl) rfl) rfl)) rfl) rfl) rfl) rfl))
theorem spec_l11Get.con (k : Nat) (a0_0 : List S88) (a1 : Int) (a2 : Int) (r) (h : spec_l11Get.f k a0_0 a1 a2 = some r) : Contract Try.prog kit 78 [.ag [.row 0 .t88 a0_0], .sc (.int .i64 a1), .sc (.int .i64 a2)] [] (spec_l11Get.e r).1 (spec_l11Get.e r).2.1 (spec_l11Get.e r).2.2 :=
  con_okG kitOk mix (fun k => CtxOk.nil) (spec_l11Get.oke k a0_0 a1 a2) h (by kernel_rfl) (by kernel_rfl) (by kernel_rfl) rfl (by kernel_rfl) rfl rfl
noncomputable def spec_l11Get.x (k : Nat) : X := fun ins bs κ => match ins, bs with
  | [.ag [.row 0 .t88 a0_0], .sc (.int .i64 a1), .sc (.int .i64 a2)], [] => (spec_l11Get.f k a0_0 a1 a2).bind fun r => κ (spec_l11Get.e r).1 (spec_l11Get.e r).2.1 (spec_l11Get.e r).2.2
  | _, _ => none
theorem spec_l11Get.xok (k : Nat) : XOk 78 (spec_l11Get.x k) := by
  intro ins bs κ res h
  unfold spec_l11Get.x at h
  split at h
  · obtain ⟨r, hr, h⟩ := Option.bind_eq_some_iff.1 h
    exact ⟨_, _, _, spec_l11Get.con k _ _ _ r hr, h⟩
  · cases h

/-! ### spec_l11Copy: function 81 -/
noncomputable def spec_l11Copy.sp : Nat → Option (Spec Ty) := fun r => bif Nat.beq r 3 then some ⟨[(1, .box [.keep]), (2, .box [.own .t88]), (3, .box [.own .t88]), (4, .keep)], []⟩ else none
noncomputable def spec_l11Copy.en : Option (Spec Ty) := some ⟨[(2, .box [.own .t88])], []⟩
noncomputable def spec_l11Copy.s3 (x4 : Int) (h64_0 : List S88) (h66 : List S88) (h68 : List S88) : St Ty D := ⟨(Env.put (Env.put (Env.put (Env.put E (some 1) (.pt 64 0 0)) (some 2) (.pt 65 0 0)) (some 3) (.pt 67 0 0)) (some 4) (.sc (.int .i64 x4))), Heap.put H0 [(64, some (.box [.row 0 .t88 h64_0])), (66, some (.rowb .t88 h66 0)), (65, some (.box [.sl 66 none])), (68, some (.rowb .t88 h68 0)), (67, some (.box [.sl 68 none]))], 1000⟩
noncomputable def spec_l11Copy.ctx (k : Nat) : Ctx Ty D := (fun _ _ _ _ => none)
noncomputable def spec_l11Copy.c3 : Nat → Int → (List S88) → (List S88) → (List S88) → Option ((List S88))
  | 0, _, _, _, _ => none
  | k + 1, x4, h64_0, h66, h68 => (if x4 < (h64_0.length : Int) then (if 0 ≤ x4 then (if x4 < (h64_0.length : Int) then (if 0 ≤ x4 then (if x4 < (h64_0.length : Int) then (if ([] : List Int).length + ((rd_T88 h64_0 x4).f1).length ≤ 17592186044416 then (if h68.length + ([(S88.mk ((rd_T88 h64_0 x4).f0) (([] : List Int) ++ ((rd_T88 h64_0 x4).f1)))] : List S88).length ≤ 4398046511104 then (spec_l11Copy.c3 k (w64 (x4 + 1)) h64_0 h66 (h68 ++ ([(S88.mk ((rd_T88 h64_0 x4).f0) (([] : List Int) ++ ((rd_T88 h64_0 x4).f1)))] : List S88))) else none) else none) else none) else none) else none) else none) else (some (h68)))
noncomputable def spec_l11Copy.f (k : Nat) (a0_0 : List S88) : Option ((List S88)) := (spec_l11Copy.c3 k 0 a0_0 ([] : List S88) ([] : List S88))
noncomputable def spec_l11Copy.e (r : (List S88)) : Res Ty D := (.ag [.sl 0 none], [], [.rowb .t88 r 0])
noncomputable abbrev spec_l11Copy.g (rec : List Item → St Ty D → R) (k : Nat) := go1 Try.f81 (spec_l11Copy.ctx k) spec_l11Copy.sp 0 spec_l11Copy.en rec
set_option maxRecDepth 100000 in
theorem spec_l11Copy.t3 (rec : List Item → St Ty D → R) (k : Nat) (x4 : Int) (h64_0 : List S88) (h66 : List S88) (h68 : List S88) : spec_l11Copy.g rec k (td Try.f81 3) (spec_l11Copy.s3 x4 h64_0 h66 h68) =
  bif decide (x4 < (h64_0.length : Int)) then bif decide (0 ≤ x4) then bif decide (x4 < (h64_0.length : Int)) then bif decide (0 ≤ x4) then bif decide (x4 < (h64_0.length : Int)) then bif decide (([] : List Int).length + ((rd_T88 h64_0 x4).f1).length ≤ 17592186044416) then bif decide (h68.length + ([(S88.mk ((rd_T88 h64_0 x4).f0) (([] : List Int) ++ ((rd_T88 h64_0 x4).f1)))] : List S88).length ≤ 4398046511104) then rec (td Try.f81 3) (spec_l11Copy.s3 (w64 (x4 + 1)) h64_0 h66 (h68 ++ ([(S88.mk ((rd_T88 h64_0 x4).f0) (([] : List Int) ++ ((rd_T88 h64_0 x4).f1)))] : List S88))) else none else none else none else none else none else none else some (spec_l11Copy.e (h68)) := by kernel_rfl
set_option maxRecDepth 100000 in
theorem spec_l11Copy.te (rec : List Item → St Ty D → R) (k : Nat) (a0_0 : List S88) : spec_l11Copy.g rec k [.code (body Try.f81)] (startSt [.ag [.row 0 .t88 a0_0]] []) =
  rec (td Try.f81 3) (spec_l11Copy.s3 0 a0_0 ([] : List S88) ([] : List S88)) := by kernel_rfl
set_option maxRecDepth 100000 in
theorem spec_l11Copy.ok : ∀ k : Nat, (∀ (x4 : Int) (h64_0 : List S88) (h66 : List S88) (h68 : List S88), goF Try.f81 spec_l11Copy.ctx spec_l11Copy.sp 0 spec_l11Copy.en k (td Try.f81 3) (spec_l11Copy.s3 x4 h64_0 h66 h68) = (spec_l11Copy.c3 k x4 h64_0 h66 h68).map spec_l11Copy.e)
  | 0 => fun _ _ _ _ => rfl
  | k + 1 => by
    have ih := spec_l11Copy.ok k
    have i3 := ih
    intro x4 h64_0 h66 h68; rw [spec_l11Copy.c3]; exact (spec_l11Copy.t3 _ k x4 h64_0 h66 h68).trans (cd (cd (cd (cd (cd (cd (cd (i3 _ _ _ _) rfl) rfl) rfl) rfl) rfl) rfl) rfl)
set_option maxRecDepth 100000 in
theorem spec_l11Copy.oke (k : Nat) (a0_0 : List S88) : goF Try.f81 spec_l11Copy.ctx spec_l11Copy.sp 0 spec_l11Copy.en (k + 1) [.code (body Try.f81)] (startSt [.ag [.row 0 .t88 a0_0]] []) = (spec_l11Copy.f k a0_0).map spec_l11Copy.e := by
  have i3 := spec_l11Copy.ok k
  rw [spec_l11Copy.f]; exact (spec_l11Copy.te _ k a0_0).trans (i3 _ _ _ _)
theorem spec_l11Copy.con (k : Nat) (a0_0 : List S88) (r) (h : spec_l11Copy.f k a0_0 = some r) : Contract Try.prog kit 81 [.ag [.row 0 .t88 a0_0]] [] (spec_l11Copy.e r).1 (spec_l11Copy.e r).2.1 (spec_l11Copy.e r).2.2 :=
  con_okG kitOk mix (fun k => CtxOk.nil) (spec_l11Copy.oke k a0_0) h (by kernel_rfl) (by kernel_rfl) (by kernel_rfl) rfl (by kernel_rfl) rfl rfl
noncomputable def spec_l11Copy.x (k : Nat) : X := fun ins bs κ => match ins, bs with
  | [.ag [.row 0 .t88 a0_0]], [] => (spec_l11Copy.f k a0_0).bind fun r => κ (spec_l11Copy.e r).1 (spec_l11Copy.e r).2.1 (spec_l11Copy.e r).2.2
  | _, _ => none
theorem spec_l11Copy.xok (k : Nat) : XOk 81 (spec_l11Copy.x k) := by
  intro ins bs κ res h
  unfold spec_l11Copy.x at h
  split at h
  · obtain ⟨r, hr, h⟩ := Option.bind_eq_some_iff.1 h
    exact ⟨_, _, _, spec_l11Copy.con k _ r hr, h⟩
  · cases h

/-! ### spec_l11Has: function 97 -/
noncomputable def spec_l11Has.sp : Nat → Option (Spec Ty) := fun r => bif Nat.beq r 6 then some ⟨[(1, .keep), (2, .box [.keep]), (5, .own .t4), (6, .keep)], []⟩ else none
noncomputable def spec_l11Has.en : Option (Spec Ty) := some ⟨[(4, .own .t4)], []⟩
noncomputable def spec_l11Has.s6 (x1 : Int) (x6 : Int) (h64_0 : List S88) (h65 : List Bool) : St Ty D := ⟨(Env.put (Env.put (Env.put (Env.put E (some 1) (.sc (.int .i64 x1))) (some 2) (.pt 64 0 0)) (some 5) (.sl 65 none)) (some 6) (.sc (.int .i64 x6))), Heap.put H0 [(64, some (.box [.row 0 .t88 h64_0])), (65, some (.rowb .t4 h65 0))], 1000⟩
noncomputable def spec_l11Has.ctx (k : Nat) : Ctx Ty D := (fun _ _ _ _ => none)
noncomputable def spec_l11Has.c6 : Nat → Int → Int → (List S88) → (List Bool) → Option ((List Bool))
  | 0, _, _, _, _ => none
  | k + 1, x1, x6, h64_0, h65 => (if x6 < 4 then (if 0 ≤ x1 then (if x1 < (h64_0.length : Int) then (if 0 ≤ x6 then (if x6 < (((rd_T88 h64_0 x1).f1).length : Int) then (if (rd_T3 ((rd_T88 h64_0 x1).f1) x6) ≥ 0 then (if 0 ≤ x1 then (if x1 < (h64_0.length : Int) then (if 0 ≤ x6 then (if x6 < (((rd_T88 h64_0 x1).f1).length : Int) then (if 0 ≤ (rd_T3 ((rd_T88 h64_0 x1).f1) x6) then (if (rd_T3 ((rd_T88 h64_0 x1).f1) x6) < (h65.length : Int) then (spec_l11Has.c6 k x1 (w64 (x6 + 1)) h64_0 (h65.set ((rd_T3 ((rd_T88 h64_0 x1).f1) x6).toNat) true)) else none) else none) else none) else none) else none) else none) else (spec_l11Has.c6 k x1 (w64 (x6 + 1)) h64_0 h65)) else none) else none) else none) else none) else (some (h65)))
noncomputable def spec_l11Has.f (k : Nat) (a0_0 : List S88) (a1 : Int) : Option ((List Bool)) := (if 0 ≤ (a0_0.length : Int) then (if (a0_0.length : Int).toNat ≤ 281474976710656 then (if a1 < 0 then (some ((List.replicate ((a0_0.length : Int).toNat) z4))) else (if 0 ≤ a1 then (if a1 < ((List.replicate ((a0_0.length : Int).toNat) z4).length : Int) then (spec_l11Has.c6 k a1 0 a0_0 ((List.replicate ((a0_0.length : Int).toNat) z4).set a1.toNat true)) else none) else none)) else none) else none)
noncomputable def spec_l11Has.e (r : (List Bool)) : Res Ty D := (.sl 0 none, [], [.rowb .t4 r 0])
noncomputable abbrev spec_l11Has.g (rec : List Item → St Ty D → R) (k : Nat) := go1 Try.f97 (spec_l11Has.ctx k) spec_l11Has.sp 0 spec_l11Has.en rec
set_option maxRecDepth 100000 in
theorem spec_l11Has.t6 (rec : List Item → St Ty D → R) (k : Nat) (x1 : Int) (x6 : Int) (h64_0 : List S88) (h65 : List Bool) : spec_l11Has.g rec k (td Try.f97 6) (spec_l11Has.s6 x1 x6 h64_0 h65) =
  bif decide (x6 < 4) then bif decide (0 ≤ x1) then bif decide (x1 < (h64_0.length : Int)) then bif decide (0 ≤ x6) then bif decide (x6 < (((rd_T88 h64_0 x1).f1).length : Int)) then bif decide ((rd_T3 ((rd_T88 h64_0 x1).f1) x6) ≥ 0) then bif decide (0 ≤ x1) then bif decide (x1 < (h64_0.length : Int)) then bif decide (0 ≤ x6) then bif decide (x6 < (((rd_T88 h64_0 x1).f1).length : Int)) then bif decide (0 ≤ (rd_T3 ((rd_T88 h64_0 x1).f1) x6)) then bif decide ((rd_T3 ((rd_T88 h64_0 x1).f1) x6) < (h65.length : Int)) then rec (td Try.f97 6) (spec_l11Has.s6 x1 (w64 (x6 + 1)) h64_0 (h65.set ((rd_T3 ((rd_T88 h64_0 x1).f1) x6).toNat) true)) else none else none else none else none else none else none else rec (td Try.f97 6) (spec_l11Has.s6 x1 (w64 (x6 + 1)) h64_0 h65) else none else none else none else none else some (spec_l11Has.e (h65)) := by kernel_rfl
set_option maxRecDepth 100000 in
theorem spec_l11Has.te (rec : List Item → St Ty D → R) (k : Nat) (a0_0 : List S88) (a1 : Int) : spec_l11Has.g rec k [.code (body Try.f97)] (startSt [.ag [.row 0 .t88 a0_0], .sc (.int .i64 a1)] []) =
  bif decide ((a0_0.length : Int) = (a0_0.length : Int)) then bif decide (0 ≤ (a0_0.length : Int)) then bif decide ((a0_0.length : Int).toNat ≤ 281474976710656) then bif decide (a1 < 0) then some (spec_l11Has.e ((List.replicate ((a0_0.length : Int).toNat) z4))) else bif decide (0 ≤ a1) then bif decide (a1 < ((List.replicate ((a0_0.length : Int).toNat) z4).length : Int)) then rec (td Try.f97 6) (spec_l11Has.s6 a1 0 a0_0 ((List.replicate ((a0_0.length : Int).toNat) z4).set a1.toNat true)) else none else none else none else none else none := by kernel_rfl
set_option maxRecDepth 100000 in
theorem spec_l11Has.ok : ∀ k : Nat, (∀ (x1 : Int) (x6 : Int) (h64_0 : List S88) (h65 : List Bool), goF Try.f97 spec_l11Has.ctx spec_l11Has.sp 0 spec_l11Has.en k (td Try.f97 6) (spec_l11Has.s6 x1 x6 h64_0 h65) = (spec_l11Has.c6 k x1 x6 h64_0 h65).map spec_l11Has.e)
  | 0 => fun _ _ _ _ => rfl
  | k + 1 => by
    have ih := spec_l11Has.ok k
    have i6 := ih
    intro x1 x6 h64_0 h65; rw [spec_l11Has.c6]; exact (spec_l11Has.t6 _ k x1 x6 h64_0 h65).trans (cd (cd (cd (cd (cd (cd (cd (cd (cd (cd (cd (cd (i6 _ _ _ _) rfl) rfl) rfl) rfl) rfl) rfl) (i6 _ _ _ _)) rfl) rfl) rfl) rfl) rfl)
set_option maxRecDepth 100000 in
theorem spec_l11Has.oke (k : Nat) (a0_0 : List S88) (a1 : Int) : goF Try.f97 spec_l11Has.ctx spec_l11Has.sp 0 spec_l11Has.en (k + 1) [.code (body Try.f97)] (startSt [.ag [.row 0 .t88 a0_0], .sc (.int .i64 a1)] []) = (spec_l11Has.f k a0_0 a1).map spec_l11Has.e := by
  have i6 := spec_l11Has.ok k
  rw [spec_l11Has.f]; exact (spec_l11Has.te _ k a0_0 a1).trans (sf (cd (cd (cd rfl (cd (cd (i6 _ _ _ _) rfl) rfl)) rfl) rfl))
theorem spec_l11Has.con (k : Nat) (a0_0 : List S88) (a1 : Int) (r) (h : spec_l11Has.f k a0_0 a1 = some r) : Contract Try.prog kit 97 [.ag [.row 0 .t88 a0_0], .sc (.int .i64 a1)] [] (spec_l11Has.e r).1 (spec_l11Has.e r).2.1 (spec_l11Has.e r).2.2 :=
  con_okG kitOk mix (fun k => CtxOk.nil) (spec_l11Has.oke k a0_0 a1) h (by kernel_rfl) (by kernel_rfl) (by kernel_rfl) rfl (by kernel_rfl) rfl rfl
noncomputable def spec_l11Has.x (k : Nat) : X := fun ins bs κ => match ins, bs with
  | [.ag [.row 0 .t88 a0_0], .sc (.int .i64 a1)], [] => (spec_l11Has.f k a0_0 a1).bind fun r => κ (spec_l11Has.e r).1 (spec_l11Has.e r).2.1 (spec_l11Has.e r).2.2
  | _, _ => none
theorem spec_l11Has.xok (k : Nat) : XOk 97 (spec_l11Has.x k) := by
  intro ins bs κ res h
  unfold spec_l11Has.x at h
  split at h
  · obtain ⟨r, hr, h⟩ := Option.bind_eq_some_iff.1 h
    exact ⟨_, _, _, spec_l11Has.con k _ _ r hr, h⟩
  · cases h

/-! ### spec_SweepArena: function 79 -/
noncomputable def spec_SweepArena.sp : Nat → Option (Spec Ty) := fun r => bif Nat.beq r 4 then some ⟨[(1, .keep), (2, .box [.keep]), (4, .box [.own .t88]), (6, .own .t3), (7, .keep), (8, .keep)], []⟩ else bif Nat.beq r 11 then some ⟨[(1, .keep), (2, .box [.keep]), (4, .box [.own .t88]), (6, .own .t3), (9, .own .t4), (10, .keep)], []⟩ else bif Nat.beq r 15 then some ⟨[(1, .keep), (2, .box [.keep]), (4, .box [.own .t88]), (6, .own .t3), (9, .own .t4), (10, .keep), (11, .own .t4), (12, .keep)], []⟩ else bif Nat.beq r 21 then some ⟨[(2, .box [.keep]), (4, .box [.own .t88]), (6, .own .t3), (9, .own .t4), (13, .own .t3), (14, .box [.own .t88]), (15, .keep)], []⟩ else bif Nat.beq r 26 then some ⟨[(2, .box [.keep]), (4, .box [.own .t88]), (6, .own .t3), (9, .own .t4), (13, .own .t3), (14, .box [.own .t88]), (15, .keep), (16, .box [.keep, .own .t3]), (17, .keep)], []⟩ else bif Nat.beq r 33 then some ⟨[(4, .box [.own .t88]), (6, .own .t3), (13, .own .t3), (14, .box [.own .t88]), (18, .keep)], []⟩ else none
noncomputable def spec_SweepArena.en : Option (Spec Ty) := some ⟨[(4, .box [.own .t88]), (5, .own .t3)], []⟩
noncomputable def spec_SweepArena.s4 (x1 : List Int) (x7 : Bool) (x8 : Int) (h64_0 : List S88) (h66 : List S88) (h67 : List Int) : St Ty D := ⟨(Env.put (Env.put (Env.put (Env.put (Env.put (Env.put E (some 1) (.row 0 .t3 x1)) (some 2) (.pt 64 0 0)) (some 4) (.pt 65 0 0)) (some 6) (.sl 67 none)) (some 7) (.sc (.bool x7))) (some 8) (.sc (.int .i64 x8))), Heap.put H0 [(64, some (.box [.row 0 .t88 h64_0])), (66, some (.rowb .t88 h66 0)), (65, some (.box [.sl 66 none])), (67, some (.rowb .t3 h67 0))], 1000⟩
noncomputable def spec_SweepArena.s11 (x1 : List Int) (x10 : Int) (h64_0 : List S88) (h66 : List S88) (h67 : List Int) (h68 : List Bool) : St Ty D := ⟨(Env.put (Env.put (Env.put (Env.put (Env.put (Env.put E (some 1) (.row 0 .t3 x1)) (some 2) (.pt 64 0 0)) (some 4) (.pt 65 0 0)) (some 6) (.sl 67 none)) (some 9) (.sl 68 none)) (some 10) (.sc (.int .i64 x10))), Heap.put H0 [(64, some (.box [.row 0 .t88 h64_0])), (66, some (.rowb .t88 h66 0)), (65, some (.box [.sl 66 none])), (67, some (.rowb .t3 h67 0)), (68, some (.rowb .t4 h68 0))], 1000⟩
noncomputable def spec_SweepArena.s15 (x1 : List Int) (x10 : Int) (x12 : Int) (h64_0 : List S88) (h66 : List S88) (h67 : List Int) (h68 : List Bool) (h69 : List Bool) : St Ty D := ⟨(Env.put (Env.put (Env.put (Env.put (Env.put (Env.put (Env.put (Env.put E (some 1) (.row 0 .t3 x1)) (some 2) (.pt 64 0 0)) (some 4) (.pt 65 0 0)) (some 6) (.sl 67 none)) (some 9) (.sl 68 none)) (some 10) (.sc (.int .i64 x10))) (some 11) (.sl 69 none)) (some 12) (.sc (.int .i64 x12))), Heap.put H0 [(64, some (.box [.row 0 .t88 h64_0])), (66, some (.rowb .t88 h66 0)), (65, some (.box [.sl 66 none])), (67, some (.rowb .t3 h67 0)), (68, some (.rowb .t4 h68 0)), (69, some (.rowb .t4 h69 0))], 1000⟩
noncomputable def spec_SweepArena.s21 (x15 : Int) (h64_0 : List S88) (h66 : List S88) (h67 : List Int) (h68 : List Bool) (h69 : List Int) (h71 : List S88) : St Ty D := ⟨(Env.put (Env.put (Env.put (Env.put (Env.put (Env.put (Env.put E (some 2) (.pt 64 0 0)) (some 4) (.pt 65 0 0)) (some 6) (.sl 67 none)) (some 9) (.sl 68 none)) (some 13) (.sl 69 none)) (some 14) (.pt 70 0 0)) (some 15) (.sc (.int .i64 x15))), Heap.put H0 [(64, some (.box [.row 0 .t88 h64_0])), (66, some (.rowb .t88 h66 0)), (65, some (.box [.sl 66 none])), (67, some (.rowb .t3 h67 0)), (68, some (.rowb .t4 h68 0)), (69, some (.rowb .t3 h69 0)), (71, some (.rowb .t88 h71 0)), (70, some (.box [.sl 71 none]))], 1000⟩
noncomputable def spec_SweepArena.s26 (x15 : Int) (x17 : Int) (h64_0 : List S88) (h66 : List S88) (h67 : List Int) (h68 : List Bool) (h69 : List Int) (h71 : List S88) (h73 : List Int) (h72_0 : Bool) : St Ty D := ⟨(Env.put (Env.put (Env.put (Env.put (Env.put (Env.put (Env.put (Env.put (Env.put E (some 2) (.pt 64 0 0)) (some 4) (.pt 65 0 0)) (some 6) (.sl 67 none)) (some 9) (.sl 68 none)) (some 13) (.sl 69 none)) (some 14) (.pt 70 0 0)) (some 15) (.sc (.int .i64 x15))) (some 16) (.pt 72 0 0)) (some 17) (.sc (.int .i64 x17))), Heap.put H0 [(64, some (.box [.row 0 .t88 h64_0])), (66, some (.rowb .t88 h66 0)), (65, some (.box [.sl 66 none])), (67, some (.rowb .t3 h67 0)), (68, some (.rowb .t4 h68 0)), (69, some (.rowb .t3 h69 0)), (71, some (.rowb .t88 h71 0)), (70, some (.box [.sl 71 none])), (73, some (.rowb .t3 h73 0)), (72, some (.box [.sc (.bool h72_0), .sl 73 none]))], 1000⟩
noncomputable def spec_SweepArena.s33 (x18 : Int) (h65 : List S88) (h66 : List Int) (h67 : List Int) (h69 : List S88) : St Ty D := ⟨(Env.put (Env.put (Env.put (Env.put (Env.put E (some 4) (.pt 64 0 0)) (some 6) (.sl 66 none)) (some 13) (.sl 67 none)) (some 14) (.pt 68 0 0)) (some 18) (.sc (.int .i64 x18))), Heap.put H0 [(65, some (.rowb .t88 h65 0)), (64, some (.box [.sl 65 none])), (66, some (.rowb .t3 h66 0)), (67, some (.rowb .t3 h67 0)), (69, some (.rowb .t88 h69 0)), (68, some (.box [.sl 69 none]))], 1000⟩
noncomputable def spec_SweepArena.ctx (k : Nat) : Ctx Ty D := (cons 75 (spec_ArenaOk.x k) (cons 77 (spec_l11Root.x k) (cons 81 (spec_l11Copy.x k) (cons 97 (spec_l11Has.x k) (fun _ _ _ _ => none)))))
mutual
noncomputable def spec_SweepArena.c4 : Nat → (List Int) → Bool → Int → (List S88) → (List S88) → (List Int) → Option ((List S88) × (List Int))
  | 0, _, _, _, _, _, _ => none
  | k + 1, x1, x7, x8, h64_0, h66, h67 => (if x8 < (x1.length : Int) then (if x7 = true then (if 0 ≤ x8 then (if x8 < (x1.length : Int) then ((spec_l11Root.f k h64_0 (rd_T3 x1 x8)).bind fun t2 => (spec_SweepArena.c4 k x1 t2 (w64 (x8 + 1)) h64_0 h66 h67)) else none) else none) else (if x7 = true then (if 0 ≤ (h64_0.length : Int) then (if (h64_0.length : Int).toNat ≤ 281474976710656 then (spec_SweepArena.c11 k x1 0 h64_0 h66 h67 (List.replicate ((h64_0.length : Int).toNat) z4)) else none) else none) else ((spec_l11Copy.f k h64_0).bind fun t3 => (some (t3, h67))))) else (if x7 = true then (if 0 ≤ (h64_0.length : Int) then (if (h64_0.length : Int).toNat ≤ 281474976710656 then (spec_SweepArena.c11 k x1 0 h64_0 h66 h67 (List.replicate ((h64_0.length : Int).toNat) z4)) else none) else none) else ((spec_l11Copy.f k h64_0).bind fun t4 => (some (t4, h67)))))
noncomputable def spec_SweepArena.c11 : Nat → (List Int) → Int → (List S88) → (List S88) → (List Int) → (List Bool) → Option ((List S88) × (List Int))
  | 0, _, _, _, _, _, _ => none
  | k + 1, x1, x10, h64_0, h66, h67, h68 => (if x10 < (x1.length : Int) then (if 0 ≤ x10 then (if x10 < (x1.length : Int) then ((spec_l11Has.f k h64_0 (rd_T3 x1 x10)).bind fun t5 => (spec_SweepArena.c15 k x1 x10 0 h64_0 h66 h67 h68 t5)) else none) else none) else (if 0 ≤ (h64_0.length : Int) then (if (h64_0.length : Int).toNat ≤ 35184372088832 then (spec_SweepArena.c21 k 0 h64_0 h66 h67 h68 (List.replicate ((h64_0.length : Int).toNat) z3) ([] : List S88)) else none) else none))
noncomputable def spec_SweepArena.c15 : Nat → (List Int) → Int → Int → (List S88) → (List S88) → (List Int) → (List Bool) → (List Bool) → Option ((List S88) × (List Int))
  | 0, _, _, _, _, _, _, _, _ => none
  | k + 1, x1, x10, x12, h64_0, h66, h67, h68, h69 => (if x12 < (h69.length : Int) then (if 0 ≤ x12 then (if x12 < (h68.length : Int) then (if (rd_T4 h68 x12) = true then (if 0 ≤ x12 then (if x12 < (h68.length : Int) then (spec_SweepArena.c15 k x1 x10 (w64 (x12 + 1)) h64_0 h66 h67 (h68.set x12.toNat true) h69) else none) else none) else (if 0 ≤ x12 then (if x12 < (h69.length : Int) then (if 0 ≤ x12 then (if x12 < (h68.length : Int) then (spec_SweepArena.c15 k x1 x10 (w64 (x12 + 1)) h64_0 h66 h67 (h68.set x12.toNat (rd_T4 h69 x12)) h69) else none) else none) else none) else none)) else none) else none) else (spec_SweepArena.c11 k x1 (w64 (x10 + 1)) h64_0 h66 h67 h68))
noncomputable def spec_SweepArena.c21 : Nat → Int → (List S88) → (List S88) → (List Int) → (List Bool) → (List Int) → (List S88) → Option ((List S88) × (List Int))
  | 0, _, _, _, _, _, _, _ => none
  | k + 1, x15, h64_0, h66, h67, h68, h69, h71 => (if x15 < (h64_0.length : Int) then (if 0 ≤ x15 then (if x15 < (h68.length : Int) then (if (rd_T4 h68 x15) = true then (if 0 ≤ x15 then (if x15 < (h64_0.length : Int) then (if 0 ≤ x15 then (if x15 < (h64_0.length : Int) then (if ([] : List Int).length + ((rd_T88 h64_0 x15).f1).length ≤ 17592186044416 then (spec_SweepArena.c26 k x15 0 h64_0 h66 h67 h68 h69 h71 (([] : List Int) ++ ((rd_T88 h64_0 x15).f1)) ((rd_T88 h64_0 x15).f0)) else none) else none) else none) else none) else none) else (spec_SweepArena.c21 k (w64 (x15 + 1)) h64_0 h66 h67 h68 h69 h71)) else none) else none) else (spec_SweepArena.c33 k 0 h66 h67 h69 h71))
noncomputable def spec_SweepArena.c26 : Nat → Int → Int → (List S88) → (List S88) → (List Int) → (List Bool) → (List Int) → (List S88) → (List Int) → Bool → Option ((List S88) × (List Int))
  | 0, _, _, _, _, _, _, _, _, _, _ => none
  | k + 1, x15, x17, h64_0, h66, h67, h68, h69, h71, h73, h72_0 => (if x17 < 4 then (if h72_0 = true then (if 0 ≤ x15 then (if x15 < (h69.length : Int) then (if h71.length + ([(S88.mk h72_0 h73)] : List S88).length ≤ 4398046511104 then (spec_SweepArena.c21 k (w64 (x15 + 1)) h64_0 h66 h67 h68 (h69.set x15.toNat (h71.length : Int)) (h71 ++ ([(S88.mk h72_0 h73)] : List S88))) else none) else none) else none) else (if 0 ≤ x17 then (if x17 < (h73.length : Int) then (if (rd_T3 h73 x17) ≥ 0 then (if 0 ≤ x17 then (if x17 < (h73.length : Int) then (if 0 ≤ (rd_T3 h73 x17) then (if (rd_T3 h73 x17) < (h69.length : Int) then (if 0 ≤ x17 then (if x17 < (h73.length : Int) then (spec_SweepArena.c26 k x15 (w64 (x17 + 1)) h64_0 h66 h67 h68 h69 h71 (h73.set x17.toNat (rd_T3 h69 (rd_T3 h73 x17))) h72_0) else none) else none) else none) else none) else none) else none) else (spec_SweepArena.c26 k x15 (w64 (x17 + 1)) h64_0 h66 h67 h68 h69 h71 h73 h72_0)) else none) else none)) else (if 0 ≤ x15 then (if x15 < (h69.length : Int) then (if h71.length + ([(S88.mk h72_0 h73)] : List S88).length ≤ 4398046511104 then (spec_SweepArena.c21 k (w64 (x15 + 1)) h64_0 h66 h67 h68 (h69.set x15.toNat (h71.length : Int)) (h71 ++ ([(S88.mk h72_0 h73)] : List S88))) else none) else none) else none))
noncomputable def spec_SweepArena.c33 : Nat → Int → (List S88) → (List Int) → (List Int) → (List S88) → Option ((List S88) × (List Int))
  | 0, _, _, _, _, _ => none
  | k + 1, x18, h65, h66, h67, h69 => (if x18 < (h66.length : Int) then (if 0 ≤ x18 then (if x18 < (h66.length : Int) then (if (rd_T3 h66 x18) ≥ 0 then (if 0 ≤ x18 then (if x18 < (h66.length : Int) then (if 0 ≤ (rd_T3 h66 x18) then (if (rd_T3 h66 x18) < (h67.length : Int) then (if 0 ≤ x18 then (if x18 < (h66.length : Int) then (spec_SweepArena.c33 k (w64 (x18 + 1)) h65 (h66.set x18.toNat (rd_T3 h67 (rd_T3 h66 x18))) h67 h69) else none) else none) else none) else none) else none) else none) else (spec_SweepArena.c33 k (w64 (x18 + 1)) h65 h66 h67 h69)) else none) else none) else (some (h69, h66)))
end
noncomputable def spec_SweepArena.f (k : Nat) (a0_0 : List S88) (a1 : List Int) : Option ((List S88) × (List Int)) := (if ([] : List Int).length + a1.length ≤ 17592186044416 then ((spec_ArenaOk.f k a0_0).bind fun t1 => (spec_SweepArena.c4 k a1 t1 0 a0_0 ([] : List S88) (([] : List Int) ++ a1))) else none)
noncomputable def spec_SweepArena.e (r : (List S88) × (List Int)) : Res Ty D := (.tu [.ag [.sl 0 none], .sl 1 none], [], [.rowb .t88 r.1 0, .rowb .t3 r.2 0])
noncomputable abbrev spec_SweepArena.g (rec : List Item → St Ty D → R) (k : Nat) := go1 Try.f79 (spec_SweepArena.ctx k) spec_SweepArena.sp 0 spec_SweepArena.en rec
set_option maxRecDepth 100000 in
theorem spec_SweepArena.t4 (rec : List Item → St Ty D → R) (k : Nat) (x1 : List Int) (x7 : Bool) (x8 : Int) (h64_0 : List S88) (h66 : List S88) (h67 : List Int) : spec_SweepArena.g rec k (td Try.f79 4) (spec_SweepArena.s4 x1 x7 x8 h64_0 h66 h67) =
  bif decide (x8 < (x1.length : Int)) then bif x7 then bif decide (0 ≤ x8) then bif decide (x8 < (x1.length : Int)) then (spec_l11Root.f k h64_0 (rd_T3 x1 x8)).bind fun t2 => rec (td Try.f79 4) (spec_SweepArena.s4 x1 t2 (w64 (x8 + 1)) h64_0 h66 h67) else none else none else bif !x7 then (spec_l11Copy.f k h64_0).bind fun t3 => some (spec_SweepArena.e (t3, h67)) else bif decide ((h64_0.length : Int) = (h64_0.length : Int)) then bif decide (0 ≤ (h64_0.length : Int)) then bif decide ((h64_0.length : Int).toNat ≤ 281474976710656) then rec (td Try.f79 11) (spec_SweepArena.s11 x1 0 h64_0 h66 h67 (List.replicate ((h64_0.length : Int).toNat) z4)) else none else none else none else bif !x7 then (spec_l11Copy.f k h64_0).bind fun t4 => some (spec_SweepArena.e (t4, h67)) else bif decide ((h64_0.length : Int) = (h64_0.length : Int)) then bif decide (0 ≤ (h64_0.length : Int)) then bif decide ((h64_0.length : Int).toNat ≤ 281474976710656) then rec (td Try.f79 11) (spec_SweepArena.s11 x1 0 h64_0 h66 h67 (List.replicate ((h64_0.length : Int).toNat) z4)) else none else none else none := by kernel_rfl
set_option maxRecDepth 100000 in
theorem spec_SweepArena.t11 (rec : List Item → St Ty D → R) (k : Nat) (x1 : List Int) (x10 : Int) (h64_0 : List S88) (h66 : List S88) (h67 : List Int) (h68 : List Bool) : spec_SweepArena.g rec k (td Try.f79 11) (spec_SweepArena.s11 x1 x10 h64_0 h66 h67 h68) =
  bif decide (x10 < (x1.length : Int)) then bif decide (0 ≤ x10) then bif decide (x10 < (x1.length : Int)) then (spec_l11Has.f k h64_0 (rd_T3 x1 x10)).bind fun t5 => rec (td Try.f79 15) (spec_SweepArena.s15 x1 x10 0 h64_0 h66 h67 h68 t5) else none else none else bif decide ((h64_0.length : Int) = (h64_0.length : Int)) then bif decide (0 ≤ (h64_0.length : Int)) then bif decide ((h64_0.length : Int).toNat ≤ 35184372088832) then rec (td Try.f79 21) (spec_SweepArena.s21 0 h64_0 h66 h67 h68 (List.replicate ((h64_0.length : Int).toNat) z3) ([] : List S88)) else none else none else none := by kernel_rfl
set_option maxRecDepth 100000 in
theorem spec_SweepArena.t15 (rec : List Item → St Ty D → R) (k : Nat) (x1 : List Int) (x10 : Int) (x12 : Int) (h64_0 : List S88) (h66 : List S88) (h67 : List Int) (h68 : List Bool) (h69 : List Bool) : spec_SweepArena.g rec k (td Try.f79 15) (spec_SweepArena.s15 x1 x10 x12 h64_0 h66 h67 h68 h69) =
  bif decide (x12 < (h69.length : Int)) then bif decide (0 ≤ x12) then bif decide (x12 < (h68.length : Int)) then bif (rd_T4 h68 x12) then bif decide (0 ≤ x12) then bif decide (x12 < (h68.length : Int)) then rec (td Try.f79 15) (spec_SweepArena.s15 x1 x10 (w64 (x12 + 1)) h64_0 h66 h67 (h68.set x12.toNat true) h69) else none else none else bif decide (0 ≤ x12) then bif decide (x12 < (h69.length : Int)) then bif decide (0 ≤ x12) then bif decide (x12 < (h68.length : Int)) then rec (td Try.f79 15) (spec_SweepArena.s15 x1 x10 (w64 (x12 + 1)) h64_0 h66 h67 (h68.set x12.toNat (rd_T4 h69 x12)) h69) else none else none else none else none else none else none else rec (td Try.f79 11) (spec_SweepArena.s11 x1 (w64 (x10 + 1)) h64_0 h66 h67 h68) := by kernel_rfl
set_option maxRecDepth 100000 in
theorem spec_SweepArena.t21 (rec : List Item → St Ty D → R) (k : Nat) (x15 : Int) (h64_0 : List S88) (h66 : List S88) (h67 : List Int) (h68 : List Bool) (h69 : List Int) (h71 : List S88) : spec_SweepArena.g rec k (td Try.f79 21) (spec_SweepArena.s21 x15 h64_0 h66 h67 h68 h69 h71) =
  bif decide (x15 < (h64_0.length : Int)) then bif decide (0 ≤ x15) then bif decide (x15 < (h68.length : Int)) then bif !(rd_T4 h68 x15) then rec (td Try.f79 21) (spec_SweepArena.s21 (w64 (x15 + 1)) h64_0 h66 h67 h68 h69 h71) else bif decide (0 ≤ x15) then bif decide (x15 < (h64_0.length : Int)) then bif decide (0 ≤ x15) then bif decide (x15 < (h64_0.length : Int)) then bif decide (([] : List Int).length + ((rd_T88 h64_0 x15).f1).length ≤ 17592186044416) then rec (td Try.f79 26) (spec_SweepArena.s26 x15 0 h64_0 h66 h67 h68 h69 h71 (([] : List Int) ++ ((rd_T88 h64_0 x15).f1)) ((rd_T88 h64_0 x15).f0)) else none else none else none else none else none else none else none else rec (td Try.f79 33) (spec_SweepArena.s33 0 h66 h67 h69 h71) := by kernel_rfl
set_option maxRecDepth 100000 in
theorem spec_SweepArena.t26 (rec : List Item → St Ty D → R) (k : Nat) (x15 : Int) (x17 : Int) (h64_0 : List S88) (h66 : List S88) (h67 : List Int) (h68 : List Bool) (h69 : List Int) (h71 : List S88) (h73 : List Int) (h72_0 : Bool) : spec_SweepArena.g rec k (td Try.f79 26) (spec_SweepArena.s26 x15 x17 h64_0 h66 h67 h68 h69 h71 h73 h72_0) =
  bif decide (x17 < 4) then bif !h72_0 then bif decide (0 ≤ x17) then bif decide (x17 < (h73.length : Int)) then bif decide ((rd_T3 h73 x17) ≥ 0) then bif decide (0 ≤ x17) then bif decide (x17 < (h73.length : Int)) then bif decide (0 ≤ (rd_T3 h73 x17)) then bif decide ((rd_T3 h73 x17) < (h69.length : Int)) then bif decide (0 ≤ x17) then bif decide (x17 < (h73.length : Int)) then rec (td Try.f79 26) (spec_SweepArena.s26 x15 (w64 (x17 + 1)) h64_0 h66 h67 h68 h69 h71 (h73.set x17.toNat (rd_T3 h69 (rd_T3 h73 x17))) h72_0) else none else none else none else none else none else none else rec (td Try.f79 26) (spec_SweepArena.s26 x15 (w64 (x17 + 1)) h64_0 h66 h67 h68 h69 h71 h73 h72_0) else none else none else bif decide (0 ≤ x15) then bif decide (x15 < (h69.length : Int)) then bif decide (h71.length + ([(S88.mk h72_0 h73)] : List S88).length ≤ 4398046511104) then rec (td Try.f79 21) (spec_SweepArena.s21 (w64 (x15 + 1)) h64_0 h66 h67 h68 (h69.set x15.toNat (h71.length : Int)) (h71 ++ ([(S88.mk h72_0 h73)] : List S88))) else none else none else none else bif decide (0 ≤ x15) then bif decide (x15 < (h69.length : Int)) then bif decide (h71.length + ([(S88.mk h72_0 h73)] : List S88).length ≤ 4398046511104) then rec (td Try.f79 21) (spec_SweepArena.s21 (w64 (x15 + 1)) h64_0 h66 h67 h68 (h69.set x15.toNat (h71.length : Int)) (h71 ++ ([(S88.mk h72_0 h73)] : List S88))) else none else none else none := by kernel_rfl
set_option maxRecDepth 100000 in
theorem spec_SweepArena.t33 (rec : List Item → St Ty D → R) (k : Nat) (x18 : Int) (h65 : List S88) (h66 : List Int) (h67 : List Int) (h69 : List S88) : spec_SweepArena.g rec k (td Try.f79 33) (spec_SweepArena.s33 x18 h65 h66 h67 h69) =
  bif decide (x18 < (h66.length : Int)) then bif decide (0 ≤ x18) then bif decide (x18 < (h66.length : Int)) then bif decide ((rd_T3 h66 x18) ≥ 0) then bif decide (0 ≤ x18) then bif decide (x18 < (h66.length : Int)) then bif decide (0 ≤ (rd_T3 h66 x18)) then bif decide ((rd_T3 h66 x18) < (h67.length : Int)) then bif decide (0 ≤ x18) then bif decide (x18 < (h66.length : Int)) then rec (td Try.f79 33) (spec_SweepArena.s33 (w64 (x18 + 1)) h65 (h66.set x18.toNat (rd_T3 h67 (rd_T3 h66 x18))) h67 h69) else none else none else none else none else none else none else rec (td Try.f79 33) (spec_SweepArena.s33 (w64 (x18 + 1)) h65 h66 h67 h69) else none else none else some (spec_SweepArena.e (h69, h66)) := by kernel_rfl
set_option maxRecDepth 100000 in
theorem spec_SweepArena.te (rec : List Item → St Ty D → R) (k : Nat) (a0_0 : List S88) (a1 : List Int) : spec_SweepArena.g rec k [.code (body Try.f79)] (startSt [.ag [.row 0 .t88 a0_0], .row 0 .t3 a1] []) =
  bif decide (([] : List Int).length + a1.length ≤ 17592186044416) then (spec_ArenaOk.f k a0_0).bind fun t1 => rec (td Try.f79 4) (spec_SweepArena.s4 a1 t1 0 a0_0 ([] : List S88) (([] : List Int) ++ a1)) else none := by kernel_rfl
set_option maxRecDepth 100000 in
theorem spec_SweepArena.ok : ∀ k : Nat, (∀ (x1 : List Int) (x7 : Bool) (x8 : Int) (h64_0 : List S88) (h66 : List S88) (h67 : List Int), goF Try.f79 spec_SweepArena.ctx spec_SweepArena.sp 0 spec_SweepArena.en k (td Try.f79 4) (spec_SweepArena.s4 x1 x7 x8 h64_0 h66 h67) = (spec_SweepArena.c4 k x1 x7 x8 h64_0 h66 h67).map spec_SweepArena.e) ∧ (∀ (x1 : List Int) (x10 : Int) (h64_0 : List S88) (h66 : List S88) (h67 : List Int) (h68 : List Bool), goF Try.f79 spec_SweepArena.ctx spec_SweepArena.sp 0 spec_SweepArena.en k (td Try.f79 11) (spec_SweepArena.s11 x1 x10 h64_0 h66 h67 h68) = (spec_SweepArena.c11 k x1 x10 h64_0 h66 h67 h68).map spec_SweepArena.e) ∧ (∀ (x1 : List Int) (x10 : Int) (x12 : Int) (h64_0 : List S88) (h66 : List S88) (h67 : List Int) (h68 : List Bool) (h69 : List Bool), goF Try.f79 spec_SweepArena.ctx spec_SweepArena.sp 0 spec_SweepArena.en k (td Try.f79 15) (spec_SweepArena.s15 x1 x10 x12 h64_0 h66 h67 h68 h69) = (spec_SweepArena.c15 k x1 x10 x12 h64_0 h66 h67 h68 h69).map spec_SweepArena.e) ∧ (∀ (x15 : Int) (h64_0 : List S88) (h66 : List S88) (h67 : List Int) (h68 : List Bool) (h69 : List Int) (h71 : List S88), goF Try.f79 spec_SweepArena.ctx spec_SweepArena.sp 0 spec_SweepArena.en k (td Try.f79 21) (spec_SweepArena.s21 x15 h64_0 h66 h67 h68 h69 h71) = (spec_SweepArena.c21 k x15 h64_0 h66 h67 h68 h69 h71).map spec_SweepArena.e) ∧ (∀ (x15 : Int) (x17 : Int) (h64_0 : List S88) (h66 : List S88) (h67 : List Int) (h68 : List Bool) (h69 : List Int) (h71 : List S88) (h73 : List Int) (h72_0 : Bool), goF Try.f79 spec_SweepArena.ctx spec_SweepArena.sp 0 spec_SweepArena.en k (td Try.f79 26) (spec_SweepArena.s26 x15 x17 h64_0 h66 h67 h68 h69 h71 h73 h72_0) = (spec_SweepArena.c26 k x15 x17 h64_0 h66 h67 h68 h69 h71 h73 h72_0).map spec_SweepArena.e) ∧ (∀ (x18 : Int) (h65 : List S88) (h66 : List Int) (h67 : List Int) (h69 : List S88), goF Try.f79 spec_SweepArena.ctx spec_SweepArena.sp 0 spec_SweepArena.en k (td Try.f79 33) (spec_SweepArena.s33 x18 h65 h66 h67 h69) = (spec_SweepArena.c33 k x18 h65 h66 h67 h69).map spec_SweepArena.e)
  | 0 => ⟨fun _ _ _ _ _ _ => rfl, fun _ _ _ _ _ _ => rfl, fun _ _ _ _ _ _ _ _ => rfl, fun _ _ _ _ _ _ _ => rfl, fun _ _ _ _ _ _ _ _ _ _ => rfl, fun _ _ _ _ _ => rfl⟩
  | k + 1 => by
    have ih := spec_SweepArena.ok k
    obtain ⟨i4, i11, i15, i21, i26, i33⟩ := ih
    refine ⟨?_, ?_, ?_, ?_, ?_, ?_⟩
    · intro x1 x7 x8 h64_0 h66 h67; rw [spec_SweepArena.c4]; exact (spec_SweepArena.t4 _ k x1 x7 x8 h64_0 h66 h67).trans (cd (cb (cd (cd (bn (fun t2 => (i4 _ _ _ _ _ _))) rfl) rfl) (nb (bn (fun t3 => rfl)) (sf (cd (cd (i11 _ _ _ _ _ _) rfl) rfl)))) (nb (bn (fun t4 => rfl)) (sf (cd (cd (i11 _ _ _ _ _ _) rfl) rfl))))
    · intro x1 x10 h64_0 h66 h67 h68; rw [spec_SweepArena.c11]; exact (spec_SweepArena.t11 _ k x1 x10 h64_0 h66 h67 h68).trans (cd (cd (cd (bn (fun t5 => (i15 _ _ _ _ _ _ _ _))) rfl) rfl) (sf (cd (cd (i21 _ _ _ _ _ _ _) rfl) rfl)))
    · intro x1 x10 x12 h64_0 h66 h67 h68 h69; rw [spec_SweepArena.c15]; exact (spec_SweepArena.t15 _ k x1 x10 x12 h64_0 h66 h67 h68 h69).trans (cd (cd (cd (cb (cd (cd (i15 _ _ _ _ _ _ _ _) rfl) rfl) (cd (cd (cd (cd (i15 _ _ _ _ _ _ _ _) rfl) rfl) rfl) rfl)) rfl) rfl) (i11 _ _ _ _ _ _))
    · intro x15 h64_0 h66 h67 h68 h69 h71; rw [spec_SweepArena.c21]; exact (spec_SweepArena.t21 _ k x15 h64_0 h66 h67 h68 h69 h71).trans (cd (cd (cd (nb (i21 _ _ _ _ _ _ _) (cd (cd (cd (cd (cd (i26 _ _ _ _ _ _ _ _ _ _) rfl) rfl) rfl) rfl) rfl)) rfl) rfl) (i33 _ _ _ _ _))
    · intro x15 x17 h64_0 h66 h67 h68 h69 h71 h73 h72_0; rw [spec_SweepArena.c26]; exact (spec_SweepArena.t26 _ k x15 x17 h64_0 h66 h67 h68 h69 h71 h73 h72_0).trans (cd (nb (cd (cd (cd (cd (cd (cd (cd (cd (cd (i26 _ _ _ _ _ _ _ _ _ _) rfl) rfl) rfl) rfl) rfl) rfl) (i26 _ _ _ _ _ _ _ _ _ _)) rfl) rfl) (cd (cd (cd (i21 _ _ _ _ _ _ _) rfl) rfl) rfl)) (cd (cd (cd (i21 _ _ _ _ _ _ _) rfl) rfl) rfl))
    · intro x18 h65 h66 h67 h69; rw [spec_SweepArena.c33]; exact (spec_SweepArena.t33 _ k x18 h65 h66 h67 h69).trans (cd (cd (cd (cd (cd (cd (cd (cd (cd (cd (i33 _ _ _ _ _) rfl) rfl) rfl) rfl) rfl) rfl) (i33 _ _ _ _ _)) rfl) rfl) rfl)
set_option maxRecDepth 100000 in
theorem spec_SweepArena.oke (k : Nat) (a0_0 : List S88) (a1 : List Int) : goF Try.f79 spec_SweepArena.ctx spec_SweepArena.sp 0 spec_SweepArena.en (k + 1) [.code (body Try.f79)] (startSt [.ag [.row 0 .t88 a0_0], .row 0 .t3 a1] []) = (spec_SweepArena.f k a0_0 a1).map spec_SweepArena.e := by
  obtain ⟨i4, i11, i15, i21, i26, i33⟩ := spec_SweepArena.ok k
  rw [spec_SweepArena.f]; exact (spec_SweepArena.te _ k a0_0 a1).trans (cd (bn (fun t1 => (i4 _ _ _ _ _ _))) rfl)
theorem spec_SweepArena.con (k : Nat) (a0_0 : List S88) (a1 : List Int) (r) (h : spec_SweepArena.f k a0_0 a1 = some r) : Contract Try.prog kit 79 [.ag [.row 0 .t88 a0_0], .row 0 .t3 a1] [] (spec_SweepArena.e r).1 (spec_SweepArena.e r).2.1 (spec_SweepArena.e r).2.2 :=
  con_okG kitOk mix (fun k => (CtxOk.cons (spec_ArenaOk.xok k) (CtxOk.cons (spec_l11Root.xok k) (CtxOk.cons (spec_l11Copy.xok k) (CtxOk.cons (spec_l11Has.xok k) CtxOk.nil))))) (spec_SweepArena.oke k a0_0 a1) h (by kernel_rfl) (by kernel_rfl) (by kernel_rfl) rfl (by kernel_rfl) rfl rfl
noncomputable def spec_SweepArena.x (k : Nat) : X := fun ins bs κ => match ins, bs with
  | [.ag [.row 0 .t88 a0_0], .row 0 .t3 a1], [] => (spec_SweepArena.f k a0_0 a1).bind fun r => κ (spec_SweepArena.e r).1 (spec_SweepArena.e r).2.1 (spec_SweepArena.e r).2.2
  | _, _ => none
theorem spec_SweepArena.xok (k : Nat) : XOk 79 (spec_SweepArena.x k) := by
  intro ins bs κ res h
  unfold spec_SweepArena.x at h
  split at h
  · obtain ⟨r, hr, h⟩ := Option.bind_eq_some_iff.1 h
    exact ⟨_, _, _, spec_SweepArena.con k _ _ r hr, h⟩
  · cases h
end Go.Proofs.Yteideicglgpfiaa.M2

/- Plain runs of functions: each is a plain Lean function, and keeps its contract. Written by a program of this session. -/
namespace Go.Proofs.Yteideicglgpfiaa.M2
open Go Go.Proofs.Yteideicglgpfiaa.PK
set_option linter.unusedVariables false
set_option linter.unusedSimpArgs false
set_option maxHeartbeats 4000000
/-! ### spec_l12Roots: function 80 -/
noncomputable def spec_l12Roots.sp : Nat → Option (Spec Ty) := fun r => bif Nat.beq r 3 then some ⟨[(1, .box [.keep, .keep, .keep]), (3, .own .t3), (4, .keep)], []⟩ else none
noncomputable def spec_l12Roots.en : Option (Spec Ty) := some ⟨[(2, .own .t3)], []⟩
noncomputable def spec_l12Roots.s3 (x4 : Int) (h64_0 : List S53) (h64_1 : List S88) (h64_2 : Int) (h65 : List Int) : St Ty D := ⟨(Env.put (Env.put (Env.put E (some 1) (.pt 64 0 0)) (some 3) (.sl 65 none)) (some 4) (.sc (.int .i64 x4))), Heap.put H0 [(64, some (.box [.row 0 .t53 h64_0, .row 0 .t88 h64_1, .sc (.int .i64 h64_2)])), (65, some (.rowb .t3 h65 0))], 1000⟩
noncomputable def spec_l12Roots.ctx (k : Nat) : Ctx Ty D := (fun _ _ _ _ => none)
noncomputable def spec_l12Roots.c3 : Nat → Int → (List S53) → (List S88) → Int → (List Int) → Option ((List Int))
  | 0, _, _, _, _, _ => none
  | k + 1, x4, h64_0, h64_1, h64_2, h65 => (if x4 < (h64_0.length : Int) then (if 0 ≤ x4 then (if x4 < (h64_0.length : Int) then (if h65.length + ([(rd_T53 h64_0 x4).f1] : List Int).length ≤ 17592186044416 then (spec_l12Roots.c3 k (w64 (x4 + 1)) h64_0 h64_1 h64_2 (h65 ++ ([(rd_T53 h64_0 x4).f1] : List Int))) else none) else none) else none) else (some (h65)))
noncomputable def spec_l12Roots.f (k : Nat) (a0_0 : List S53) (a0_1 : List S88) (a0_2 : Int) : Option ((List Int)) := (spec_l12Roots.c3 k 0 a0_0 a0_1 a0_2 ([] : List Int))
noncomputable def spec_l12Roots.e (r : (List Int)) : Res Ty D := (.sl 0 none, [], [.rowb .t3 r 0])
noncomputable abbrev spec_l12Roots.g (rec : List Item → St Ty D → R) (k : Nat) := go1 Try.f80 (spec_l12Roots.ctx k) spec_l12Roots.sp 0 spec_l12Roots.en rec
set_option maxRecDepth 100000 in
theorem spec_l12Roots.t3 (rec : List Item → St Ty D → R) (k : Nat) (x4 : Int) (h64_0 : List S53) (h64_1 : List S88) (h64_2 : Int) (h65 : List Int) : spec_l12Roots.g rec k (td Try.f80 3) (spec_l12Roots.s3 x4 h64_0 h64_1 h64_2 h65) =
  bif decide (x4 < (h64_0.length : Int)) then bif decide (0 ≤ x4) then bif decide (x4 < (h64_0.length : Int)) then bif decide (h65.length + ([(rd_T53 h64_0 x4).f1] : List Int).length ≤ 17592186044416) then rec (td Try.f80 3) (spec_l12Roots.s3 (w64 (x4 + 1)) h64_0 h64_1 h64_2 (h65 ++ ([(rd_T53 h64_0 x4).f1] : List Int))) else none else none else none else some (spec_l12Roots.e (h65)) := by kernel_rfl
set_option maxRecDepth 100000 in
theorem spec_l12Roots.te (rec : List Item → St Ty D → R) (k : Nat) (a0_0 : List S53) (a0_1 : List S88) (a0_2 : Int) : spec_l12Roots.g rec k [.code (body Try.f80)] (startSt [.ag [.row 0 .t53 a0_0, .row 0 .t88 a0_1, .sc (.int .i64 a0_2)]] []) =
  rec (td Try.f80 3) (spec_l12Roots.s3 0 a0_0 a0_1 a0_2 ([] : List Int)) := by kernel_rfl
set_option maxRecDepth 100000 in
theorem spec_l12Roots.ok : ∀ k : Nat, (∀ (x4 : Int) (h64_0 : List S53) (h64_1 : List S88) (h64_2 : Int) (h65 : List Int), goF Try.f80 spec_l12Roots.ctx spec_l12Roots.sp 0 spec_l12Roots.en k (td Try.f80 3) (spec_l12Roots.s3 x4 h64_0 h64_1 h64_2 h65) = (spec_l12Roots.c3 k x4 h64_0 h64_1 h64_2 h65).map spec_l12Roots.e)
  | 0 => fun _ _ _ _ _ => rfl
  | k + 1 => by
    have ih := spec_l12Roots.ok k
    have i3 := ih
    intro x4 h64_0 h64_1 h64_2 h65; rw [spec_l12Roots.c3]; exact (spec_l12Roots.t3 _ k x4 h64_0 h64_1 h64_2 h65).trans (cd (cd (cd (cd (i3 _ _ _ _ _) rfl) rfl) rfl) rfl)
set_option maxRecDepth 100000 in
theorem spec_l12Roots.oke (k : Nat) (a0_0 : List S53) (a0_1 : List S88) (a0_2 : Int) : goF Try.f80 spec_l12Roots.ctx spec_l12Roots.sp 0 spec_l12Roots.en (k + 1) [.code (body Try.f80)] (startSt [.ag [.row 0 .t53 a0_0, .row 0 .t88 a0_1, .sc (.int .i64 a0_2)]] []) = (spec_l12Roots.f k a0_0 a0_1 a0_2).map spec_l12Roots.e := by
  have i3 := spec_l12Roots.ok k
  rw [spec_l12Roots.f]; exact (spec_l12Roots.te _ k a0_0 a0_1 a0_2).trans (i3 _ _ _ _ _)
theorem spec_l12Roots.con (k : Nat) (a0_0 : List S53) (a0_1 : List S88) (a0_2 : Int) (r) (h : spec_l12Roots.f k a0_0 a0_1 a0_2 = some r) : Contract Try.prog kit 80 [.ag [.row 0 .t53 a0_0, .row 0 .t88 a0_1, .sc (.int .i64 a0_2)]] [] (spec_l12Roots.e r).1 (spec_l12Roots.e r).2.1 (spec_l12Roots.e r).2.2 :=
  con_okG kitOk mix (fun k => CtxOk.nil) (spec_l12Roots.oke k a0_0 a0_1 a0_2) h (by kernel_rfl) (by kernel_rfl) (by kernel_rfl) rfl (by kernel_rfl) rfl rfl
noncomputable def spec_l12Roots.x (k : Nat) : X := fun ins bs κ => match ins, bs with
  | [.ag [.row 0 .t53 a0_0, .row 0 .t88 a0_1, .sc (.int .i64 a0_2)]], [] => (spec_l12Roots.f k a0_0 a0_1 a0_2).bind fun r => κ (spec_l12Roots.e r).1 (spec_l12Roots.e r).2.1 (spec_l12Roots.e r).2.2
  | _, _ => none
theorem spec_l12Roots.xok (k : Nat) : XOk 80 (spec_l12Roots.x k) := by
  intro ins bs κ res h
  unfold spec_l12Roots.x at h
  split at h
  · obtain ⟨r, hr, h⟩ := Option.bind_eq_some_iff.1 h
    exact ⟨_, _, _, spec_l12Roots.con k _ _ _ r hr, h⟩
  · cases h

/-! ### spec_StoreOk: function 36 -/
noncomputable def spec_StoreOk.sp : Nat → Option (Spec Ty) := fun r => bif Nat.beq r 4 then some ⟨[(1, .box [.own .t53, .own .t88, .keep]), (3, .keep)], [(1, none), (0, none)]⟩ else bif Nat.beq r 10 then some ⟨[(1, .box [.own .t53, .own .t88, .keep]), (3, .keep), (4, .box [.keep, .keep]), (5, .keep), (41, .keep), (42, .keep), (43, .keep), (54, .keep), (57, .box [.own .t53, .own .t88, .keep]), (58, .ag [.own .t88]), (59, .box [.keep, .keep]), (60, .keep), (61, .keep), (62, .keep)], [(1, none), (0, none)]⟩ else none
noncomputable def spec_StoreOk.en : Option (Spec Ty) := none
noncomputable def spec_StoreOk.s4 (x3 : Int) (h1 : List S88) (h0 : List S53) (h64_2 : Int) : St Ty D := ⟨(Env.put (Env.put E (some 1) (.pt 64 0 0)) (some 3) (.sc (.int .i64 x3))), Heap.put H0 [(1, some (.rowb .t88 h1 0)), (0, some (.rowb .t53 h0 0)), (64, some (.box [.sl 0 none, .sl 1 none, .sc (.int .i64 h64_2)]))], 1000⟩
noncomputable def spec_StoreOk.s10 (x3 : Int) (x5 : Int) (x41 : Int) (x42 : Bool) (x43 : Bool) (x54 : Bool) (x60 : Int) (x61 : Bool) (x62 : Bool) (h1 : List S88) (h0 : List S53) (h64_2 : Int) (h65_0 : Int) (h65_1 : Int) : St Ty D := ⟨(Env.put (Env.put (Env.put (Env.put (Env.put (Env.put (Env.put (Env.put (Env.put (Env.put (Env.put (Env.put (Env.put (Env.put E (some 1) (.pt 64 0 0)) (some 3) (.sc (.int .i64 x3))) (some 4) (.pt 65 0 0)) (some 5) (.sc (.int .i64 x5))) (some 41) (.sc (.int .i64 x41))) (some 42) (.sc (.bool x42))) (some 43) (.sc (.bool x43))) (some 54) (.sc (.bool x54))) (some 57) (.pt 64 0 1)) (some 58) (.ag [.sl 1 none])) (some 59) (.pt 65 0 1)) (some 60) (.sc (.int .i64 x60))) (some 61) (.sc (.bool x61))) (some 62) (.sc (.bool x62))), Heap.put H0 [(1, some (.rowb .t88 h1 0)), (0, some (.rowb .t53 h0 0)), (64, some (.box [.sl 0 none, .sl 1 none, .sc (.int .i64 h64_2)])), (65, some (.box [.sc (.int .i64 h65_0), .sc (.int .i64 h65_1)]))], 1000⟩
noncomputable def spec_StoreOk.ctx (k : Nat) : Ctx Ty D := (cons 75 (spec_ArenaOk.x k) (cons 76 (spec_l01In.x k) (cons 77 (spec_l11Root.x k) (cons 78 (spec_l11Get.x k) (cons 79 (spec_SweepArena.x k) (cons 80 (spec_l12Roots.x k) (fun _ _ _ _ => none)))))))
mutual
noncomputable def spec_StoreOk.c4 : Nat → Int → (List S88) → (List S53) → Int → Option (Bool × (List S53) × (List S88))
  | 0, _, _, _, _ => none
  | k + 1, x3, h1, h0, h64_2 => (if x3 < (h0.length : Int) then (if 0 ≤ x3 then (if x3 < (h0.length : Int) then ((spec_l01In.f k ((rd_T53 h0 x3).f0) 1 9).bind fun t3 => (if t3 = true then (if x3 > 0 then (if 0 ≤ (w64 (x3 - 1)) then (if (w64 (x3 - 1)) < (h0.length : Int) then (if ((rd_T53 h0 (w64 (x3 - 1))).f0) ≥ ((rd_T53 h0 x3).f0) then (some (false, h0, h1)) else ((spec_l11Root.f k h1 ((rd_T53 h0 x3).f1)).bind fun t4 => (if t4 = true then (spec_StoreOk.c10 k x3 0 x3 (decide (x3 > 0)) true (decide (((rd_T53 h0 (w64 (x3 - 1))).f0) ≥ ((rd_T53 h0 x3).f0))) ((rd_T53 h0 x3).f1) t4 (!t4) h1 h0 h64_2 ((rd_T53 h0 x3).f0) ((rd_T53 h0 x3).f1)) else (some (false, h0, h1))))) else none) else none) else ((spec_l11Root.f k h1 ((rd_T53 h0 x3).f1)).bind fun t5 => (if t5 = true then (spec_StoreOk.c10 k x3 0 x3 (decide (x3 > 0)) false false ((rd_T53 h0 x3).f1) t5 (!t5) h1 h0 h64_2 ((rd_T53 h0 x3).f0) ((rd_T53 h0 x3).f1)) else (some (false, h0, h1))))) else (some (false, h0, h1)))) else none) else none) else ((spec_l12Roots.f k h0 h1 h64_2).bind fun t6 => ((spec_SweepArena.f k h1 t6).bind fun t7 => (some ((decide ((t7.1.length : Int) = (h1.length : Int))), h0, h1)))))
noncomputable def spec_StoreOk.c10 : Nat → Int → Int → Int → Bool → Bool → Bool → Int → Bool → Bool → (List S88) → (List S53) → Int → Int → Int → Option (Bool × (List S53) × (List S88))
  | 0, _, _, _, _, _, _, _, _, _, _, _, _, _, _ => none
  | k + 1, x3, x5, x41, x42, x43, x54, x60, x61, x62, h1, h0, h64_2, h65_0, h65_1 => (if x5 < 16 then ((spec_l11Get.f k h1 h65_1 x5).bind fun t8 => (if t8 ≥ h64_2 then (some (false, h0, h1)) else (spec_StoreOk.c10 k x3 (w64 (x5 + 1)) x41 x42 x43 x54 x60 x61 x62 h1 h0 h64_2 h65_0 h65_1))) else (spec_StoreOk.c4 k (w64 (x3 + 1)) h1 h0 h64_2))
end
noncomputable def spec_StoreOk.f (k : Nat) (a0_2 : Int) (a0_0 : List S53) (a0_1 : List S88) : Option (Bool × (List S53) × (List S88)) := (if (a0_0.length : Int) > 3 then (some (false, a0_0, a0_1)) else ((spec_ArenaOk.f k a0_1).bind fun t1 => (if t1 = true then ((spec_l01In.f k a0_2 1 1000000000).bind fun t2 => (if t2 = true then (spec_StoreOk.c4 k 0 a0_1 a0_0 a0_2) else (some (false, a0_0, a0_1)))) else (some (false, a0_0, a0_1)))))
noncomputable def spec_StoreOk.e (r : Bool × (List S53) × (List S88)) : Res Ty D := (.sc (.bool r.1), [some (.rowb .t53 r.2.1 0), some (.rowb .t88 r.2.2 0)], [])
noncomputable abbrev spec_StoreOk.g (rec : List Item → St Ty D → R) (k : Nat) := go1 Try.f36 (spec_StoreOk.ctx k) spec_StoreOk.sp 2 spec_StoreOk.en rec
set_option maxRecDepth 100000 in
theorem spec_StoreOk.t4 (rec : List Item → St Ty D → R) (k : Nat) (x3 : Int) (h1 : List S88) (h0 : List S53) (h64_2 : Int) : spec_StoreOk.g rec k (td Try.f36 4) (spec_StoreOk.s4 x3 h1 h0 h64_2) =
  bif decide (x3 < (h0.length : Int)) then bif decide (0 ≤ x3) then bif decide (x3 < (h0.length : Int)) then (spec_l01In.f k ((rd_T53 h0 x3).f0) 1 9).bind fun t3 => bif !t3 then some (spec_StoreOk.e (false, h0, h1)) else bif decide (x3 > 0) then bif decide (0 ≤ (w64 (x3 - 1))) then bif decide ((w64 (x3 - 1)) < (h0.length : Int)) then bif decide (((rd_T53 h0 (w64 (x3 - 1))).f0) ≥ ((rd_T53 h0 x3).f0)) then some (spec_StoreOk.e (false, h0, h1)) else (spec_l11Root.f k h1 ((rd_T53 h0 x3).f1)).bind fun t4 => bif !t4 then some (spec_StoreOk.e (false, h0, h1)) else rec (td Try.f36 10) (spec_StoreOk.s10 x3 0 x3 (decide (x3 > 0)) true (decide (((rd_T53 h0 (w64 (x3 - 1))).f0) ≥ ((rd_T53 h0 x3).f0))) ((rd_T53 h0 x3).f1) t4 (!t4) h1 h0 h64_2 ((rd_T53 h0 x3).f0) ((rd_T53 h0 x3).f1)) else none else none else (spec_l11Root.f k h1 ((rd_T53 h0 x3).f1)).bind fun t5 => bif !t5 then some (spec_StoreOk.e (false, h0, h1)) else rec (td Try.f36 10) (spec_StoreOk.s10 x3 0 x3 (decide (x3 > 0)) false false ((rd_T53 h0 x3).f1) t5 (!t5) h1 h0 h64_2 ((rd_T53 h0 x3).f0) ((rd_T53 h0 x3).f1)) else none else none else (spec_l12Roots.f k h0 h1 h64_2).bind fun t6 => (spec_SweepArena.f k h1 t6).bind fun t7 => some (spec_StoreOk.e ((decide ((t7.1.length : Int) = (h1.length : Int))), h0, h1)) := by kernel_rfl
set_option maxRecDepth 100000 in
theorem spec_StoreOk.t10 (rec : List Item → St Ty D → R) (k : Nat) (x3 : Int) (x5 : Int) (x41 : Int) (x42 : Bool) (x43 : Bool) (x54 : Bool) (x60 : Int) (x61 : Bool) (x62 : Bool) (h1 : List S88) (h0 : List S53) (h64_2 : Int) (h65_0 : Int) (h65_1 : Int) : spec_StoreOk.g rec k (td Try.f36 10) (spec_StoreOk.s10 x3 x5 x41 x42 x43 x54 x60 x61 x62 h1 h0 h64_2 h65_0 h65_1) =
  bif decide (x5 < 16) then (spec_l11Get.f k h1 h65_1 x5).bind fun t8 => bif decide (t8 ≥ h64_2) then some (spec_StoreOk.e (false, h0, h1)) else rec (td Try.f36 10) (spec_StoreOk.s10 x3 (w64 (x5 + 1)) x41 x42 x43 x54 x60 x61 x62 h1 h0 h64_2 h65_0 h65_1) else rec (td Try.f36 4) (spec_StoreOk.s4 (w64 (x3 + 1)) h1 h0 h64_2) := by kernel_rfl
set_option maxRecDepth 100000 in
theorem spec_StoreOk.te (rec : List Item → St Ty D → R) (k : Nat) (a0_2 : Int) (a0_0 : List S53) (a0_1 : List S88) : spec_StoreOk.g rec k [.code (body Try.f36)] (startSt [.ag [.sl 0 none, .sl 1 none, .sc (.int .i64 a0_2)]] [.rowb .t53 a0_0 0, .rowb .t88 a0_1 0]) =
  bif decide ((a0_0.length : Int) > 3) then some (spec_StoreOk.e (false, a0_0, a0_1)) else (spec_ArenaOk.f k a0_1).bind fun t1 => bif !t1 then some (spec_StoreOk.e (false, a0_0, a0_1)) else (spec_l01In.f k a0_2 1 1000000000).bind fun t2 => bif !t2 then some (spec_StoreOk.e (false, a0_0, a0_1)) else rec (td Try.f36 4) (spec_StoreOk.s4 0 a0_1 a0_0 a0_2) := by kernel_rfl
set_option maxRecDepth 100000 in
theorem spec_StoreOk.ok : ∀ k : Nat, (∀ (x3 : Int) (h1 : List S88) (h0 : List S53) (h64_2 : Int), goF Try.f36 spec_StoreOk.ctx spec_StoreOk.sp 2 spec_StoreOk.en k (td Try.f36 4) (spec_StoreOk.s4 x3 h1 h0 h64_2) = (spec_StoreOk.c4 k x3 h1 h0 h64_2).map spec_StoreOk.e) ∧ (∀ (x3 : Int) (x5 : Int) (x41 : Int) (x42 : Bool) (x43 : Bool) (x54 : Bool) (x60 : Int) (x61 : Bool) (x62 : Bool) (h1 : List S88) (h0 : List S53) (h64_2 : Int) (h65_0 : Int) (h65_1 : Int), goF Try.f36 spec_StoreOk.ctx spec_StoreOk.sp 2 spec_StoreOk.en k (td Try.f36 10) (spec_StoreOk.s10 x3 x5 x41 x42 x43 x54 x60 x61 x62 h1 h0 h64_2 h65_0 h65_1) = (spec_StoreOk.c10 k x3 x5 x41 x42 x43 x54 x60 x61 x62 h1 h0 h64_2 h65_0 h65_1).map spec_StoreOk.e)
  | 0 => ⟨fun _ _ _ _ => rfl, fun _ _ _ _ _ _ _ _ _ _ _ _ _ _ => rfl⟩
  | k + 1 => by
    have ih := spec_StoreOk.ok k
    obtain ⟨i4, i10⟩ := ih
    refine ⟨?_, ?_⟩
    · intro x3 h1 h0 h64_2; rw [spec_StoreOk.c4]; exact (spec_StoreOk.t4 _ k x3 h1 h0 h64_2).trans (cd (cd (cd (bn (fun t3 => (nb rfl (cd (cd (cd (cd rfl (bn (fun t4 => (nb rfl (i10 _ _ _ _ _ _ _ _ _ _ _ _ _ _))))) rfl) rfl) (bn (fun t5 => (nb rfl (i10 _ _ _ _ _ _ _ _ _ _ _ _ _ _)))))))) rfl) rfl) (bn (fun t6 => (bn (fun t7 => rfl)))))
    · intro x3 x5 x41 x42 x43 x54 x60 x61 x62 h1 h0 h64_2 h65_0 h65_1; rw [spec_StoreOk.c10]; exact (spec_StoreOk.t10 _ k x3 x5 x41 x42 x43 x54 x60 x61 x62 h1 h0 h64_2 h65_0 h65_1).trans (cd (bn (fun t8 => (cd rfl (i10 _ _ _ _ _ _ _ _ _ _ _ _ _ _)))) (i4 _ _ _ _))
set_option maxRecDepth 100000 in
theorem spec_StoreOk.oke (k : Nat) (a0_2 : Int) (a0_0 : List S53) (a0_1 : List S88) : goF Try.f36 spec_StoreOk.ctx spec_StoreOk.sp 2 spec_StoreOk.en (k + 1) [.code (body Try.f36)] (startSt [.ag [.sl 0 none, .sl 1 none, .sc (.int .i64 a0_2)]] [.rowb .t53 a0_0 0, .rowb .t88 a0_1 0]) = (spec_StoreOk.f k a0_2 a0_0 a0_1).map spec_StoreOk.e := by
  obtain ⟨i4, i10⟩ := spec_StoreOk.ok k
  rw [spec_StoreOk.f]; exact (spec_StoreOk.te _ k a0_2 a0_0 a0_1).trans (cd rfl (bn (fun t1 => (nb rfl (bn (fun t2 => (nb rfl (i4 _ _ _ _))))))))
theorem spec_StoreOk.con (k : Nat) (a0_2 : Int) (a0_0 : List S53) (a0_1 : List S88) (r) (h : spec_StoreOk.f k a0_2 a0_0 a0_1 = some r) : Contract Try.prog kit 36 [.ag [.sl 0 none, .sl 1 none, .sc (.int .i64 a0_2)]] [.rowb .t53 a0_0 0, .rowb .t88 a0_1 0] (spec_StoreOk.e r).1 (spec_StoreOk.e r).2.1 (spec_StoreOk.e r).2.2 :=
  con_okG kitOk mix (fun k => (CtxOk.cons (spec_ArenaOk.xok k) (CtxOk.cons (spec_l01In.xok k) (CtxOk.cons (spec_l11Root.xok k) (CtxOk.cons (spec_l11Get.xok k) (CtxOk.cons (spec_SweepArena.xok k) (CtxOk.cons (spec_l12Roots.xok k) CtxOk.nil))))))) (spec_StoreOk.oke k a0_2 a0_0 a0_1) h (by kernel_rfl) (by kernel_rfl) (by kernel_rfl) rfl (by kernel_rfl) rfl rfl
noncomputable def spec_StoreOk.x (k : Nat) : X := fun ins bs κ => match ins, bs with
  | [.ag [.sl 0 none, .sl 1 none, .sc (.int .i64 a0_2)]], [.rowb .t53 a0_0 0, .rowb .t88 a0_1 0] => (spec_StoreOk.f k a0_2 a0_0 a0_1).bind fun r => κ (spec_StoreOk.e r).1 (spec_StoreOk.e r).2.1 (spec_StoreOk.e r).2.2
  | _, _ => none
theorem spec_StoreOk.xok (k : Nat) : XOk 36 (spec_StoreOk.x k) := by
  intro ins bs κ res h
  unfold spec_StoreOk.x at h
  split at h
  · obtain ⟨r, hr, h⟩ := Option.bind_eq_some_iff.1 h
    exact ⟨_, _, _, spec_StoreOk.con k _ _ _ r hr, h⟩
  · cases h

/-! ### spec_RecOk: function 37 -/
noncomputable def spec_RecOk.sp : Nat → Option (Spec Ty) := fun r => none
noncomputable def spec_RecOk.en : Option (Spec Ty) := none
noncomputable def spec_RecOk.ctx (k : Nat) : Ctx Ty D := (cons 76 (spec_l01In.x k) (fun _ _ _ _ => none))
noncomputable def spec_RecOk.f (k : Nat) (a0_0 : Int) (a0_1 : Int) (a0_2 : Int) (a0_3 : Int) : Option (Bool) := ((spec_l01In.f k a0_2 0 1000000000).bind fun t1 => (if t1 = true then (if a0_0 = 1 then (if a0_1 = 0 then (some ((decide (a0_3 = 0)))) else (some (false))) else ((spec_l01In.f k a0_0 2 5).bind fun t2 => (if t2 = true then ((spec_l01In.f k a0_1 1 9).bind fun t3 => (if t3 = true then (if a0_0 = 4 then (if a0_0 = 2 then (some ((decide (a0_2 ≤ 9)))) else (if a0_0 = 3 then (some ((decide (a0_2 = 0)))) else (if a0_0 = 4 then (if a0_2 < 16 then ((spec_l01In.f k a0_3 1 1000000000).bind fun t5 => (some (t5))) else (some (false))) else (some ((decide (a0_2 < 16))))))) else (if a0_3 = 0 then (if a0_0 = 2 then (some ((decide (a0_2 ≤ 9)))) else (if a0_0 = 3 then (some ((decide (a0_2 = 0)))) else (if a0_0 = 4 then (if a0_2 < 16 then ((spec_l01In.f k a0_3 1 1000000000).bind fun t4 => (some (t4))) else (some (false))) else (some ((decide (a0_2 < 16))))))) else (some (false)))) else (some (false)))) else (some (false))))) else (some (false))))
noncomputable def spec_RecOk.e (r : Bool) : Res Ty D := (.sc (.bool r), [], [])
noncomputable abbrev spec_RecOk.g (rec : List Item → St Ty D → R) (k : Nat) := go1 Try.f37 (spec_RecOk.ctx k) spec_RecOk.sp 0 spec_RecOk.en rec
set_option maxRecDepth 100000 in
theorem spec_RecOk.te (rec : List Item → St Ty D → R) (k : Nat) (a0_0 : Int) (a0_1 : Int) (a0_2 : Int) (a0_3 : Int) : spec_RecOk.g rec k [.code (body Try.f37)] (startSt [.ag [.sc (.int .i64 a0_0), .sc (.int .i64 a0_1), .sc (.int .i64 a0_2), .sc (.int .i64 a0_3)]] []) =
  (spec_l01In.f k a0_2 0 1000000000).bind fun t1 => bif !t1 then some (spec_RecOk.e (false)) else bif decide (a0_0 = 1) then bif decide (a0_1 = 0) then some (spec_RecOk.e ((decide (a0_3 = 0)))) else some (spec_RecOk.e (false)) else (spec_l01In.f k a0_0 2 5).bind fun t2 => bif !t2 then some (spec_RecOk.e (false)) else (spec_l01In.f k a0_1 1 9).bind fun t3 => bif !t3 then some (spec_RecOk.e (false)) else bif !decide (a0_0 = 4) then bif !decide (a0_3 = 0) then some (spec_RecOk.e (false)) else bif decide (a0_0 = 2) then some (spec_RecOk.e ((decide (a0_2 ≤ 9)))) else bif decide (a0_0 = 3) then some (spec_RecOk.e ((decide (a0_2 = 0)))) else bif decide (a0_0 = 4) then bif decide (a0_2 < 16) then (spec_l01In.f k a0_3 1 1000000000).bind fun t4 => some (spec_RecOk.e (t4)) else some (spec_RecOk.e (false)) else some (spec_RecOk.e ((decide (a0_2 < 16)))) else bif decide (a0_0 = 2) then some (spec_RecOk.e ((decide (a0_2 ≤ 9)))) else bif decide (a0_0 = 3) then some (spec_RecOk.e ((decide (a0_2 = 0)))) else bif decide (a0_0 = 4) then bif decide (a0_2 < 16) then (spec_l01In.f k a0_3 1 1000000000).bind fun t5 => some (spec_RecOk.e (t5)) else some (spec_RecOk.e (false)) else some (spec_RecOk.e ((decide (a0_2 < 16)))) := by kernel_rfl
set_option maxRecDepth 100000 in
theorem spec_RecOk.oke (k : Nat) (a0_0 : Int) (a0_1 : Int) (a0_2 : Int) (a0_3 : Int) : goF Try.f37 spec_RecOk.ctx spec_RecOk.sp 0 spec_RecOk.en (k + 1) [.code (body Try.f37)] (startSt [.ag [.sc (.int .i64 a0_0), .sc (.int .i64 a0_1), .sc (.int .i64 a0_2), .sc (.int .i64 a0_3)]] []) = (spec_RecOk.f k a0_0 a0_1 a0_2 a0_3).map spec_RecOk.e := by
  rw [spec_RecOk.f]; exact (spec_RecOk.te _ k a0_0 a0_1 a0_2 a0_3).trans (bn (fun t1 => (nb rfl (cd (cd rfl rfl) (bn (fun t2 => (nb rfl (bn (fun t3 => (nb rfl (nd (nd rfl (cd rfl (cd rfl (cd (cd (bn (fun t4 => rfl)) rfl) rfl)))) (cd rfl (cd rfl (cd (cd (bn (fun t5 => rfl)) rfl) rfl))))))))))))))
theorem spec_RecOk.con (k : Nat) (a0_0 : Int) (a0_1 : Int) (a0_2 : Int) (a0_3 : Int) (r) (h : spec_RecOk.f k a0_0 a0_1 a0_2 a0_3 = some r) : Contract Try.prog kit 37 [.ag [.sc (.int .i64 a0_0), .sc (.int .i64 a0_1), .sc (.int .i64 a0_2), .sc (.int .i64 a0_3)]] [] (spec_RecOk.e r).1 (spec_RecOk.e r).2.1 (spec_RecOk.e r).2.2 :=
  con_okG kitOk mix (fun k => (CtxOk.cons (spec_l01In.xok k) CtxOk.nil)) (spec_RecOk.oke k a0_0 a0_1 a0_2 a0_3) h (by kernel_rfl) (by kernel_rfl) (by kernel_rfl) rfl (by kernel_rfl) rfl rfl
noncomputable def spec_RecOk.x (k : Nat) : X := fun ins bs κ => match ins, bs with
  | [.ag [.sc (.int .i64 a0_0), .sc (.int .i64 a0_1), .sc (.int .i64 a0_2), .sc (.int .i64 a0_3)]], [] => (spec_RecOk.f k a0_0 a0_1 a0_2 a0_3).bind fun r => κ (spec_RecOk.e r).1 (spec_RecOk.e r).2.1 (spec_RecOk.e r).2.2
  | _, _ => none
theorem spec_RecOk.xok (k : Nat) : XOk 37 (spec_RecOk.x k) := by
  intro ins bs κ res h
  unfold spec_RecOk.x at h
  split at h
  · obtain ⟨r, hr, h⟩ := Option.bind_eq_some_iff.1 h
    exact ⟨_, _, _, spec_RecOk.con k _ _ _ _ r hr, h⟩
  · cases h

/-! ### spec_l12Copy: function 38 -/
noncomputable def spec_l12Copy.sp : Nat → Option (Spec Ty) := fun r => none
noncomputable def spec_l12Copy.en : Option (Spec Ty) := some ⟨[(2, .box [.own .t53, .own .t88, .keep])], []⟩
noncomputable def spec_l12Copy.ctx (k : Nat) : Ctx Ty D := (cons 81 (spec_l11Copy.x k) (fun _ _ _ _ => none))
noncomputable def spec_l12Copy.f (k : Nat) (a0_0 : List S53) (a0_1 : List S88) (a0_2 : Int) : Option ((List S53) × (List S88) × Int) := (if ([] : List S53).length + a0_0.length ≤ 8796093022208 then ((spec_l11Copy.f k a0_1).bind fun t1 => (some ((([] : List S53) ++ a0_0), t1, a0_2))) else none)
noncomputable def spec_l12Copy.e (r : (List S53) × (List S88) × Int) : Res Ty D := (.ag [.sl 0 none, .sl 1 none, .sc (.int .i64 r.2.2)], [], [.rowb .t53 r.1 0, .rowb .t88 r.2.1 0])
noncomputable abbrev spec_l12Copy.g (rec : List Item → St Ty D → R) (k : Nat) := go1 Try.f38 (spec_l12Copy.ctx k) spec_l12Copy.sp 0 spec_l12Copy.en rec
set_option maxRecDepth 100000 in
theorem spec_l12Copy.te (rec : List Item → St Ty D → R) (k : Nat) (a0_0 : List S53) (a0_1 : List S88) (a0_2 : Int) : spec_l12Copy.g rec k [.code (body Try.f38)] (startSt [.ag [.row 0 .t53 a0_0, .row 0 .t88 a0_1, .sc (.int .i64 a0_2)]] []) =
  bif decide (([] : List S53).length + a0_0.length ≤ 8796093022208) then (spec_l11Copy.f k a0_1).bind fun t1 => some (spec_l12Copy.e ((([] : List S53) ++ a0_0), t1, a0_2)) else none := by kernel_rfl
set_option maxRecDepth 100000 in
theorem spec_l12Copy.oke (k : Nat) (a0_0 : List S53) (a0_1 : List S88) (a0_2 : Int) : goF Try.f38 spec_l12Copy.ctx spec_l12Copy.sp 0 spec_l12Copy.en (k + 1) [.code (body Try.f38)] (startSt [.ag [.row 0 .t53 a0_0, .row 0 .t88 a0_1, .sc (.int .i64 a0_2)]] []) = (spec_l12Copy.f k a0_0 a0_1 a0_2).map spec_l12Copy.e := by
  rw [spec_l12Copy.f]; exact (spec_l12Copy.te _ k a0_0 a0_1 a0_2).trans (cd (bn (fun t1 => rfl)) rfl)
theorem spec_l12Copy.con (k : Nat) (a0_0 : List S53) (a0_1 : List S88) (a0_2 : Int) (r) (h : spec_l12Copy.f k a0_0 a0_1 a0_2 = some r) : Contract Try.prog kit 38 [.ag [.row 0 .t53 a0_0, .row 0 .t88 a0_1, .sc (.int .i64 a0_2)]] [] (spec_l12Copy.e r).1 (spec_l12Copy.e r).2.1 (spec_l12Copy.e r).2.2 :=
  con_okG kitOk mix (fun k => (CtxOk.cons (spec_l11Copy.xok k) CtxOk.nil)) (spec_l12Copy.oke k a0_0 a0_1 a0_2) h (by kernel_rfl) (by kernel_rfl) (by kernel_rfl) rfl (by kernel_rfl) rfl rfl
noncomputable def spec_l12Copy.x (k : Nat) : X := fun ins bs κ => match ins, bs with
  | [.ag [.row 0 .t53 a0_0, .row 0 .t88 a0_1, .sc (.int .i64 a0_2)]], [] => (spec_l12Copy.f k a0_0 a0_1 a0_2).bind fun r => κ (spec_l12Copy.e r).1 (spec_l12Copy.e r).2.1 (spec_l12Copy.e r).2.2
  | _, _ => none
theorem spec_l12Copy.xok (k : Nat) : XOk 38 (spec_l12Copy.x k) := by
  intro ins bs κ res h
  unfold spec_l12Copy.x at h
  split at h
  · obtain ⟨r, hr, h⟩ := Option.bind_eq_some_iff.1 h
    exact ⟨_, _, _, spec_l12Copy.con k _ _ _ r hr, h⟩
  · cases h

/-! ### spec_l12At: function 40 -/
noncomputable def spec_l12At.sp : Nat → Option (Spec Ty) := fun r => bif Nat.beq r 2 then some ⟨[(1, .keep), (2, .box [.keep, .keep, .keep]), (5, .keep)], []⟩ else none
noncomputable def spec_l12At.en : Option (Spec Ty) := none
noncomputable def spec_l12At.s2 (x1 : Int) (x5 : Int) (h64_0 : List S53) (h64_1 : List S88) (h64_2 : Int) : St Ty D := ⟨(Env.put (Env.put (Env.put E (some 1) (.sc (.int .i64 x1))) (some 2) (.pt 64 0 0)) (some 5) (.sc (.int .i64 x5))), Heap.put H0 [(64, some (.box [.row 0 .t53 h64_0, .row 0 .t88 h64_1, .sc (.int .i64 h64_2)]))], 1000⟩
noncomputable def spec_l12At.ctx (k : Nat) : Ctx Ty D := (fun _ _ _ _ => none)
noncomputable def spec_l12At.c2 : Nat → Int → Int → (List S53) → (List S88) → Int → Option (Int)
  | 0, _, _, _, _, _ => none
  | k + 1, x1, x5, h64_0, h64_1, h64_2 => (if x5 < (h64_0.length : Int) then (if 0 ≤ x5 then (if x5 < (h64_0.length : Int) then (if ((rd_T53 h64_0 x5).f0) = x1 then (some (x5)) else (spec_l12At.c2 k x1 (w64 (x5 + 1)) h64_0 h64_1 h64_2)) else none) else none) else (some ((-1))))
noncomputable def spec_l12At.f (k : Nat) (a0_0 : List S53) (a0_1 : List S88) (a0_2 : Int) (a1 : Int) : Option (Int) := (spec_l12At.c2 k a1 0 a0_0 a0_1 a0_2)
noncomputable def spec_l12At.e (r : Int) : Res Ty D := (.sc (.int .i64 r), [], [])
noncomputable abbrev spec_l12At.g (rec : List Item → St Ty D → R) (k : Nat) := go1 Try.f40 (spec_l12At.ctx k) spec_l12At.sp 0 spec_l12At.en rec
set_option maxRecDepth 100000 in
theorem spec_l12At.t2 (rec : List Item → St Ty D → R) (k : Nat) (x1 : Int) (x5 : Int) (h64_0 : List S53) (h64_1 : List S88) (h64_2 : Int) : spec_l12At.g rec k (td Try.f40 2) (spec_l12At.s2 x1 x5 h64_0 h64_1 h64_2) =
  bif decide (x5 < (h64_0.length : Int)) then bif decide (0 ≤ x5) then bif decide (x5 < (h64_0.length : Int)) then bif decide (((rd_T53 h64_0 x5).f0) = x1) then some (spec_l12At.e (x5)) else rec (td Try.f40 2) (spec_l12At.s2 x1 (w64 (x5 + 1)) h64_0 h64_1 h64_2) else none else none else some (spec_l12At.e ((-1))) := by kernel_rfl
set_option maxRecDepth 100000 in
theorem spec_l12At.te (rec : List Item → St Ty D → R) (k : Nat) (a0_0 : List S53) (a0_1 : List S88) (a0_2 : Int) (a1 : Int) : spec_l12At.g rec k [.code (body Try.f40)] (startSt [.ag [.row 0 .t53 a0_0, .row 0 .t88 a0_1, .sc (.int .i64 a0_2)], .sc (.int .i64 a1)] []) =
  rec (td Try.f40 2) (spec_l12At.s2 a1 0 a0_0 a0_1 a0_2) := by kernel_rfl
set_option maxRecDepth 100000 in
theorem spec_l12At.ok : ∀ k : Nat, (∀ (x1 : Int) (x5 : Int) (h64_0 : List S53) (h64_1 : List S88) (h64_2 : Int), goF Try.f40 spec_l12At.ctx spec_l12At.sp 0 spec_l12At.en k (td Try.f40 2) (spec_l12At.s2 x1 x5 h64_0 h64_1 h64_2) = (spec_l12At.c2 k x1 x5 h64_0 h64_1 h64_2).map spec_l12At.e)
  | 0 => fun _ _ _ _ _ => rfl
  | k + 1 => by
    have ih := spec_l12At.ok k
    have i2 := ih
    intro x1 x5 h64_0 h64_1 h64_2; rw [spec_l12At.c2]; exact (spec_l12At.t2 _ k x1 x5 h64_0 h64_1 h64_2).trans (cd (cd (cd (cd rfl (i2 _ _ _ _ _)) rfl) rfl) rfl)
set_option maxRecDepth 100000 in
theorem spec_l12At.oke (k : Nat) (a0_0 : List S53) (a0_1 : List S88) (a0_2 : Int) (a1 : Int) : goF Try.f40 spec_l12At.ctx spec_l12At.sp 0 spec_l12At.en (k + 1) [.code (body Try.f40)] (startSt [.ag [.row 0 .t53 a0_0, .row 0 .t88 a0_1, .sc (.int .i64 a0_2)], .sc (.int .i64 a1)] []) = (spec_l12At.f k a0_0 a0_1 a0_2 a1).map spec_l12At.e := by
  have i2 := spec_l12At.ok k
  rw [spec_l12At.f]; exact (spec_l12At.te _ k a0_0 a0_1 a0_2 a1).trans (i2 _ _ _ _ _)
theorem spec_l12At.con (k : Nat) (a0_0 : List S53) (a0_1 : List S88) (a0_2 : Int) (a1 : Int) (r) (h : spec_l12At.f k a0_0 a0_1 a0_2 a1 = some r) : Contract Try.prog kit 40 [.ag [.row 0 .t53 a0_0, .row 0 .t88 a0_1, .sc (.int .i64 a0_2)], .sc (.int .i64 a1)] [] (spec_l12At.e r).1 (spec_l12At.e r).2.1 (spec_l12At.e r).2.2 :=
  con_okG kitOk mix (fun k => CtxOk.nil) (spec_l12At.oke k a0_0 a0_1 a0_2 a1) h (by kernel_rfl) (by kernel_rfl) (by kernel_rfl) rfl (by kernel_rfl) rfl rfl
noncomputable def spec_l12At.x (k : Nat) : X := fun ins bs κ => match ins, bs with
  | [.ag [.row 0 .t53 a0_0, .row 0 .t88 a0_1, .sc (.int .i64 a0_2)], .sc (.int .i64 a1)], [] => (spec_l12At.f k a0_0 a0_1 a0_2 a1).bind fun r => κ (spec_l12At.e r).1 (spec_l12At.e r).2.1 (spec_l12At.e r).2.2
  | _, _ => none
theorem spec_l12At.xok (k : Nat) : XOk 40 (spec_l12At.x k) := by
  intro ins bs κ res h
  unfold spec_l12At.x at h
  split at h
  · obtain ⟨r, hr, h⟩ := Option.bind_eq_some_iff.1 h
    exact ⟨_, _, _, spec_l12At.con k _ _ _ _ r hr, h⟩
  · cases h

/-! ### spec_l12Vol: function 39 -/
noncomputable def spec_l12Vol.sp : Nat → Option (Spec Ty) := fun r => bif Nat.beq r 12 then some ⟨[(2, .box [.keep, .keep, .keep]), (3, .box [.keep, .keep, .keep, .keep]), (4, .box [.own .t53, .own .t88, .keep]), (6, .keep), (8, .box [.own .t53, .own .t88, .keep]), (9, .own .t53), (10, .keep)], []⟩ else bif Nat.beq r 18 then some ⟨[(2, .box [.keep, .keep, .keep]), (3, .box [.keep, .keep, .keep, .keep]), (4, .box [.own .t53, .own .t88, .keep]), (8, .box [.own .t53, .own .t88, .keep]), (9, .own .t53), (11, .keep)], []⟩ else none
noncomputable def spec_l12Vol.en : Option (Spec Ty) := some ⟨[(4, .box [.own .t53, .own .t88, .keep]), (5, .keep)], []⟩
noncomputable def spec_l12Vol.s12 (x6 : Int) (x10 : Int) (h64_0 : List S53) (h64_1 : List S88) (h64_2 : Int) (h65_0 : Int) (h65_1 : Int) (h65_2 : Int) (h65_3 : Int) (h67 : List S53) (h68 : List S88) (h66_2 : Int) (h70 : List S53) (h71 : List S88) (h69_2 : Int) (h72 : List S53) : St Ty D := ⟨(Env.put (Env.put (Env.put (Env.put (Env.put (Env.put (Env.put E (some 2) (.pt 64 0 0)) (some 3) (.pt 65 0 0)) (some 4) (.pt 66 0 0)) (some 6) (.sc (.int .i64 x6))) (some 8) (.pt 69 0 0)) (some 9) (.sl 72 none)) (some 10) (.sc (.int .i64 x10))), Heap.put H0 [(64, some (.box [.row 0 .t53 h64_0, .row 0 .t88 h64_1, .sc (.int .i64 h64_2)])), (65, some (.box [.sc (.int .i64 h65_0), .sc (.int .i64 h65_1), .sc (.int .i64 h65_2), .sc (.int .i64 h65_3)])), (67, some (.rowb .t53 h67 0)), (68, some (.rowb .t88 h68 0)), (66, some (.box [.sl 67 none, .sl 68 none, .sc (.int .i64 h66_2)])), (70, some (.rowb .t53 h70 0)), (71, some (.rowb .t88 h71 0)), (69, some (.box [.sl 70 none, .sl 71 none, .sc (.int .i64 h69_2)])), (72, some (.rowb .t53 h72 0))], 1000⟩
noncomputable def spec_l12Vol.s18 (x11 : Int) (h64_0 : List S53) (h64_1 : List S88) (h64_2 : Int) (h65_0 : Int) (h65_1 : Int) (h65_2 : Int) (h65_3 : Int) (h67 : List S53) (h68 : List S88) (h66_2 : Int) (h70 : List S53) (h71 : List S88) (h69_2 : Int) (h72 : List S53) : St Ty D := ⟨(Env.put (Env.put (Env.put (Env.put (Env.put (Env.put E (some 2) (.pt 64 0 0)) (some 3) (.pt 65 0 0)) (some 4) (.pt 66 0 0)) (some 8) (.pt 69 0 0)) (some 9) (.sl 72 none)) (some 11) (.sc (.int .i64 x11))), Heap.put H0 [(64, some (.box [.row 0 .t53 h64_0, .row 0 .t88 h64_1, .sc (.int .i64 h64_2)])), (65, some (.box [.sc (.int .i64 h65_0), .sc (.int .i64 h65_1), .sc (.int .i64 h65_2), .sc (.int .i64 h65_3)])), (67, some (.rowb .t53 h67 0)), (68, some (.rowb .t88 h68 0)), (66, some (.box [.sl 67 none, .sl 68 none, .sc (.int .i64 h66_2)])), (70, some (.rowb .t53 h70 0)), (71, some (.rowb .t88 h71 0)), (69, some (.box [.sl 70 none, .sl 71 none, .sc (.int .i64 h69_2)])), (72, some (.rowb .t53 h72 0))], 1000⟩
noncomputable def spec_l12Vol.ctx (k : Nat) : Ctx Ty D := (cons 38 (spec_l12Copy.x k) (cons 40 (spec_l12At.x k) (fun _ _ _ _ => none)))
mutual
noncomputable def spec_l12Vol.c12 : Nat → Int → Int → (List S53) → (List S88) → Int → Int → Int → Int → Int → (List S53) → (List S88) → Int → (List S53) → (List S88) → Int → (List S53) → Option ((List S53) × (List S88) × Int × Bool)
  | 0, _, _, _, _, _, _, _, _, _, _, _, _, _, _, _, _ => none
  | k + 1, x6, x10, h64_0, h64_1, h64_2, h65_0, h65_1, h65_2, h65_3, h67, h68, h66_2, h70, h71, h69_2, h72 => (if x10 < (h64_0.length : Int) then (if 0 ≤ x10 then (if x10 < (h64_0.length : Int) then (if ((rd_T53 h64_0 x10).f0) < h65_1 then (if 0 ≤ x10 then (if x10 < (h64_0.length : Int) then (if h72.length + ([(S53.mk ((rd_T53 h64_0 x10).f0) ((rd_T53 h64_0 x10).f1))] : List S53).length ≤ 8796093022208 then (spec_l12Vol.c12 k x6 (w64 (x10 + 1)) h64_0 h64_1 h64_2 h65_0 h65_1 h65_2 h65_3 h67 h68 h66_2 h70 h71 h69_2 (h72 ++ ([(S53.mk ((rd_T53 h64_0 x10).f0) ((rd_T53 h64_0 x10).f1))] : List S53))) else none) else none) else none) else (spec_l12Vol.c12 k x6 (w64 (x10 + 1)) h64_0 h64_1 h64_2 h65_0 h65_1 h65_2 h65_3 h67 h68 h66_2 h70 h71 h69_2 h72)) else none) else none) else (if h72.length + ([(S53.mk h65_1 x6)] : List S53).length ≤ 8796093022208 then (spec_l12Vol.c18 k 0 h64_0 h64_1 h64_2 h65_0 h65_1 h65_2 h65_3 h67 h68 h66_2 h70 h71 h69_2 (h72 ++ ([(S53.mk h65_1 x6)] : List S53))) else none))
noncomputable def spec_l12Vol.c18 : Nat → Int → (List S53) → (List S88) → Int → Int → Int → Int → Int → (List S53) → (List S88) → Int → (List S53) → (List S88) → Int → (List S53) → Option ((List S53) × (List S88) × Int × Bool)
  | 0, _, _, _, _, _, _, _, _, _, _, _, _, _, _, _ => none
  | k + 1, x11, h64_0, h64_1, h64_2, h65_0, h65_1, h65_2, h65_3, h67, h68, h66_2, h70, h71, h69_2, h72 => (if x11 < (h64_0.length : Int) then (if 0 ≤ x11 then (if x11 < (h64_0.length : Int) then (if ((rd_T53 h64_0 x11).f0) > h65_1 then (if 0 ≤ x11 then (if x11 < (h64_0.length : Int) then (if h72.length + ([(S53.mk ((rd_T53 h64_0 x11).f0) ((rd_T53 h64_0 x11).f1))] : List S53).length ≤ 8796093022208 then (spec_l12Vol.c18 k (w64 (x11 + 1)) h64_0 h64_1 h64_2 h65_0 h65_1 h65_2 h65_3 h67 h68 h66_2 h70 h71 h69_2 (h72 ++ ([(S53.mk ((rd_T53 h64_0 x11).f0) ((rd_T53 h64_0 x11).f1))] : List S53))) else none) else none) else none) else (spec_l12Vol.c18 k (w64 (x11 + 1)) h64_0 h64_1 h64_2 h65_0 h65_1 h65_2 h65_3 h67 h68 h66_2 h70 h71 h69_2 h72)) else none) else none) else (some (h72, h71, h69_2, true)))
end
noncomputable def spec_l12Vol.f (k : Nat) (a0_0 : List S53) (a0_1 : List S88) (a0_2 : Int) (a1_0 : Int) (a1_1 : Int) (a1_2 : Int) (a1_3 : Int) : Option ((List S53) × (List S88) × Int × Bool) := (if a1_2 > 0 then ((spec_l12At.f k a0_0 a0_1 a0_2 a1_2).bind fun t1 => (if t1 < 0 then ((spec_l12Copy.f k a0_0 a0_1 a0_2).bind fun t2 => (some (t2.1, t2.2.1, t2.2.2, false))) else (if 0 ≤ t1 then (if t1 < (a0_0.length : Int) then ((spec_l12At.f k a0_0 a0_1 a0_2 a1_1).bind fun t3 => (if t3 ≥ 0 then ((spec_l12Copy.f k a0_0 a0_1 a0_2).bind fun t4 => (some (t4.1, t4.2.1, t4.2.2, false))) else (if (a0_0.length : Int) = 3 then ((spec_l12Copy.f k a0_0 a0_1 a0_2).bind fun t5 => (some (t5.1, t5.2.1, t5.2.2, false))) else ((spec_l12Copy.f k a0_0 a0_1 a0_2).bind fun t6 => (spec_l12Vol.c12 k ((rd_T53 a0_0 t1).f1) 0 a0_0 a0_1 a0_2 a1_0 a1_1 a1_2 a1_3 ([] : List S53) ([] : List S88) 0 t6.1 t6.2.1 t6.2.2 ([] : List S53)))))) else none) else none))) else ((spec_l12At.f k a0_0 a0_1 a0_2 a1_1).bind fun t7 => (if t7 ≥ 0 then ((spec_l12Copy.f k a0_0 a0_1 a0_2).bind fun t8 => (some (t8.1, t8.2.1, t8.2.2, false))) else (if (a0_0.length : Int) = 3 then ((spec_l12Copy.f k a0_0 a0_1 a0_2).bind fun t9 => (some (t9.1, t9.2.1, t9.2.2, false))) else ((spec_l12Copy.f k a0_0 a0_1 a0_2).bind fun t10 => (spec_l12Vol.c12 k (-1) 0 a0_0 a0_1 a0_2 a1_0 a1_1 a1_2 a1_3 ([] : List S53) ([] : List S88) 0 t10.1 t10.2.1 t10.2.2 ([] : List S53)))))))
noncomputable def spec_l12Vol.e (r : (List S53) × (List S88) × Int × Bool) : Res Ty D := (.tu [.ag [.sl 0 none, .sl 1 none, .sc (.int .i64 r.2.2.1)], .sc (.bool r.2.2.2)], [], [.rowb .t53 r.1 0, .rowb .t88 r.2.1 0])
noncomputable abbrev spec_l12Vol.g (rec : List Item → St Ty D → R) (k : Nat) := go1 Try.f39 (spec_l12Vol.ctx k) spec_l12Vol.sp 0 spec_l12Vol.en rec
set_option maxRecDepth 100000 in
theorem spec_l12Vol.t12 (rec : List Item → St Ty D → R) (k : Nat) (x6 : Int) (x10 : Int) (h64_0 : List S53) (h64_1 : List S88) (h64_2 : Int) (h65_0 : Int) (h65_1 : Int) (h65_2 : Int) (h65_3 : Int) (h67 : List S53) (h68 : List S88) (h66_2 : Int) (h70 : List S53) (h71 : List S88) (h69_2 : Int) (h72 : List S53) : spec_l12Vol.g rec k (td Try.f39 12) (spec_l12Vol.s12 x6 x10 h64_0 h64_1 h64_2 h65_0 h65_1 h65_2 h65_3 h67 h68 h66_2 h70 h71 h69_2 h72) =
  bif decide (x10 < (h64_0.length : Int)) then bif decide (0 ≤ x10) then bif decide (x10 < (h64_0.length : Int)) then bif decide (((rd_T53 h64_0 x10).f0) < h65_1) then bif decide (0 ≤ x10) then bif decide (x10 < (h64_0.length : Int)) then bif decide (h72.length + ([(S53.mk ((rd_T53 h64_0 x10).f0) ((rd_T53 h64_0 x10).f1))] : List S53).length ≤ 8796093022208) then rec (td Try.f39 12) (spec_l12Vol.s12 x6 (w64 (x10 + 1)) h64_0 h64_1 h64_2 h65_0 h65_1 h65_2 h65_3 h67 h68 h66_2 h70 h71 h69_2 (h72 ++ ([(S53.mk ((rd_T53 h64_0 x10).f0) ((rd_T53 h64_0 x10).f1))] : List S53))) else none else none else none else rec (td Try.f39 12) (spec_l12Vol.s12 x6 (w64 (x10 + 1)) h64_0 h64_1 h64_2 h65_0 h65_1 h65_2 h65_3 h67 h68 h66_2 h70 h71 h69_2 h72) else none else none else bif decide (h72.length + ([(S53.mk h65_1 x6)] : List S53).length ≤ 8796093022208) then rec (td Try.f39 18) (spec_l12Vol.s18 0 h64_0 h64_1 h64_2 h65_0 h65_1 h65_2 h65_3 h67 h68 h66_2 h70 h71 h69_2 (h72 ++ ([(S53.mk h65_1 x6)] : List S53))) else none := by kernel_rfl
set_option maxRecDepth 100000 in
theorem spec_l12Vol.t18 (rec : List Item → St Ty D → R) (k : Nat) (x11 : Int) (h64_0 : List S53) (h64_1 : List S88) (h64_2 : Int) (h65_0 : Int) (h65_1 : Int) (h65_2 : Int) (h65_3 : Int) (h67 : List S53) (h68 : List S88) (h66_2 : Int) (h70 : List S53) (h71 : List S88) (h69_2 : Int) (h72 : List S53) : spec_l12Vol.g rec k (td Try.f39 18) (spec_l12Vol.s18 x11 h64_0 h64_1 h64_2 h65_0 h65_1 h65_2 h65_3 h67 h68 h66_2 h70 h71 h69_2 h72) =
  bif decide (x11 < (h64_0.length : Int)) then bif decide (0 ≤ x11) then bif decide (x11 < (h64_0.length : Int)) then bif decide (((rd_T53 h64_0 x11).f0) > h65_1) then bif decide (0 ≤ x11) then bif decide (x11 < (h64_0.length : Int)) then bif decide (h72.length + ([(S53.mk ((rd_T53 h64_0 x11).f0) ((rd_T53 h64_0 x11).f1))] : List S53).length ≤ 8796093022208) then rec (td Try.f39 18) (spec_l12Vol.s18 (w64 (x11 + 1)) h64_0 h64_1 h64_2 h65_0 h65_1 h65_2 h65_3 h67 h68 h66_2 h70 h71 h69_2 (h72 ++ ([(S53.mk ((rd_T53 h64_0 x11).f0) ((rd_T53 h64_0 x11).f1))] : List S53))) else none else none else none else rec (td Try.f39 18) (spec_l12Vol.s18 (w64 (x11 + 1)) h64_0 h64_1 h64_2 h65_0 h65_1 h65_2 h65_3 h67 h68 h66_2 h70 h71 h69_2 h72) else none else none else some (spec_l12Vol.e (h72, h71, h69_2, true)) := by kernel_rfl
set_option maxRecDepth 100000 in
theorem spec_l12Vol.te (rec : List Item → St Ty D → R) (k : Nat) (a0_0 : List S53) (a0_1 : List S88) (a0_2 : Int) (a1_0 : Int) (a1_1 : Int) (a1_2 : Int) (a1_3 : Int) : spec_l12Vol.g rec k [.code (body Try.f39)] (startSt [.ag [.row 0 .t53 a0_0, .row 0 .t88 a0_1, .sc (.int .i64 a0_2)], .ag [.sc (.int .i64 a1_0), .sc (.int .i64 a1_1), .sc (.int .i64 a1_2), .sc (.int .i64 a1_3)]] []) =
  bif decide (a1_2 > 0) then (spec_l12At.f k a0_0 a0_1 a0_2 a1_2).bind fun t1 => bif decide (t1 < 0) then (spec_l12Copy.f k a0_0 a0_1 a0_2).bind fun t2 => some (spec_l12Vol.e (t2.1, t2.2.1, t2.2.2, false)) else bif decide (0 ≤ t1) then bif decide (t1 < (a0_0.length : Int)) then (spec_l12At.f k a0_0 a0_1 a0_2 a1_1).bind fun t3 => bif decide (t3 ≥ 0) then (spec_l12Copy.f k a0_0 a0_1 a0_2).bind fun t4 => some (spec_l12Vol.e (t4.1, t4.2.1, t4.2.2, false)) else bif decide ((a0_0.length : Int) = 3) then (spec_l12Copy.f k a0_0 a0_1 a0_2).bind fun t5 => some (spec_l12Vol.e (t5.1, t5.2.1, t5.2.2, false)) else (spec_l12Copy.f k a0_0 a0_1 a0_2).bind fun t6 => rec (td Try.f39 12) (spec_l12Vol.s12 ((rd_T53 a0_0 t1).f1) 0 a0_0 a0_1 a0_2 a1_0 a1_1 a1_2 a1_3 ([] : List S53) ([] : List S88) 0 t6.1 t6.2.1 t6.2.2 ([] : List S53)) else none else none else (spec_l12At.f k a0_0 a0_1 a0_2 a1_1).bind fun t7 => bif decide (t7 ≥ 0) then (spec_l12Copy.f k a0_0 a0_1 a0_2).bind fun t8 => some (spec_l12Vol.e (t8.1, t8.2.1, t8.2.2, false)) else bif decide ((a0_0.length : Int) = 3) then (spec_l12Copy.f k a0_0 a0_1 a0_2).bind fun t9 => some (spec_l12Vol.e (t9.1, t9.2.1, t9.2.2, false)) else (spec_l12Copy.f k a0_0 a0_1 a0_2).bind fun t10 => rec (td Try.f39 12) (spec_l12Vol.s12 (-1) 0 a0_0 a0_1 a0_2 a1_0 a1_1 a1_2 a1_3 ([] : List S53) ([] : List S88) 0 t10.1 t10.2.1 t10.2.2 ([] : List S53)) := by kernel_rfl
set_option maxRecDepth 100000 in
theorem spec_l12Vol.ok : ∀ k : Nat, (∀ (x6 : Int) (x10 : Int) (h64_0 : List S53) (h64_1 : List S88) (h64_2 : Int) (h65_0 : Int) (h65_1 : Int) (h65_2 : Int) (h65_3 : Int) (h67 : List S53) (h68 : List S88) (h66_2 : Int) (h70 : List S53) (h71 : List S88) (h69_2 : Int) (h72 : List S53), goF Try.f39 spec_l12Vol.ctx spec_l12Vol.sp 0 spec_l12Vol.en k (td Try.f39 12) (spec_l12Vol.s12 x6 x10 h64_0 h64_1 h64_2 h65_0 h65_1 h65_2 h65_3 h67 h68 h66_2 h70 h71 h69_2 h72) = (spec_l12Vol.c12 k x6 x10 h64_0 h64_1 h64_2 h65_0 h65_1 h65_2 h65_3 h67 h68 h66_2 h70 h71 h69_2 h72).map spec_l12Vol.e) ∧ (∀ (x11 : Int) (h64_0 : List S53) (h64_1 : List S88) (h64_2 : Int) (h65_0 : Int) (h65_1 : Int) (h65_2 : Int) (h65_3 : Int) (h67 : List S53) (h68 : List S88) (h66_2 : Int) (h70 : List S53) (h71 : List S88) (h69_2 : Int) (h72 : List S53), goF Try.f39 spec_l12Vol.ctx spec_l12Vol.sp 0 spec_l12Vol.en k (td Try.f39 18) (spec_l12Vol.s18 x11 h64_0 h64_1 h64_2 h65_0 h65_1 h65_2 h65_3 h67 h68 h66_2 h70 h71 h69_2 h72) = (spec_l12Vol.c18 k x11 h64_0 h64_1 h64_2 h65_0 h65_1 h65_2 h65_3 h67 h68 h66_2 h70 h71 h69_2 h72).map spec_l12Vol.e)
  | 0 => ⟨fun _ _ _ _ _ _ _ _ _ _ _ _ _ _ _ _ => rfl, fun _ _ _ _ _ _ _ _ _ _ _ _ _ _ _ => rfl⟩
  | k + 1 => by
    have ih := spec_l12Vol.ok k
    obtain ⟨i12, i18⟩ := ih
    refine ⟨?_, ?_⟩
    · intro x6 x10 h64_0 h64_1 h64_2 h65_0 h65_1 h65_2 h65_3 h67 h68 h66_2 h70 h71 h69_2 h72; rw [spec_l12Vol.c12]; exact (spec_l12Vol.t12 _ k x6 x10 h64_0 h64_1 h64_2 h65_0 h65_1 h65_2 h65_3 h67 h68 h66_2 h70 h71 h69_2 h72).trans (cd (cd (cd (cd (cd (cd (cd (i12 _ _ _ _ _ _ _ _ _ _ _ _ _ _ _ _) rfl) rfl) rfl) (i12 _ _ _ _ _ _ _ _ _ _ _ _ _ _ _ _)) rfl) rfl) (cd (i18 _ _ _ _ _ _ _ _ _ _ _ _ _ _ _) rfl))
    · intro x11 h64_0 h64_1 h64_2 h65_0 h65_1 h65_2 h65_3 h67 h68 h66_2 h70 h71 h69_2 h72; rw [spec_l12Vol.c18]; exact (spec_l12Vol.t18 _ k x11 h64_0 h64_1 h64_2 h65_0 h65_1 h65_2 h65_3 h67 h68 h66_2 h70 h71 h69_2 h72).trans (cd (cd (cd (cd (cd (cd (cd (i18 _ _ _ _ _ _ _ _ _ _ _ _ _ _ _) rfl) rfl) rfl) (i18 _ _ _ _ _ _ _ _ _ _ _ _ _ _ _)) rfl) rfl) rfl)
set_option maxRecDepth 100000 in
theorem spec_l12Vol.oke (k : Nat) (a0_0 : List S53) (a0_1 : List S88) (a0_2 : Int) (a1_0 : Int) (a1_1 : Int) (a1_2 : Int) (a1_3 : Int) : goF Try.f39 spec_l12Vol.ctx spec_l12Vol.sp 0 spec_l12Vol.en (k + 1) [.code (body Try.f39)] (startSt [.ag [.row 0 .t53 a0_0, .row 0 .t88 a0_1, .sc (.int .i64 a0_2)], .ag [.sc (.int .i64 a1_0), .sc (.int .i64 a1_1), .sc (.int .i64 a1_2), .sc (.int .i64 a1_3)]] []) = (spec_l12Vol.f k a0_0 a0_1 a0_2 a1_0 a1_1 a1_2 a1_3).map spec_l12Vol.e := by
  obtain ⟨i12, i18⟩ := spec_l12Vol.ok k
  rw [spec_l12Vol.f]; exact (spec_l12Vol.te _ k a0_0 a0_1 a0_2 a1_0 a1_1 a1_2 a1_3).trans (cd (bn (fun t1 => (cd (bn (fun t2 => rfl)) (cd (cd (bn (fun t3 => (cd (bn (fun t4 => rfl)) (cd (bn (fun t5 => rfl)) (bn (fun t6 => (i12 _ _ _ _ _ _ _ _ _ _ _ _ _ _ _ _))))))) rfl) rfl)))) (bn (fun t7 => (cd (bn (fun t8 => rfl)) (cd (bn (fun t9 => rfl)) (bn (fun t10 => (i12 _ _ _ _ _ _ _ _ _ _ _ _ _ _ _ _))))))))
theorem spec_l12Vol.con (k : Nat) (a0_0 : List S53) (a0_1 : List S88) (a0_2 : Int) (a1_0 : Int) (a1_1 : Int) (a1_2 : Int) (a1_3 : Int) (r) (h : spec_l12Vol.f k a0_0 a0_1 a0_2 a1_0 a1_1 a1_2 a1_3 = some r) : Contract Try.prog kit 39 [.ag [.row 0 .t53 a0_0, .row 0 .t88 a0_1, .sc (.int .i64 a0_2)], .ag [.sc (.int .i64 a1_0), .sc (.int .i64 a1_1), .sc (.int .i64 a1_2), .sc (.int .i64 a1_3)]] [] (spec_l12Vol.e r).1 (spec_l12Vol.e r).2.1 (spec_l12Vol.e r).2.2 :=
  con_okG kitOk mix (fun k => (CtxOk.cons (spec_l12Copy.xok k) (CtxOk.cons (spec_l12At.xok k) CtxOk.nil))) (spec_l12Vol.oke k a0_0 a0_1 a0_2 a1_0 a1_1 a1_2 a1_3) h (by kernel_rfl) (by kernel_rfl) (by kernel_rfl) rfl (by kernel_rfl) rfl rfl
noncomputable def spec_l12Vol.x (k : Nat) : X := fun ins bs κ => match ins, bs with
  | [.ag [.row 0 .t53 a0_0, .row 0 .t88 a0_1, .sc (.int .i64 a0_2)], .ag [.sc (.int .i64 a1_0), .sc (.int .i64 a1_1), .sc (.int .i64 a1_2), .sc (.int .i64 a1_3)]], [] => (spec_l12Vol.f k a0_0 a0_1 a0_2 a1_0 a1_1 a1_2 a1_3).bind fun r => κ (spec_l12Vol.e r).1 (spec_l12Vol.e r).2.1 (spec_l12Vol.e r).2.2
  | _, _ => none
theorem spec_l12Vol.xok (k : Nat) : XOk 39 (spec_l12Vol.x k) := by
  intro ins bs κ res h
  unfold spec_l12Vol.x at h
  split at h
  · obtain ⟨r, hr, h⟩ := Option.bind_eq_some_iff.1 h
    exact ⟨_, _, _, spec_l12Vol.con k _ _ _ _ _ _ _ r hr, h⟩
  · cases h
end Go.Proofs.Yteideicglgpfiaa.M2

/- Plain runs of functions: each is a plain Lean function, and keeps its contract. Written by a program of this session. -/
namespace Go.Proofs.Yteideicglgpfiaa.M2
open Go Go.Proofs.Yteideicglgpfiaa.PK
set_option linter.unusedVariables false
set_option linter.unusedSimpArgs false
set_option maxHeartbeats 4000000
/-! ### spec_l12Swept: function 41 -/
noncomputable def spec_l12Swept.sp : Nat → Option (Spec Ty) := fun r => bif Nat.beq r 4 then some ⟨[(2, .box [.own .t53, .own .t88, .keep]), (4, .own .t3), (5, .box [.own .t53, .own .t88, .keep]), (6, .keep)], []⟩ else none
noncomputable def spec_l12Swept.en : Option (Spec Ty) := some ⟨[(2, .box [.own .t53, .own .t88, .keep])], []⟩
noncomputable def spec_l12Swept.s4 (x6 : Int) (h65 : List S53) (h66 : List S88) (h64_2 : Int) (h67 : List Int) (h69 : List S53) (h70 : List S88) (h68_2 : Int) : St Ty D := ⟨(Env.put (Env.put (Env.put (Env.put E (some 2) (.pt 64 0 0)) (some 4) (.sl 67 none)) (some 5) (.pt 68 0 0)) (some 6) (.sc (.int .i64 x6))), Heap.put H0 [(65, some (.rowb .t53 h65 0)), (66, some (.rowb .t88 h66 0)), (64, some (.box [.sl 65 none, .sl 66 none, .sc (.int .i64 h64_2)])), (67, some (.rowb .t3 h67 0)), (69, some (.rowb .t53 h69 0)), (70, some (.rowb .t88 h70 0)), (68, some (.box [.sl 69 none, .sl 70 none, .sc (.int .i64 h68_2)]))], 1000⟩
noncomputable def spec_l12Swept.ctx (k : Nat) : Ctx Ty D := (cons 79 (spec_SweepArena.x k) (cons 80 (spec_l12Roots.x k) (fun _ _ _ _ => none)))
noncomputable def spec_l12Swept.c4 : Nat → Int → (List S53) → (List S88) → Int → (List Int) → (List S53) → (List S88) → Int → Option ((List S53) × (List S88) × Int)
  | 0, _, _, _, _, _, _, _, _ => none
  | k + 1, x6, h65, h66, h64_2, h67, h69, h70, h68_2 => (if x6 < (h69.length : Int) then (if 0 ≤ x6 then (if x6 < (h67.length : Int) then (if 0 ≤ x6 then (if x6 < (h69.length : Int) then (spec_l12Swept.c4 k (w64 (x6 + 1)) h65 h66 h64_2 h67 (h69.set x6.toNat (S53.mk ((rd_T53 h69 x6).f0) (rd_T3 h67 x6))) h70 h68_2) else none) else none) else none) else none) else (some (h69, h70, h68_2)))
noncomputable def spec_l12Swept.f (k : Nat) (a0_0 : List S53) (a0_1 : List S88) (a0_2 : Int) : Option ((List S53) × (List S88) × Int) := ((spec_l12Roots.f k a0_0 a0_1 a0_2).bind fun t1 => ((spec_SweepArena.f k a0_1 t1).bind fun t2 => (if ([] : List S53).length + a0_0.length ≤ 8796093022208 then (spec_l12Swept.c4 k 0 ([] : List S53) ([] : List S88) 0 t2.2 (([] : List S53) ++ a0_0) t2.1 a0_2) else none)))
noncomputable def spec_l12Swept.e (r : (List S53) × (List S88) × Int) : Res Ty D := (.ag [.sl 0 none, .sl 1 none, .sc (.int .i64 r.2.2)], [], [.rowb .t53 r.1 0, .rowb .t88 r.2.1 0])
noncomputable abbrev spec_l12Swept.g (rec : List Item → St Ty D → R) (k : Nat) := go1 Try.f41 (spec_l12Swept.ctx k) spec_l12Swept.sp 0 spec_l12Swept.en rec
set_option maxRecDepth 100000 in
theorem spec_l12Swept.t4 (rec : List Item → St Ty D → R) (k : Nat) (x6 : Int) (h65 : List S53) (h66 : List S88) (h64_2 : Int) (h67 : List Int) (h69 : List S53) (h70 : List S88) (h68_2 : Int) : spec_l12Swept.g rec k (td Try.f41 4) (spec_l12Swept.s4 x6 h65 h66 h64_2 h67 h69 h70 h68_2) =
  bif decide (x6 < (h69.length : Int)) then bif decide (0 ≤ x6) then bif decide (x6 < (h67.length : Int)) then bif decide (0 ≤ x6) then bif decide (x6 < (h69.length : Int)) then rec (td Try.f41 4) (spec_l12Swept.s4 (w64 (x6 + 1)) h65 h66 h64_2 h67 (h69.set x6.toNat (S53.mk ((rd_T53 h69 x6).f0) (rd_T3 h67 x6))) h70 h68_2) else none else none else none else none else some (spec_l12Swept.e (h69, h70, h68_2)) := by kernel_rfl
set_option maxRecDepth 100000 in
theorem spec_l12Swept.te (rec : List Item → St Ty D → R) (k : Nat) (a0_0 : List S53) (a0_1 : List S88) (a0_2 : Int) : spec_l12Swept.g rec k [.code (body Try.f41)] (startSt [.ag [.row 0 .t53 a0_0, .row 0 .t88 a0_1, .sc (.int .i64 a0_2)]] []) =
  (spec_l12Roots.f k a0_0 a0_1 a0_2).bind fun t1 => (spec_SweepArena.f k a0_1 t1).bind fun t2 => bif decide (([] : List S53).length + a0_0.length ≤ 8796093022208) then rec (td Try.f41 4) (spec_l12Swept.s4 0 ([] : List S53) ([] : List S88) 0 t2.2 (([] : List S53) ++ a0_0) t2.1 a0_2) else none := by kernel_rfl
set_option maxRecDepth 100000 in
theorem spec_l12Swept.ok : ∀ k : Nat, (∀ (x6 : Int) (h65 : List S53) (h66 : List S88) (h64_2 : Int) (h67 : List Int) (h69 : List S53) (h70 : List S88) (h68_2 : Int), goF Try.f41 spec_l12Swept.ctx spec_l12Swept.sp 0 spec_l12Swept.en k (td Try.f41 4) (spec_l12Swept.s4 x6 h65 h66 h64_2 h67 h69 h70 h68_2) = (spec_l12Swept.c4 k x6 h65 h66 h64_2 h67 h69 h70 h68_2).map spec_l12Swept.e)
  | 0 => fun _ _ _ _ _ _ _ _ => rfl
  | k + 1 => by
    have ih := spec_l12Swept.ok k
    have i4 := ih
    intro x6 h65 h66 h64_2 h67 h69 h70 h68_2; rw [spec_l12Swept.c4]; exact (spec_l12Swept.t4 _ k x6 h65 h66 h64_2 h67 h69 h70 h68_2).trans (cd (cd (cd (cd (cd (i4 _ _ _ _ _ _ _ _) rfl) rfl) rfl) rfl) rfl)
set_option maxRecDepth 100000 in
theorem spec_l12Swept.oke (k : Nat) (a0_0 : List S53) (a0_1 : List S88) (a0_2 : Int) : goF Try.f41 spec_l12Swept.ctx spec_l12Swept.sp 0 spec_l12Swept.en (k + 1) [.code (body Try.f41)] (startSt [.ag [.row 0 .t53 a0_0, .row 0 .t88 a0_1, .sc (.int .i64 a0_2)]] []) = (spec_l12Swept.f k a0_0 a0_1 a0_2).map spec_l12Swept.e := by
  have i4 := spec_l12Swept.ok k
  rw [spec_l12Swept.f]; exact (spec_l12Swept.te _ k a0_0 a0_1 a0_2).trans (bn (fun t1 => (bn (fun t2 => (cd (i4 _ _ _ _ _ _ _ _) rfl)))))
theorem spec_l12Swept.con (k : Nat) (a0_0 : List S53) (a0_1 : List S88) (a0_2 : Int) (r) (h : spec_l12Swept.f k a0_0 a0_1 a0_2 = some r) : Contract Try.prog kit 41 [.ag [.row 0 .t53 a0_0, .row 0 .t88 a0_1, .sc (.int .i64 a0_2)]] [] (spec_l12Swept.e r).1 (spec_l12Swept.e r).2.1 (spec_l12Swept.e r).2.2 :=
  con_okG kitOk mix (fun k => (CtxOk.cons (spec_SweepArena.xok k) (CtxOk.cons (spec_l12Roots.xok k) CtxOk.nil))) (spec_l12Swept.oke k a0_0 a0_1 a0_2) h (by kernel_rfl) (by kernel_rfl) (by kernel_rfl) rfl (by kernel_rfl) rfl rfl
noncomputable def spec_l12Swept.x (k : Nat) : X := fun ins bs κ => match ins, bs with
  | [.ag [.row 0 .t53 a0_0, .row 0 .t88 a0_1, .sc (.int .i64 a0_2)]], [] => (spec_l12Swept.f k a0_0 a0_1 a0_2).bind fun r => κ (spec_l12Swept.e r).1 (spec_l12Swept.e r).2.1 (spec_l12Swept.e r).2.2
  | _, _ => none
theorem spec_l12Swept.xok (k : Nat) : XOk 41 (spec_l12Swept.x k) := by
  intro ins bs κ res h
  unfold spec_l12Swept.x at h
  split at h
  · obtain ⟨r, hr, h⟩ := Option.bind_eq_some_iff.1 h
    exact ⟨_, _, _, spec_l12Swept.con k _ _ _ r hr, h⟩
  · cases h

/-! ### spec_PutAt: function 42 -/
noncomputable def spec_PutAt.sp : Nat → Option (Spec Ty) := fun r => none
noncomputable def spec_PutAt.en : Option (Spec Ty) := some ⟨[(8, .box [.own .t88]), (9, .keep)], []⟩
noncomputable def spec_PutAt.ctx (k : Nat) : Ctx Ty D := (cons 75 (spec_ArenaOk.x k) (cons 76 (spec_l01In.x k) (cons 77 (spec_l11Root.x k) (cons 81 (spec_l11Copy.x k) (fun _ _ _ _ => none)))))
noncomputable def spec_PutAt.f (k : Nat) (a0_0 : List S88) (a1 : Int) (a2 : Int) (a3 : Int) : Option ((List S88) × Int) := ((spec_l11Copy.f k a0_0).bind fun t1 => ((spec_ArenaOk.f k a0_0).bind fun t2 => (if t2 = true then ((spec_l11Root.f k a0_0 a1).bind fun t3 => (if t3 = true then ((spec_l01In.f k a2 0 15).bind fun t4 => (if t4 = true then (if a3 < 0 then (some (t1, a1)) else (if a1 ≥ 0 then (if 0 ≤ a1 then (if a1 < (a0_0.length : Int) then (if ([] : List Int).length + ((rd_T88 a0_0 a1).f1).length ≤ 17592186044416 then (if 0 ≤ (w64 (Int.tdiv a2 4)) then (if (w64 (Int.tdiv a2 4)) < ((([] : List Int) ++ ((rd_T88 a0_0 a1).f1)).length : Int) then (if (rd_T3 (([] : List Int) ++ ((rd_T88 a0_0 a1).f1)) (w64 (Int.tdiv a2 4))) ≥ 0 then (if 0 ≤ (rd_T3 (([] : List Int) ++ ((rd_T88 a0_0 a1).f1)) (w64 (Int.tdiv a2 4))) then (if (rd_T3 (([] : List Int) ++ ((rd_T88 a0_0 a1).f1)) (w64 (Int.tdiv a2 4))) < (a0_0.length : Int) then (if ([] : List Int).length + ((rd_T88 a0_0 (rd_T3 (([] : List Int) ++ ((rd_T88 a0_0 a1).f1)) (w64 (Int.tdiv a2 4)))).f1).length ≤ 17592186044416 then (if 0 ≤ (Int.tmod a2 4) then (if (Int.tmod a2 4) < ((([] : List Int) ++ ((rd_T88 a0_0 (rd_T3 (([] : List Int) ++ ((rd_T88 a0_0 a1).f1)) (w64 (Int.tdiv a2 4)))).f1)).length : Int) then (if 0 ≤ (w64 (Int.tdiv a2 4)) then (if (w64 (Int.tdiv a2 4)) < ((([] : List Int) ++ ((rd_T88 a0_0 a1).f1)).length : Int) then (if t1.length + ([(S88.mk true ((([] : List Int) ++ ((rd_T88 a0_0 (rd_T3 (([] : List Int) ++ ((rd_T88 a0_0 a1).f1)) (w64 (Int.tdiv a2 4)))).f1)).set ((Int.tmod a2 4).toNat) a3)), (S88.mk false ((([] : List Int) ++ ((rd_T88 a0_0 a1).f1)).set ((w64 (Int.tdiv a2 4)).toNat) (t1.length : Int)))] : List S88).length ≤ 4398046511104 then (some ((t1 ++ ([(S88.mk true ((([] : List Int) ++ ((rd_T88 a0_0 (rd_T3 (([] : List Int) ++ ((rd_T88 a0_0 a1).f1)) (w64 (Int.tdiv a2 4)))).f1)).set ((Int.tmod a2 4).toNat) a3)), (S88.mk false ((([] : List Int) ++ ((rd_T88 a0_0 a1).f1)).set ((w64 (Int.tdiv a2 4)).toNat) (t1.length : Int)))] : List S88)), (w64 (((t1 ++ ([(S88.mk true ((([] : List Int) ++ ((rd_T88 a0_0 (rd_T3 (([] : List Int) ++ ((rd_T88 a0_0 a1).f1)) (w64 (Int.tdiv a2 4)))).f1)).set ((Int.tmod a2 4).toNat) a3)), (S88.mk false ((([] : List Int) ++ ((rd_T88 a0_0 a1).f1)).set ((w64 (Int.tdiv a2 4)).toNat) (t1.length : Int)))] : List S88)).length : Int) - 1)))) else none) else none) else none) else none) else none) else none) else none) else none) else (if 0 ≤ (Int.tmod a2 4) then (if (Int.tmod a2 4) < ((List.replicate 4 z3).length : Int) then (if 0 ≤ (w64 (Int.tdiv a2 4)) then (if (w64 (Int.tdiv a2 4)) < ((([] : List Int) ++ ((rd_T88 a0_0 a1).f1)).length : Int) then (if t1.length + ([(S88.mk true ((List.replicate 4 z3).set ((Int.tmod a2 4).toNat) a3)), (S88.mk false ((([] : List Int) ++ ((rd_T88 a0_0 a1).f1)).set ((w64 (Int.tdiv a2 4)).toNat) (t1.length : Int)))] : List S88).length ≤ 4398046511104 then (some ((t1 ++ ([(S88.mk true ((List.replicate 4 z3).set ((Int.tmod a2 4).toNat) a3)), (S88.mk false ((([] : List Int) ++ ((rd_T88 a0_0 a1).f1)).set ((w64 (Int.tdiv a2 4)).toNat) (t1.length : Int)))] : List S88)), (w64 (((t1 ++ ([(S88.mk true ((List.replicate 4 z3).set ((Int.tmod a2 4).toNat) a3)), (S88.mk false ((([] : List Int) ++ ((rd_T88 a0_0 a1).f1)).set ((w64 (Int.tdiv a2 4)).toNat) (t1.length : Int)))] : List S88)).length : Int) - 1)))) else none) else none) else none) else none) else none)) else none) else none) else none) else none) else none) else (if 0 ≤ (Int.tmod a2 4) then (if (Int.tmod a2 4) < ((List.replicate 4 z3).length : Int) then (if 0 ≤ (w64 (Int.tdiv a2 4)) then (if (w64 (Int.tdiv a2 4)) < (([(-1), (-1), (-1), (-1)] : List Int).length : Int) then (if t1.length + ([(S88.mk true ((List.replicate 4 z3).set ((Int.tmod a2 4).toNat) a3)), (S88.mk false (([(-1), (-1), (-1), (-1)] : List Int).set ((w64 (Int.tdiv a2 4)).toNat) (t1.length : Int)))] : List S88).length ≤ 4398046511104 then (some ((t1 ++ ([(S88.mk true ((List.replicate 4 z3).set ((Int.tmod a2 4).toNat) a3)), (S88.mk false (([(-1), (-1), (-1), (-1)] : List Int).set ((w64 (Int.tdiv a2 4)).toNat) (t1.length : Int)))] : List S88)), (w64 (((t1 ++ ([(S88.mk true ((List.replicate 4 z3).set ((Int.tmod a2 4).toNat) a3)), (S88.mk false (([(-1), (-1), (-1), (-1)] : List Int).set ((w64 (Int.tdiv a2 4)).toNat) (t1.length : Int)))] : List S88)).length : Int) - 1)))) else none) else none) else none) else none) else none))) else (some (t1, a1)))) else (some (t1, a1)))) else (some (t1, a1)))))
noncomputable def spec_PutAt.e (r : (List S88) × Int) : Res Ty D := (.tu [.ag [.sl 0 none], .sc (.int .i64 r.2)], [], [.rowb .t88 r.1 0])
noncomputable abbrev spec_PutAt.g (rec : List Item → St Ty D → R) (k : Nat) := go1 Try.f42 (spec_PutAt.ctx k) spec_PutAt.sp 0 spec_PutAt.en rec
set_option maxRecDepth 100000 in
theorem spec_PutAt.te (rec : List Item → St Ty D → R) (k : Nat) (a0_0 : List S88) (a1 : Int) (a2 : Int) (a3 : Int) : spec_PutAt.g rec k [.code (body Try.f42)] (startSt [.ag [.row 0 .t88 a0_0], .sc (.int .i64 a1), .sc (.int .i64 a2), .sc (.int .i64 a3)] []) =
  (spec_l11Copy.f k a0_0).bind fun t1 => (spec_ArenaOk.f k a0_0).bind fun t2 => bif !t2 then some (spec_PutAt.e (t1, a1)) else (spec_l11Root.f k a0_0 a1).bind fun t3 => bif !t3 then some (spec_PutAt.e (t1, a1)) else (spec_l01In.f k a2 0 15).bind fun t4 => bif !t4 then some (spec_PutAt.e (t1, a1)) else bif decide (a3 < 0) then some (spec_PutAt.e (t1, a1)) else bif decide (a1 ≥ 0) then bif decide (0 ≤ a1) then bif decide (a1 < (a0_0.length : Int)) then bif decide (([] : List Int).length + ((rd_T88 a0_0 a1).f1).length ≤ 17592186044416) then bif decide (0 ≤ (w64 (Int.tdiv a2 4))) then bif decide ((w64 (Int.tdiv a2 4)) < ((([] : List Int) ++ ((rd_T88 a0_0 a1).f1)).length : Int)) then bif decide ((rd_T3 (([] : List Int) ++ ((rd_T88 a0_0 a1).f1)) (w64 (Int.tdiv a2 4))) ≥ 0) then bif decide (0 ≤ (rd_T3 (([] : List Int) ++ ((rd_T88 a0_0 a1).f1)) (w64 (Int.tdiv a2 4)))) then bif decide ((rd_T3 (([] : List Int) ++ ((rd_T88 a0_0 a1).f1)) (w64 (Int.tdiv a2 4))) < (a0_0.length : Int)) then bif decide (([] : List Int).length + ((rd_T88 a0_0 (rd_T3 (([] : List Int) ++ ((rd_T88 a0_0 a1).f1)) (w64 (Int.tdiv a2 4)))).f1).length ≤ 17592186044416) then bif decide (0 ≤ (Int.tmod a2 4)) then bif decide ((Int.tmod a2 4) < ((([] : List Int) ++ ((rd_T88 a0_0 (rd_T3 (([] : List Int) ++ ((rd_T88 a0_0 a1).f1)) (w64 (Int.tdiv a2 4)))).f1)).length : Int)) then bif decide (0 ≤ (w64 (Int.tdiv a2 4))) then bif decide ((w64 (Int.tdiv a2 4)) < ((([] : List Int) ++ ((rd_T88 a0_0 a1).f1)).length : Int)) then bif decide (t1.length + ([(S88.mk true ((([] : List Int) ++ ((rd_T88 a0_0 (rd_T3 (([] : List Int) ++ ((rd_T88 a0_0 a1).f1)) (w64 (Int.tdiv a2 4)))).f1)).set ((Int.tmod a2 4).toNat) a3)), (S88.mk false ((([] : List Int) ++ ((rd_T88 a0_0 a1).f1)).set ((w64 (Int.tdiv a2 4)).toNat) (t1.length : Int)))] : List S88).length ≤ 4398046511104) then some (spec_PutAt.e ((t1 ++ ([(S88.mk true ((([] : List Int) ++ ((rd_T88 a0_0 (rd_T3 (([] : List Int) ++ ((rd_T88 a0_0 a1).f1)) (w64 (Int.tdiv a2 4)))).f1)).set ((Int.tmod a2 4).toNat) a3)), (S88.mk false ((([] : List Int) ++ ((rd_T88 a0_0 a1).f1)).set ((w64 (Int.tdiv a2 4)).toNat) (t1.length : Int)))] : List S88)), (w64 (((t1 ++ ([(S88.mk true ((([] : List Int) ++ ((rd_T88 a0_0 (rd_T3 (([] : List Int) ++ ((rd_T88 a0_0 a1).f1)) (w64 (Int.tdiv a2 4)))).f1)).set ((Int.tmod a2 4).toNat) a3)), (S88.mk false ((([] : List Int) ++ ((rd_T88 a0_0 a1).f1)).set ((w64 (Int.tdiv a2 4)).toNat) (t1.length : Int)))] : List S88)).length : Int) - 1)))) else none else none else none else none else none else none else none else none else bif decide (0 ≤ (Int.tmod a2 4)) then bif decide ((Int.tmod a2 4) < ((List.replicate 4 z3).length : Int)) then bif decide (0 ≤ (w64 (Int.tdiv a2 4))) then bif decide ((w64 (Int.tdiv a2 4)) < ((([] : List Int) ++ ((rd_T88 a0_0 a1).f1)).length : Int)) then bif decide (t1.length + ([(S88.mk true ((List.replicate 4 z3).set ((Int.tmod a2 4).toNat) a3)), (S88.mk false ((([] : List Int) ++ ((rd_T88 a0_0 a1).f1)).set ((w64 (Int.tdiv a2 4)).toNat) (t1.length : Int)))] : List S88).length ≤ 4398046511104) then some (spec_PutAt.e ((t1 ++ ([(S88.mk true ((List.replicate 4 z3).set ((Int.tmod a2 4).toNat) a3)), (S88.mk false ((([] : List Int) ++ ((rd_T88 a0_0 a1).f1)).set ((w64 (Int.tdiv a2 4)).toNat) (t1.length : Int)))] : List S88)), (w64 (((t1 ++ ([(S88.mk true ((List.replicate 4 z3).set ((Int.tmod a2 4).toNat) a3)), (S88.mk false ((([] : List Int) ++ ((rd_T88 a0_0 a1).f1)).set ((w64 (Int.tdiv a2 4)).toNat) (t1.length : Int)))] : List S88)).length : Int) - 1)))) else none else none else none else none else none else none else none else none else none else none else bif decide (0 ≤ (Int.tmod a2 4)) then bif decide ((Int.tmod a2 4) < ((List.replicate 4 z3).length : Int)) then bif decide (0 ≤ (w64 (Int.tdiv a2 4))) then bif decide ((w64 (Int.tdiv a2 4)) < (([(-1), (-1), (-1), (-1)] : List Int).length : Int)) then bif decide (t1.length + ([(S88.mk true ((List.replicate 4 z3).set ((Int.tmod a2 4).toNat) a3)), (S88.mk false (([(-1), (-1), (-1), (-1)] : List Int).set ((w64 (Int.tdiv a2 4)).toNat) (t1.length : Int)))] : List S88).length ≤ 4398046511104) then some (spec_PutAt.e ((t1 ++ ([(S88.mk true ((List.replicate 4 z3).set ((Int.tmod a2 4).toNat) a3)), (S88.mk false (([(-1), (-1), (-1), (-1)] : List Int).set ((w64 (Int.tdiv a2 4)).toNat) (t1.length : Int)))] : List S88)), (w64 (((t1 ++ ([(S88.mk true ((List.replicate 4 z3).set ((Int.tmod a2 4).toNat) a3)), (S88.mk false (([(-1), (-1), (-1), (-1)] : List Int).set ((w64 (Int.tdiv a2 4)).toNat) (t1.length : Int)))] : List S88)).length : Int) - 1)))) else none else none else none else none else none := by kernel_rfl
set_option maxRecDepth 100000 in
theorem spec_PutAt.oke (k : Nat) (a0_0 : List S88) (a1 : Int) (a2 : Int) (a3 : Int) : goF Try.f42 spec_PutAt.ctx spec_PutAt.sp 0 spec_PutAt.en (k + 1) [.code (body Try.f42)] (startSt [.ag [.row 0 .t88 a0_0], .sc (.int .i64 a1), .sc (.int .i64 a2), .sc (.int .i64 a3)] []) = (spec_PutAt.f k a0_0 a1 a2 a3).map spec_PutAt.e := by
  rw [spec_PutAt.f]; exact (spec_PutAt.te _ k a0_0 a1 a2 a3).trans (bn (fun t1 => (bn (fun t2 => (nb rfl (bn (fun t3 => (nb rfl (bn (fun t4 => (nb rfl (cd rfl (cd (cd (cd (cd (cd (cd (cd (cd (cd (cd (cd (cd (cd (cd (cd rfl rfl) rfl) rfl) rfl) rfl) rfl) rfl) rfl) (cd (cd (cd (cd (cd rfl rfl) rfl) rfl) rfl) rfl)) rfl) rfl) rfl) rfl) rfl) (cd (cd (cd (cd (cd rfl rfl) rfl) rfl) rfl) rfl))))))))))))))
theorem spec_PutAt.con (k : Nat) (a0_0 : List S88) (a1 : Int) (a2 : Int) (a3 : Int) (r) (h : spec_PutAt.f k a0_0 a1 a2 a3 = some r) : Contract Try.prog kit 42 [.ag [.row 0 .t88 a0_0], .sc (.int .i64 a1), .sc (.int .i64 a2), .sc (.int .i64 a3)] [] (spec_PutAt.e r).1 (spec_PutAt.e r).2.1 (spec_PutAt.e r).2.2 :=
  con_okG kitOk mix (fun k => (CtxOk.cons (spec_ArenaOk.xok k) (CtxOk.cons (spec_l01In.xok k) (CtxOk.cons (spec_l11Root.xok k) (CtxOk.cons (spec_l11Copy.xok k) CtxOk.nil))))) (spec_PutAt.oke k a0_0 a1 a2 a3) h (by kernel_rfl) (by kernel_rfl) (by kernel_rfl) rfl (by kernel_rfl) rfl rfl
noncomputable def spec_PutAt.x (k : Nat) : X := fun ins bs κ => match ins, bs with
  | [.ag [.row 0 .t88 a0_0], .sc (.int .i64 a1), .sc (.int .i64 a2), .sc (.int .i64 a3)], [] => (spec_PutAt.f k a0_0 a1 a2 a3).bind fun r => κ (spec_PutAt.e r).1 (spec_PutAt.e r).2.1 (spec_PutAt.e r).2.2
  | _, _ => none
theorem spec_PutAt.xok (k : Nat) : XOk 42 (spec_PutAt.x k) := by
  intro ins bs κ res h
  unfold spec_PutAt.x at h
  split at h
  · obtain ⟨r, hr, h⟩ := Option.bind_eq_some_iff.1 h
    exact ⟨_, _, _, spec_PutAt.con k _ _ _ _ r hr, h⟩
  · cases h

/-! ### spec_Enter: function 10 -/
noncomputable def spec_Enter.sp : Nat → Option (Spec Ty) := fun r => none
noncomputable def spec_Enter.en : Option (Spec Ty) := some ⟨[(4, .box [.own .t53, .own .t88, .keep]), (5, .keep)], [(1, none), (0, none)]⟩
noncomputable def spec_Enter.ctx (k : Nat) : Ctx Ty D := (cons 36 (spec_StoreOk.x k) (cons 37 (spec_RecOk.x k) (cons 38 (spec_l12Copy.x k) (cons 39 (spec_l12Vol.x k) (cons 40 (spec_l12At.x k) (cons 41 (spec_l12Swept.x k) (cons 42 (spec_PutAt.x k) (fun _ _ _ _ => none))))))))
noncomputable def spec_Enter.f (k : Nat) (a0_2 : Int) (a1_0 : Int) (a1_1 : Int) (a1_2 : Int) (a1_3 : Int) (a0_0 : List S53) (a0_1 : List S88) : Option ((List S53) × (List S88) × Int × Bool × (List S53) × (List S88)) := ((spec_StoreOk.f k a0_2 a0_0 a0_1).bind fun t1 => (if t1.1 = true then ((spec_RecOk.f k a1_0 a1_1 a1_2 a1_3).bind fun t3 => (if t3 = true then (if a1_0 = 1 then (if a1_2 = 0 then (some (([] : List S53), ([] : List S88), 1, true, t1.2.1, t1.2.2)) else (some (([] : List S53), ([] : List S88), a1_2, true, t1.2.1, t1.2.2))) else (if a1_0 = 2 then ((spec_l12Vol.f k t1.2.1 t1.2.2 a0_2 a1_0 a1_1 a1_2 a1_3).bind fun t5 => (some (t5.1, t5.2.1, t5.2.2.1, t5.2.2.2, t1.2.1, t1.2.2))) else ((spec_l12At.f k t1.2.1 t1.2.2 a0_2 a1_1).bind fun t6 => (if t6 < 0 then ((spec_l12Copy.f k t1.2.1 t1.2.2 a0_2).bind fun t7 => (some (t7.1, t7.2.1, t7.2.2, false, t1.2.1, t1.2.2))) else (if a1_3 = 1000000000 then ((spec_l12Copy.f k t1.2.1 t1.2.2 a0_2).bind fun t8 => (some (t8.1, t8.2.1, t8.2.2, false, t1.2.1, t1.2.2))) else ((spec_l12Copy.f k t1.2.1 t1.2.2 a0_2).bind fun t9 => (if a1_0 = 3 then (if 0 ≤ t6 then (if t6 ≤ (t1.2.1.length : Int) then (if ([] : List S53).length + ((t1.2.1.drop 0).take (t6.toNat - 0)).length ≤ 8796093022208 then (if 0 ≤ (w64 (t6 + 1)) then (if (w64 (t6 + 1)) ≤ (t1.2.1.length : Int) then (if (([] : List S53) ++ ((t1.2.1.drop 0).take (t6.toNat - 0))).length + ((t1.2.1.drop ((w64 (t6 + 1)).toNat)).take (t1.2.1.length - (w64 (t6 + 1)).toNat)).length ≤ 8796093022208 then ((spec_l12Swept.f k ((([] : List S53) ++ ((t1.2.1.drop 0).take (t6.toNat - 0))) ++ ((t1.2.1.drop ((w64 (t6 + 1)).toNat)).take (t1.2.1.length - (w64 (t6 + 1)).toNat))) t9.2.1 t9.2.2).bind fun t10 => (some (t10.1, t10.2.1, t10.2.2, true, t1.2.1, t1.2.2))) else none) else none) else none) else none) else none) else none) else (if 0 ≤ t6 then (if t6 < (t1.2.1.length : Int) then ((spec_PutAt.f k t1.2.2 ((rd_T53 t1.2.1 t6).f1) a1_2 a1_3).bind fun t11 => (if 0 ≤ t6 then (if t6 < (t9.1.length : Int) then (if a1_3 ≥ t9.2.2 then ((spec_l12Swept.f k (t9.1.set t6.toNat (S53.mk ((rd_T53 t9.1 t6).f0) t11.2)) t11.1 (w64 (a1_3 + 1))).bind fun t12 => (some (t12.1, t12.2.1, t12.2.2, true, t1.2.1, t1.2.2))) else ((spec_l12Swept.f k (t9.1.set t6.toNat (S53.mk ((rd_T53 t9.1 t6).f0) t11.2)) t11.1 t9.2.2).bind fun t13 => (some (t13.1, t13.2.1, t13.2.2, true, t1.2.1, t1.2.2)))) else none) else none)) else none) else none)))))))) else ((spec_l12Copy.f k t1.2.1 t1.2.2 a0_2).bind fun t4 => (some (t4.1, t4.2.1, t4.2.2, false, t1.2.1, t1.2.2))))) else ((spec_l12Copy.f k t1.2.1 t1.2.2 a0_2).bind fun t2 => (some (t2.1, t2.2.1, t2.2.2, false, t1.2.1, t1.2.2)))))
noncomputable def spec_Enter.e (r : (List S53) × (List S88) × Int × Bool × (List S53) × (List S88)) : Res Ty D := (.tu [.ag [.sl 2 none, .sl 3 none, .sc (.int .i64 r.2.2.1)], .sc (.bool r.2.2.2.1)], [some (.rowb .t53 r.2.2.2.2.1 0), some (.rowb .t88 r.2.2.2.2.2 0)], [.rowb .t53 r.1 0, .rowb .t88 r.2.1 0])
noncomputable abbrev spec_Enter.g (rec : List Item → St Ty D → R) (k : Nat) := go1 Try.f10 (spec_Enter.ctx k) spec_Enter.sp 2 spec_Enter.en rec
set_option maxRecDepth 100000 in
theorem spec_Enter.te (rec : List Item → St Ty D → R) (k : Nat) (a0_2 : Int) (a1_0 : Int) (a1_1 : Int) (a1_2 : Int) (a1_3 : Int) (a0_0 : List S53) (a0_1 : List S88) : spec_Enter.g rec k [.code (body Try.f10)] (startSt [.ag [.sl 0 none, .sl 1 none, .sc (.int .i64 a0_2)], .ag [.sc (.int .i64 a1_0), .sc (.int .i64 a1_1), .sc (.int .i64 a1_2), .sc (.int .i64 a1_3)]] [.rowb .t53 a0_0 0, .rowb .t88 a0_1 0]) =
  (spec_StoreOk.f k a0_2 a0_0 a0_1).bind fun t1 => bif !t1.1 then (spec_l12Copy.f k t1.2.1 t1.2.2 a0_2).bind fun t2 => some (spec_Enter.e (t2.1, t2.2.1, t2.2.2, false, t1.2.1, t1.2.2)) else (spec_RecOk.f k a1_0 a1_1 a1_2 a1_3).bind fun t3 => bif !t3 then (spec_l12Copy.f k t1.2.1 t1.2.2 a0_2).bind fun t4 => some (spec_Enter.e (t4.1, t4.2.1, t4.2.2, false, t1.2.1, t1.2.2)) else bif decide (a1_0 = 1) then bif decide (a1_2 = 0) then some (spec_Enter.e (([] : List S53), ([] : List S88), 1, true, t1.2.1, t1.2.2)) else some (spec_Enter.e (([] : List S53), ([] : List S88), a1_2, true, t1.2.1, t1.2.2)) else bif decide (a1_0 = 2) then (spec_l12Vol.f k t1.2.1 t1.2.2 a0_2 a1_0 a1_1 a1_2 a1_3).bind fun t5 => some (spec_Enter.e (t5.1, t5.2.1, t5.2.2.1, t5.2.2.2, t1.2.1, t1.2.2)) else (spec_l12At.f k t1.2.1 t1.2.2 a0_2 a1_1).bind fun t6 => bif decide (t6 < 0) then (spec_l12Copy.f k t1.2.1 t1.2.2 a0_2).bind fun t7 => some (spec_Enter.e (t7.1, t7.2.1, t7.2.2, false, t1.2.1, t1.2.2)) else bif decide (a1_3 = 1000000000) then (spec_l12Copy.f k t1.2.1 t1.2.2 a0_2).bind fun t8 => some (spec_Enter.e (t8.1, t8.2.1, t8.2.2, false, t1.2.1, t1.2.2)) else (spec_l12Copy.f k t1.2.1 t1.2.2 a0_2).bind fun t9 => bif decide (a1_0 = 3) then bif decide (0 ≤ t6) then bif decide (t6 ≤ (t1.2.1.length : Int)) then bif decide (([] : List S53).length + ((t1.2.1.drop 0).take (t6.toNat - 0)).length ≤ 8796093022208) then bif decide (0 ≤ (w64 (t6 + 1))) then bif decide ((w64 (t6 + 1)) ≤ (t1.2.1.length : Int)) then bif decide ((([] : List S53) ++ ((t1.2.1.drop 0).take (t6.toNat - 0))).length + ((t1.2.1.drop ((w64 (t6 + 1)).toNat)).take (t1.2.1.length - (w64 (t6 + 1)).toNat)).length ≤ 8796093022208) then (spec_l12Swept.f k ((([] : List S53) ++ ((t1.2.1.drop 0).take (t6.toNat - 0))) ++ ((t1.2.1.drop ((w64 (t6 + 1)).toNat)).take (t1.2.1.length - (w64 (t6 + 1)).toNat))) t9.2.1 t9.2.2).bind fun t10 => some (spec_Enter.e (t10.1, t10.2.1, t10.2.2, true, t1.2.1, t1.2.2)) else none else none else none else none else none else none else bif decide (0 ≤ t6) then bif decide (t6 < (t1.2.1.length : Int)) then (spec_PutAt.f k t1.2.2 ((rd_T53 t1.2.1 t6).f1) a1_2 a1_3).bind fun t11 => bif decide (0 ≤ t6) then bif decide (t6 < (t9.1.length : Int)) then bif decide (a1_3 ≥ t9.2.2) then (spec_l12Swept.f k (t9.1.set t6.toNat (S53.mk ((rd_T53 t9.1 t6).f0) t11.2)) t11.1 (w64 (a1_3 + 1))).bind fun t12 => some (spec_Enter.e (t12.1, t12.2.1, t12.2.2, true, t1.2.1, t1.2.2)) else (spec_l12Swept.f k (t9.1.set t6.toNat (S53.mk ((rd_T53 t9.1 t6).f0) t11.2)) t11.1 t9.2.2).bind fun t13 => some (spec_Enter.e (t13.1, t13.2.1, t13.2.2, true, t1.2.1, t1.2.2)) else none else none else none else none := by kernel_rfl
set_option maxRecDepth 100000 in
theorem spec_Enter.oke (k : Nat) (a0_2 : Int) (a1_0 : Int) (a1_1 : Int) (a1_2 : Int) (a1_3 : Int) (a0_0 : List S53) (a0_1 : List S88) : goF Try.f10 spec_Enter.ctx spec_Enter.sp 2 spec_Enter.en (k + 1) [.code (body Try.f10)] (startSt [.ag [.sl 0 none, .sl 1 none, .sc (.int .i64 a0_2)], .ag [.sc (.int .i64 a1_0), .sc (.int .i64 a1_1), .sc (.int .i64 a1_2), .sc (.int .i64 a1_3)]] [.rowb .t53 a0_0 0, .rowb .t88 a0_1 0]) = (spec_Enter.f k a0_2 a1_0 a1_1 a1_2 a1_3 a0_0 a0_1).map spec_Enter.e := by
  rw [spec_Enter.f]; exact (spec_Enter.te _ k a0_2 a1_0 a1_1 a1_2 a1_3 a0_0 a0_1).trans (bn (fun t1 => (nb (bn (fun t2 => rfl)) (bn (fun t3 => (nb (bn (fun t4 => rfl)) (cd (cd rfl rfl) (cd (bn (fun t5 => rfl)) (bn (fun t6 => (cd (bn (fun t7 => rfl)) (cd (bn (fun t8 => rfl)) (bn (fun t9 => (cd (cd (cd (cd (cd (cd (cd (bn (fun t10 => rfl)) rfl) rfl) rfl) rfl) rfl) rfl) (cd (cd (bn (fun t11 => (cd (cd (cd (bn (fun t12 => rfl)) (bn (fun t13 => rfl))) rfl) rfl))) rfl) rfl))))))))))))))))
theorem spec_Enter.con (k : Nat) (a0_2 : Int) (a1_0 : Int) (a1_1 : Int) (a1_2 : Int) (a1_3 : Int) (a0_0 : List S53) (a0_1 : List S88) (r) (h : spec_Enter.f k a0_2 a1_0 a1_1 a1_2 a1_3 a0_0 a0_1 = some r) : Contract Try.prog kit 10 [.ag [.sl 0 none, .sl 1 none, .sc (.int .i64 a0_2)], .ag [.sc (.int .i64 a1_0), .sc (.int .i64 a1_1), .sc (.int .i64 a1_2), .sc (.int .i64 a1_3)]] [.rowb .t53 a0_0 0, .rowb .t88 a0_1 0] (spec_Enter.e r).1 (spec_Enter.e r).2.1 (spec_Enter.e r).2.2 :=
  con_okG kitOk mix (fun k => (CtxOk.cons (spec_StoreOk.xok k) (CtxOk.cons (spec_RecOk.xok k) (CtxOk.cons (spec_l12Copy.xok k) (CtxOk.cons (spec_l12Vol.xok k) (CtxOk.cons (spec_l12At.xok k) (CtxOk.cons (spec_l12Swept.xok k) (CtxOk.cons (spec_PutAt.xok k) CtxOk.nil)))))))) (spec_Enter.oke k a0_2 a1_0 a1_1 a1_2 a1_3 a0_0 a0_1) h (by kernel_rfl) (by kernel_rfl) (by kernel_rfl) rfl (by kernel_rfl) rfl rfl
noncomputable def spec_Enter.x (k : Nat) : X := fun ins bs κ => match ins, bs with
  | [.ag [.sl 0 none, .sl 1 none, .sc (.int .i64 a0_2)], .ag [.sc (.int .i64 a1_0), .sc (.int .i64 a1_1), .sc (.int .i64 a1_2), .sc (.int .i64 a1_3)]], [.rowb .t53 a0_0 0, .rowb .t88 a0_1 0] => (spec_Enter.f k a0_2 a1_0 a1_1 a1_2 a1_3 a0_0 a0_1).bind fun r => κ (spec_Enter.e r).1 (spec_Enter.e r).2.1 (spec_Enter.e r).2.2
  | _, _ => none
theorem spec_Enter.xok (k : Nat) : XOk 10 (spec_Enter.x k) := by
  intro ins bs κ res h
  unfold spec_Enter.x at h
  split at h
  · obtain ⟨r, hr, h⟩ := Option.bind_eq_some_iff.1 h
    exact ⟨_, _, _, spec_Enter.con k _ _ _ _ _ _ _ r hr, h⟩
  · cases h

/-! ### spec_l01Byte: function 72 -/
noncomputable def spec_l01Byte.sp : Nat → Option (Spec Ty) := fun r => none
noncomputable def spec_l01Byte.en : Option (Spec Ty) := none
noncomputable def spec_l01Byte.ctx (k : Nat) : Ctx Ty D := (fun _ _ _ _ => none)
noncomputable def spec_l01Byte.f (k : Nat) (a0_0 : List Int) (a0_1 : Int) (a0_2 : Int) : Option (Int × (List Int) × Int × Int) := (if a0_1 < (a0_0.length : Int) then (if 0 ≤ a0_1 then (if a0_1 < (a0_0.length : Int) then (some ((Go.bits .and .i64 (w64 ((Go.bits .and .i64 (Go.bits .xor .i64 (Int.fdiv (w64 ((w64 (a0_2 * 6364136223846793005)) + 1442695040888963407)) 8589934592) (Int.fdiv (w64 ((w64 (a0_2 * 6364136223846793005)) + 1442695040888963407)) 35184372088832)) 255) + (w64 ((rd_T5 a0_0 a0_1))))) 255), a0_0, (w64 (a0_1 + 1)), (w64 ((w64 (a0_2 * 6364136223846793005)) + 1442695040888963407)))) else none) else none) else (some ((Go.bits .and .i64 (Go.bits .xor .i64 (Int.fdiv (w64 ((w64 (a0_2 * 6364136223846793005)) + 1442695040888963407)) 8589934592) (Int.fdiv (w64 ((w64 (a0_2 * 6364136223846793005)) + 1442695040888963407)) 35184372088832)) 255), a0_0, a0_1, (w64 ((w64 (a0_2 * 6364136223846793005)) + 1442695040888963407)))))
noncomputable def spec_l01Byte.e (r : Int × (List Int) × Int × Int) : Res Ty D := (.sc (.int .i64 r.1), [some (.box [.row 1 .t5 r.2.1, .sc (.int .i64 r.2.2.1), .sc (.int .i64 r.2.2.2)])], [])
noncomputable abbrev spec_l01Byte.g (rec : List Item → St Ty D → R) (k : Nat) := go1 Try.f72 (spec_l01Byte.ctx k) spec_l01Byte.sp 1 spec_l01Byte.en rec
set_option maxRecDepth 100000 in
theorem spec_l01Byte.te (rec : List Item → St Ty D → R) (k : Nat) (a0_0 : List Int) (a0_1 : Int) (a0_2 : Int) : spec_l01Byte.g rec k [.code (body Try.f72)] (startSt [.pt 0 0 0] [.box [.row 1 .t5 a0_0, .sc (.int .i64 a0_1), .sc (.int .i64 a0_2)]]) =
  bif decide (a0_1 < (a0_0.length : Int)) then bif decide (0 ≤ a0_1) then bif decide (a0_1 < (a0_0.length : Int)) then some (spec_l01Byte.e ((Go.bits .and .i64 (w64 ((Go.bits .and .i64 (Go.bits .xor .i64 (Int.fdiv (w64 ((w64 (a0_2 * 6364136223846793005)) + 1442695040888963407)) 8589934592) (Int.fdiv (w64 ((w64 (a0_2 * 6364136223846793005)) + 1442695040888963407)) 35184372088832)) 255) + (w64 ((rd_T5 a0_0 a0_1))))) 255), a0_0, (w64 (a0_1 + 1)), (w64 ((w64 (a0_2 * 6364136223846793005)) + 1442695040888963407)))) else none else none else some (spec_l01Byte.e ((Go.bits .and .i64 (Go.bits .xor .i64 (Int.fdiv (w64 ((w64 (a0_2 * 6364136223846793005)) + 1442695040888963407)) 8589934592) (Int.fdiv (w64 ((w64 (a0_2 * 6364136223846793005)) + 1442695040888963407)) 35184372088832)) 255), a0_0, a0_1, (w64 ((w64 (a0_2 * 6364136223846793005)) + 1442695040888963407)))) := by kernel_rfl
set_option maxRecDepth 100000 in
theorem spec_l01Byte.oke (k : Nat) (a0_0 : List Int) (a0_1 : Int) (a0_2 : Int) : goF Try.f72 spec_l01Byte.ctx spec_l01Byte.sp 1 spec_l01Byte.en (k + 1) [.code (body Try.f72)] (startSt [.pt 0 0 0] [.box [.row 1 .t5 a0_0, .sc (.int .i64 a0_1), .sc (.int .i64 a0_2)]]) = (spec_l01Byte.f k a0_0 a0_1 a0_2).map spec_l01Byte.e := by
  rw [spec_l01Byte.f]; exact (spec_l01Byte.te _ k a0_0 a0_1 a0_2).trans (cd (cd (cd rfl rfl) rfl) rfl)
theorem spec_l01Byte.con (k : Nat) (a0_0 : List Int) (a0_1 : Int) (a0_2 : Int) (r) (h : spec_l01Byte.f k a0_0 a0_1 a0_2 = some r) : Contract Try.prog kit 72 [.pt 0 0 0] [.box [.row 1 .t5 a0_0, .sc (.int .i64 a0_1), .sc (.int .i64 a0_2)]] (spec_l01Byte.e r).1 (spec_l01Byte.e r).2.1 (spec_l01Byte.e r).2.2 :=
  con_okG kitOk mix (fun k => CtxOk.nil) (spec_l01Byte.oke k a0_0 a0_1 a0_2) h (by kernel_rfl) (by kernel_rfl) (by kernel_rfl) rfl (by kernel_rfl) rfl rfl
noncomputable def spec_l01Byte.x (k : Nat) : X := fun ins bs κ => match ins, bs with
  | [.pt 0 0 0], [.box [.row 1 .t5 a0_0, .sc (.int .i64 a0_1), .sc (.int .i64 a0_2)]] => (spec_l01Byte.f k a0_0 a0_1 a0_2).bind fun r => κ (spec_l01Byte.e r).1 (spec_l01Byte.e r).2.1 (spec_l01Byte.e r).2.2
  | _, _ => none
theorem spec_l01Byte.xok (k : Nat) : XOk 72 (spec_l01Byte.x k) := by
  intro ins bs κ res h
  unfold spec_l01Byte.x at h
  split at h
  · obtain ⟨r, hr, h⟩ := Option.bind_eq_some_iff.1 h
    exact ⟨_, _, _, spec_l01Byte.con k _ _ _ r hr, h⟩
  · cases h

/-! ### spec_l01Below: function 59 -/
noncomputable def spec_l01Below.sp : Nat → Option (Spec Ty) := fun r => none
noncomputable def spec_l01Below.en : Option (Spec Ty) := none
noncomputable def spec_l01Below.ctx (k : Nat) : Ctx Ty D := (cons 72 (spec_l01Byte.x k) (fun _ _ _ _ => none))
noncomputable def spec_l01Below.f (k : Nat) (a1 : Int) (a0_0 : List Int) (a0_1 : Int) (a0_2 : Int) : Option (Int × (List Int) × Int × Int) := (if a1 ≤ 0 then (some (0, a0_0, a0_1, a0_2)) else (if a1 ≤ 256 then ((spec_l01Byte.f k a0_0 a0_1 a0_2).bind fun t1 => (if a1 = 0 then none else (some ((Int.tmod t1.1 a1), t1.2.1, t1.2.2.1, t1.2.2.2)))) else ((spec_l01Byte.f k a0_0 a0_1 a0_2).bind fun t2 => ((spec_l01Byte.f k t2.2.1 t2.2.2.1 t2.2.2.2).bind fun t3 => ((spec_l01Byte.f k t3.2.1 t3.2.2.1 t3.2.2.2).bind fun t4 => ((spec_l01Byte.f k t4.2.1 t4.2.2.1 t4.2.2.2).bind fun t5 => (if a1 = 0 then none else (some ((Int.tmod (w64 ((w64 ((w64 ((w64 (t2.1 * 16777216)) + (w64 (t3.1 * 65536)))) + (w64 (t4.1 * 256)))) + t5.1)) a1), t5.2.1, t5.2.2.1, t5.2.2.2)))))))))
noncomputable def spec_l01Below.e (r : Int × (List Int) × Int × Int) : Res Ty D := (.sc (.int .i64 r.1), [some (.box [.row 1 .t5 r.2.1, .sc (.int .i64 r.2.2.1), .sc (.int .i64 r.2.2.2)])], [])
noncomputable abbrev spec_l01Below.g (rec : List Item → St Ty D → R) (k : Nat) := go1 Try.f59 (spec_l01Below.ctx k) spec_l01Below.sp 1 spec_l01Below.en rec
set_option maxRecDepth 100000 in
theorem spec_l01Below.te (rec : List Item → St Ty D → R) (k : Nat) (a1 : Int) (a0_0 : List Int) (a0_1 : Int) (a0_2 : Int) : spec_l01Below.g rec k [.code (body Try.f59)] (startSt [.pt 0 0 0, .sc (.int .i64 a1)] [.box [.row 1 .t5 a0_0, .sc (.int .i64 a0_1), .sc (.int .i64 a0_2)]]) =
  bif decide (a1 ≤ 0) then some (spec_l01Below.e (0, a0_0, a0_1, a0_2)) else bif decide (a1 ≤ 256) then (spec_l01Byte.f k a0_0 a0_1 a0_2).bind fun t1 => bif !decide (a1 = 0) then some (spec_l01Below.e ((Int.tmod t1.1 a1), t1.2.1, t1.2.2.1, t1.2.2.2)) else none else (spec_l01Byte.f k a0_0 a0_1 a0_2).bind fun t2 => (spec_l01Byte.f k t2.2.1 t2.2.2.1 t2.2.2.2).bind fun t3 => (spec_l01Byte.f k t3.2.1 t3.2.2.1 t3.2.2.2).bind fun t4 => (spec_l01Byte.f k t4.2.1 t4.2.2.1 t4.2.2.2).bind fun t5 => bif !decide (a1 = 0) then some (spec_l01Below.e ((Int.tmod (w64 ((w64 ((w64 ((w64 (t2.1 * 16777216)) + (w64 (t3.1 * 65536)))) + (w64 (t4.1 * 256)))) + t5.1)) a1), t5.2.1, t5.2.2.1, t5.2.2.2)) else none := by kernel_rfl
set_option maxRecDepth 100000 in
theorem spec_l01Below.oke (k : Nat) (a1 : Int) (a0_0 : List Int) (a0_1 : Int) (a0_2 : Int) : goF Try.f59 spec_l01Below.ctx spec_l01Below.sp 1 spec_l01Below.en (k + 1) [.code (body Try.f59)] (startSt [.pt 0 0 0, .sc (.int .i64 a1)] [.box [.row 1 .t5 a0_0, .sc (.int .i64 a0_1), .sc (.int .i64 a0_2)]]) = (spec_l01Below.f k a1 a0_0 a0_1 a0_2).map spec_l01Below.e := by
  rw [spec_l01Below.f]; exact (spec_l01Below.te _ k a1 a0_0 a0_1 a0_2).trans (cd rfl (cd (bn (fun t1 => (nd rfl rfl))) (bn (fun t2 => (bn (fun t3 => (bn (fun t4 => (bn (fun t5 => (nd rfl rfl)))))))))))
theorem spec_l01Below.con (k : Nat) (a1 : Int) (a0_0 : List Int) (a0_1 : Int) (a0_2 : Int) (r) (h : spec_l01Below.f k a1 a0_0 a0_1 a0_2 = some r) : Contract Try.prog kit 59 [.pt 0 0 0, .sc (.int .i64 a1)] [.box [.row 1 .t5 a0_0, .sc (.int .i64 a0_1), .sc (.int .i64 a0_2)]] (spec_l01Below.e r).1 (spec_l01Below.e r).2.1 (spec_l01Below.e r).2.2 :=
  con_okG kitOk mix (fun k => (CtxOk.cons (spec_l01Byte.xok k) CtxOk.nil)) (spec_l01Below.oke k a1 a0_0 a0_1 a0_2) h (by kernel_rfl) (by kernel_rfl) (by kernel_rfl) rfl (by kernel_rfl) rfl rfl
noncomputable def spec_l01Below.x (k : Nat) : X := fun ins bs κ => match ins, bs with
  | [.pt 0 0 0, .sc (.int .i64 a1)], [.box [.row 1 .t5 a0_0, .sc (.int .i64 a0_1), .sc (.int .i64 a0_2)]] => (spec_l01Below.f k a1 a0_0 a0_1 a0_2).bind fun r => κ (spec_l01Below.e r).1 (spec_l01Below.e r).2.1 (spec_l01Below.e r).2.2
  | _, _ => none
theorem spec_l01Below.xok (k : Nat) : XOk 59 (spec_l01Below.x k) := by
  intro ins bs κ res h
  unfold spec_l01Below.x at h
  split at h
  · obtain ⟨r, hr, h⟩ := Option.bind_eq_some_iff.1 h
    exact ⟨_, _, _, spec_l01Below.con k _ _ _ _ r hr, h⟩
  · cases h

/-! ### spec_l01PickInt: function 93 -/
noncomputable def spec_l01PickInt.sp : Nat → Option (Spec Ty) := fun r => none
noncomputable def spec_l01PickInt.en : Option (Spec Ty) := none
noncomputable def spec_l01PickInt.ctx (k : Nat) : Ctx Ty D := (cons 59 (spec_l01Below.x k) (fun _ _ _ _ => none))
noncomputable def spec_l01PickInt.f (k : Nat) (a1 : List Int) (a0_0 : List Int) (a0_1 : Int) (a0_2 : Int) : Option (Int × (List Int) × Int × Int) := ((spec_l01Below.f k (a1.length : Int) a0_0 a0_1 a0_2).bind fun t1 => (if 0 ≤ t1.1 then (if t1.1 < (a1.length : Int) then (some ((rd_T3 a1 t1.1), t1.2.1, t1.2.2.1, t1.2.2.2)) else none) else none))
noncomputable def spec_l01PickInt.e (r : Int × (List Int) × Int × Int) : Res Ty D := (.sc (.int .i64 r.1), [some (.box [.row 1 .t5 r.2.1, .sc (.int .i64 r.2.2.1), .sc (.int .i64 r.2.2.2)])], [])
noncomputable abbrev spec_l01PickInt.g (rec : List Item → St Ty D → R) (k : Nat) := go1 Try.f93 (spec_l01PickInt.ctx k) spec_l01PickInt.sp 1 spec_l01PickInt.en rec
set_option maxRecDepth 100000 in
theorem spec_l01PickInt.te (rec : List Item → St Ty D → R) (k : Nat) (a1 : List Int) (a0_0 : List Int) (a0_1 : Int) (a0_2 : Int) : spec_l01PickInt.g rec k [.code (body Try.f93)] (startSt [.pt 0 0 0, .row 0 .t3 a1] [.box [.row 1 .t5 a0_0, .sc (.int .i64 a0_1), .sc (.int .i64 a0_2)]]) =
  (spec_l01Below.f k (a1.length : Int) a0_0 a0_1 a0_2).bind fun t1 => bif decide (0 ≤ t1.1) then bif decide (t1.1 < (a1.length : Int)) then some (spec_l01PickInt.e ((rd_T3 a1 t1.1), t1.2.1, t1.2.2.1, t1.2.2.2)) else none else none := by kernel_rfl
set_option maxRecDepth 100000 in
theorem spec_l01PickInt.oke (k : Nat) (a1 : List Int) (a0_0 : List Int) (a0_1 : Int) (a0_2 : Int) : goF Try.f93 spec_l01PickInt.ctx spec_l01PickInt.sp 1 spec_l01PickInt.en (k + 1) [.code (body Try.f93)] (startSt [.pt 0 0 0, .row 0 .t3 a1] [.box [.row 1 .t5 a0_0, .sc (.int .i64 a0_1), .sc (.int .i64 a0_2)]]) = (spec_l01PickInt.f k a1 a0_0 a0_1 a0_2).map spec_l01PickInt.e := by
  rw [spec_l01PickInt.f]; exact (spec_l01PickInt.te _ k a1 a0_0 a0_1 a0_2).trans (bn (fun t1 => (cd (cd rfl rfl) rfl)))
theorem spec_l01PickInt.con (k : Nat) (a1 : List Int) (a0_0 : List Int) (a0_1 : Int) (a0_2 : Int) (r) (h : spec_l01PickInt.f k a1 a0_0 a0_1 a0_2 = some r) : Contract Try.prog kit 93 [.pt 0 0 0, .row 0 .t3 a1] [.box [.row 1 .t5 a0_0, .sc (.int .i64 a0_1), .sc (.int .i64 a0_2)]] (spec_l01PickInt.e r).1 (spec_l01PickInt.e r).2.1 (spec_l01PickInt.e r).2.2 :=
  con_okG kitOk mix (fun k => (CtxOk.cons (spec_l01Below.xok k) CtxOk.nil)) (spec_l01PickInt.oke k a1 a0_0 a0_1 a0_2) h (by kernel_rfl) (by kernel_rfl) (by kernel_rfl) rfl (by kernel_rfl) rfl rfl
noncomputable def spec_l01PickInt.x (k : Nat) : X := fun ins bs κ => match ins, bs with
  | [.pt 0 0 0, .row 0 .t3 a1], [.box [.row 1 .t5 a0_0, .sc (.int .i64 a0_1), .sc (.int .i64 a0_2)]] => (spec_l01PickInt.f k a1 a0_0 a0_1 a0_2).bind fun r => κ (spec_l01PickInt.e r).1 (spec_l01PickInt.e r).2.1 (spec_l01PickInt.e r).2.2
  | _, _ => none
theorem spec_l01PickInt.xok (k : Nat) : XOk 93 (spec_l01PickInt.x k) := by
  intro ins bs κ res h
  unfold spec_l01PickInt.x at h
  split at h
  · obtain ⟨r, hr, h⟩ := Option.bind_eq_some_iff.1 h
    exact ⟨_, _, _, spec_l01PickInt.con k _ _ _ _ r hr, h⟩
  · cases h

/-! ### spec_l09Rec: function 57 -/
noncomputable def spec_l09Rec.sp : Nat → Option (Spec Ty) := fun r => none
noncomputable def spec_l09Rec.en : Option (Spec Ty) := none
noncomputable def spec_l09Rec.ctx (k : Nat) : Ctx Ty D := (cons 59 (spec_l01Below.x k) (cons 93 (spec_l01PickInt.x k) (fun _ _ _ _ => none)))
noncomputable def spec_l09Rec.f (k : Nat) (a0_0 : List Int) (a0_1 : Int) (a0_2 : Int) : Option (Int × Int × Int × Int × (List Int) × Int × Int) := ((spec_l01PickInt.f k ([2, 2, 3, 4, 4, 4, 4, 4, 5] : List Int) a0_0 a0_1 a0_2).bind fun t1 => ((spec_l01Below.f k 3 t1.2.1 t1.2.2.1 t1.2.2.2).bind fun t2 => (if t1.1 = 2 then ((spec_l01PickInt.f k ([0, 0, 1, 2] : List Int) t2.2.1 t2.2.2.1 t2.2.2.2).bind fun t3 => (some (t1.1, (w64 (1 + t2.1)), t3.1, 0, t3.2.1, t3.2.2.1, t3.2.2.2))) else (if t1.1 = 4 then ((spec_l01Below.f k 16 t2.2.1 t2.2.2.1 t2.2.2.2).bind fun t4 => ((spec_l01Below.f k 9 t4.2.1 t4.2.2.1 t4.2.2.2).bind fun t5 => (some (t1.1, (w64 (1 + t2.1)), t4.1, (w64 (1 + t5.1)), t5.2.1, t5.2.2.1, t5.2.2.2)))) else (if t1.1 = 5 then ((spec_l01Below.f k 16 t2.2.1 t2.2.2.1 t2.2.2.2).bind fun t6 => (some (t1.1, (w64 (1 + t2.1)), t6.1, 0, t6.2.1, t6.2.2.1, t6.2.2.2))) else (some (t1.1, (w64 (1 + t2.1)), 0, 0, t2.2.1, t2.2.2.1, t2.2.2.2)))))))
noncomputable def spec_l09Rec.e (r : Int × Int × Int × Int × (List Int) × Int × Int) : Res Ty D := (.ag [.sc (.int .i64 r.1), .sc (.int .i64 r.2.1), .sc (.int .i64 r.2.2.1), .sc (.int .i64 r.2.2.2.1)], [some (.box [.row 1 .t5 r.2.2.2.2.1, .sc (.int .i64 r.2.2.2.2.2.1), .sc (.int .i64 r.2.2.2.2.2.2)])], [])
noncomputable abbrev spec_l09Rec.g (rec : List Item → St Ty D → R) (k : Nat) := go1 Try.f57 (spec_l09Rec.ctx k) spec_l09Rec.sp 1 spec_l09Rec.en rec
set_option maxRecDepth 100000 in
theorem spec_l09Rec.te (rec : List Item → St Ty D → R) (k : Nat) (a0_0 : List Int) (a0_1 : Int) (a0_2 : Int) : spec_l09Rec.g rec k [.code (body Try.f57)] (startSt [.pt 0 0 0] [.box [.row 1 .t5 a0_0, .sc (.int .i64 a0_1), .sc (.int .i64 a0_2)]]) =
  (spec_l01PickInt.f k ([2, 2, 3, 4, 4, 4, 4, 4, 5] : List Int) a0_0 a0_1 a0_2).bind fun t1 => (spec_l01Below.f k 3 t1.2.1 t1.2.2.1 t1.2.2.2).bind fun t2 => bif decide (t1.1 = 2) then (spec_l01PickInt.f k ([0, 0, 1, 2] : List Int) t2.2.1 t2.2.2.1 t2.2.2.2).bind fun t3 => some (spec_l09Rec.e (t1.1, (w64 (1 + t2.1)), t3.1, 0, t3.2.1, t3.2.2.1, t3.2.2.2)) else bif decide (t1.1 = 4) then (spec_l01Below.f k 16 t2.2.1 t2.2.2.1 t2.2.2.2).bind fun t4 => (spec_l01Below.f k 9 t4.2.1 t4.2.2.1 t4.2.2.2).bind fun t5 => some (spec_l09Rec.e (t1.1, (w64 (1 + t2.1)), t4.1, (w64 (1 + t5.1)), t5.2.1, t5.2.2.1, t5.2.2.2)) else bif decide (t1.1 = 5) then (spec_l01Below.f k 16 t2.2.1 t2.2.2.1 t2.2.2.2).bind fun t6 => some (spec_l09Rec.e (t1.1, (w64 (1 + t2.1)), t6.1, 0, t6.2.1, t6.2.2.1, t6.2.2.2)) else some (spec_l09Rec.e (t1.1, (w64 (1 + t2.1)), 0, 0, t2.2.1, t2.2.2.1, t2.2.2.2)) := by kernel_rfl
set_option maxRecDepth 100000 in
theorem spec_l09Rec.oke (k : Nat) (a0_0 : List Int) (a0_1 : Int) (a0_2 : Int) : goF Try.f57 spec_l09Rec.ctx spec_l09Rec.sp 1 spec_l09Rec.en (k + 1) [.code (body Try.f57)] (startSt [.pt 0 0 0] [.box [.row 1 .t5 a0_0, .sc (.int .i64 a0_1), .sc (.int .i64 a0_2)]]) = (spec_l09Rec.f k a0_0 a0_1 a0_2).map spec_l09Rec.e := by
  rw [spec_l09Rec.f]; exact (spec_l09Rec.te _ k a0_0 a0_1 a0_2).trans (bn (fun t1 => (bn (fun t2 => (cd (bn (fun t3 => rfl)) (cd (bn (fun t4 => (bn (fun t5 => rfl)))) (cd (bn (fun t6 => rfl)) rfl)))))))
theorem spec_l09Rec.con (k : Nat) (a0_0 : List Int) (a0_1 : Int) (a0_2 : Int) (r) (h : spec_l09Rec.f k a0_0 a0_1 a0_2 = some r) : Contract Try.prog kit 57 [.pt 0 0 0] [.box [.row 1 .t5 a0_0, .sc (.int .i64 a0_1), .sc (.int .i64 a0_2)]] (spec_l09Rec.e r).1 (spec_l09Rec.e r).2.1 (spec_l09Rec.e r).2.2 :=
  con_okG kitOk mix (fun k => (CtxOk.cons (spec_l01Below.xok k) (CtxOk.cons (spec_l01PickInt.xok k) CtxOk.nil))) (spec_l09Rec.oke k a0_0 a0_1 a0_2) h (by kernel_rfl) (by kernel_rfl) (by kernel_rfl) rfl (by kernel_rfl) rfl rfl
noncomputable def spec_l09Rec.x (k : Nat) : X := fun ins bs κ => match ins, bs with
  | [.pt 0 0 0], [.box [.row 1 .t5 a0_0, .sc (.int .i64 a0_1), .sc (.int .i64 a0_2)]] => (spec_l09Rec.f k a0_0 a0_1 a0_2).bind fun r => κ (spec_l09Rec.e r).1 (spec_l09Rec.e r).2.1 (spec_l09Rec.e r).2.2
  | _, _ => none
theorem spec_l09Rec.xok (k : Nat) : XOk 57 (spec_l09Rec.x k) := by
  intro ins bs κ res h
  unfold spec_l09Rec.x at h
  split at h
  · obtain ⟨r, hr, h⟩ := Option.bind_eq_some_iff.1 h
    exact ⟨_, _, _, spec_l09Rec.con k _ _ _ r hr, h⟩
  · cases h
end Go.Proofs.Yteideicglgpfiaa.M2

/- Plain runs of functions: each is a plain Lean function, and keeps its contract. Written by a program of this session. -/
namespace Go.Proofs.Yteideicglgpfiaa.M2
open Go Go.Proofs.Yteideicglgpfiaa.PK
set_option linter.unusedVariables false
set_option linter.unusedSimpArgs false
set_option maxHeartbeats 4000000
/-! ### spec_l01Once: function 58 -/
noncomputable def spec_l01Once.sp : Nat → Option (Spec Ty) := fun r => none
noncomputable def spec_l01Once.en : Option (Spec Ty) := none
noncomputable def spec_l01Once.ctx (k : Nat) : Ctx Ty D := (cons 59 (spec_l01Below.x k) (fun _ _ _ _ => none))
noncomputable def spec_l01Once.f (k : Nat) (a1 : Int) (a0_0 : List Int) (a0_1 : Int) (a0_2 : Int) : Option (Bool × (List Int) × Int × Int) := ((spec_l01Below.f k a1 a0_0 a0_1 a0_2).bind fun t1 => (some ((decide (t1.1 = 0)), t1.2.1, t1.2.2.1, t1.2.2.2)))
noncomputable def spec_l01Once.e (r : Bool × (List Int) × Int × Int) : Res Ty D := (.sc (.bool r.1), [some (.box [.row 1 .t5 r.2.1, .sc (.int .i64 r.2.2.1), .sc (.int .i64 r.2.2.2)])], [])
noncomputable abbrev spec_l01Once.g (rec : List Item → St Ty D → R) (k : Nat) := go1 Try.f58 (spec_l01Once.ctx k) spec_l01Once.sp 1 spec_l01Once.en rec
set_option maxRecDepth 100000 in
theorem spec_l01Once.te (rec : List Item → St Ty D → R) (k : Nat) (a1 : Int) (a0_0 : List Int) (a0_1 : Int) (a0_2 : Int) : spec_l01Once.g rec k [.code (body Try.f58)] (startSt [.pt 0 0 0, .sc (.int .i64 a1)] [.box [.row 1 .t5 a0_0, .sc (.int .i64 a0_1), .sc (.int .i64 a0_2)]]) =
  (spec_l01Below.f k a1 a0_0 a0_1 a0_2).bind fun t1 => some (spec_l01Once.e ((decide (t1.1 = 0)), t1.2.1, t1.2.2.1, t1.2.2.2)) := by kernel_rfl
set_option maxRecDepth 100000 in
theorem spec_l01Once.oke (k : Nat) (a1 : Int) (a0_0 : List Int) (a0_1 : Int) (a0_2 : Int) : goF Try.f58 spec_l01Once.ctx spec_l01Once.sp 1 spec_l01Once.en (k + 1) [.code (body Try.f58)] (startSt [.pt 0 0 0, .sc (.int .i64 a1)] [.box [.row 1 .t5 a0_0, .sc (.int .i64 a0_1), .sc (.int .i64 a0_2)]]) = (spec_l01Once.f k a1 a0_0 a0_1 a0_2).map spec_l01Once.e := by
  rw [spec_l01Once.f]; exact (spec_l01Once.te _ k a1 a0_0 a0_1 a0_2).trans (bn (fun t1 => rfl))
theorem spec_l01Once.con (k : Nat) (a1 : Int) (a0_0 : List Int) (a0_1 : Int) (a0_2 : Int) (r) (h : spec_l01Once.f k a1 a0_0 a0_1 a0_2 = some r) : Contract Try.prog kit 58 [.pt 0 0 0, .sc (.int .i64 a1)] [.box [.row 1 .t5 a0_0, .sc (.int .i64 a0_1), .sc (.int .i64 a0_2)]] (spec_l01Once.e r).1 (spec_l01Once.e r).2.1 (spec_l01Once.e r).2.2 :=
  con_okG kitOk mix (fun k => (CtxOk.cons (spec_l01Below.xok k) CtxOk.nil)) (spec_l01Once.oke k a1 a0_0 a0_1 a0_2) h (by kernel_rfl) (by kernel_rfl) (by kernel_rfl) rfl (by kernel_rfl) rfl rfl
noncomputable def spec_l01Once.x (k : Nat) : X := fun ins bs κ => match ins, bs with
  | [.pt 0 0 0, .sc (.int .i64 a1)], [.box [.row 1 .t5 a0_0, .sc (.int .i64 a0_1), .sc (.int .i64 a0_2)]] => (spec_l01Once.f k a1 a0_0 a0_1 a0_2).bind fun r => κ (spec_l01Once.e r).1 (spec_l01Once.e r).2.1 (spec_l01Once.e r).2.2
  | _, _ => none
theorem spec_l01Once.xok (k : Nat) : XOk 58 (spec_l01Once.x k) := by
  intro ins bs κ res h
  unfold spec_l01Once.x at h
  split at h
  · obtain ⟨r, hr, h⟩ := Option.bind_eq_some_iff.1 h
    exact ⟨_, _, _, spec_l01Once.con k _ _ _ _ r hr, h⟩
  · cases h

/-! ### spec_StoreNew: function 92 -/
noncomputable def spec_StoreNew.sp : Nat → Option (Spec Ty) := fun r => none
noncomputable def spec_StoreNew.en : Option (Spec Ty) := some ⟨[(0, .box [.own .t53, .own .t88, .keep])], []⟩
noncomputable def spec_StoreNew.ctx (k : Nat) : Ctx Ty D := (fun _ _ _ _ => none)
noncomputable def spec_StoreNew.f (k : Nat) : Option ((List S53) × (List S88) × Int) := (some (([] : List S53), ([] : List S88), 1))
noncomputable def spec_StoreNew.e (r : (List S53) × (List S88) × Int) : Res Ty D := (.ag [.sl 0 none, .sl 1 none, .sc (.int .i64 r.2.2)], [], [.rowb .t53 r.1 0, .rowb .t88 r.2.1 0])
noncomputable abbrev spec_StoreNew.g (rec : List Item → St Ty D → R) (k : Nat) := go1 Try.f92 (spec_StoreNew.ctx k) spec_StoreNew.sp 0 spec_StoreNew.en rec
set_option maxRecDepth 100000 in
theorem spec_StoreNew.te (rec : List Item → St Ty D → R) (k : Nat) : spec_StoreNew.g rec k [.code (body Try.f92)] (startSt [] []) =
  some (spec_StoreNew.e (([] : List S53), ([] : List S88), 1)) := by kernel_rfl
set_option maxRecDepth 100000 in
theorem spec_StoreNew.oke (k : Nat) : goF Try.f92 spec_StoreNew.ctx spec_StoreNew.sp 0 spec_StoreNew.en (k + 1) [.code (body Try.f92)] (startSt [] []) = (spec_StoreNew.f k).map spec_StoreNew.e := by
  rw [spec_StoreNew.f]; exact (spec_StoreNew.te _ k).trans rfl
theorem spec_StoreNew.con (k : Nat) (r) (h : spec_StoreNew.f k = some r) : Contract Try.prog kit 92 [] [] (spec_StoreNew.e r).1 (spec_StoreNew.e r).2.1 (spec_StoreNew.e r).2.2 :=
  con_okG kitOk mix (fun k => CtxOk.nil) (spec_StoreNew.oke k) h (by kernel_rfl) (by kernel_rfl) (by kernel_rfl) rfl (by kernel_rfl) rfl rfl
noncomputable def spec_StoreNew.x (k : Nat) : X := fun ins bs κ => match ins, bs with
  | [], [] => (spec_StoreNew.f k).bind fun r => κ (spec_StoreNew.e r).1 (spec_StoreNew.e r).2.1 (spec_StoreNew.e r).2.2
  | _, _ => none
theorem spec_StoreNew.xok (k : Nat) : XOk 92 (spec_StoreNew.x k) := by
  intro ins bs κ res h
  unfold spec_StoreNew.x at h
  split at h
  · obtain ⟨r, hr, h⟩ := Option.bind_eq_some_iff.1 h
    exact ⟨_, _, _, spec_StoreNew.con k r hr, h⟩
  · cases h

/-! ### spec_l12Store: function 56 -/
noncomputable def spec_l12Store.sp : Nat → Option (Spec Ty) := fun r => bif Nat.beq r 3 then some ⟨[(0, .box [.keep, .keep, .keep]), (2, .box [.own .t53, .own .t88, .keep]), (3, .box [.own .t53, .own .t88, .keep]), (4, .keep)], [(0, some [.keep, .keep, .keep])]⟩ else none
noncomputable def spec_l12Store.en : Option (Spec Ty) := some ⟨[(2, .box [.own .t53, .own .t88, .keep])], [(0, some [.keep, .keep, .keep])]⟩
noncomputable def spec_l12Store.s3 (x4 : Int) (h0_0 : List Int) (h0_1 : Int) (h0_2 : Int) (h65 : List S53) (h66 : List S88) (h64_2 : Int) (h68 : List S53) (h69 : List S88) (h67_2 : Int) : St Ty D := ⟨(Env.put (Env.put (Env.put (Env.put E (some 0) (.pt 0 0 0)) (some 2) (.pt 64 0 0)) (some 3) (.pt 67 0 0)) (some 4) (.sc (.int .i64 x4))), Heap.put H0 [(0, some (.box [.row 1 .t5 h0_0, .sc (.int .i64 h0_1), .sc (.int .i64 h0_2)])), (65, some (.rowb .t53 h65 0)), (66, some (.rowb .t88 h66 0)), (64, some (.box [.sl 65 none, .sl 66 none, .sc (.int .i64 h64_2)])), (68, some (.rowb .t53 h68 0)), (69, some (.rowb .t88 h69 0)), (67, some (.box [.sl 68 none, .sl 69 none, .sc (.int .i64 h67_2)]))], 1000⟩
noncomputable def spec_l12Store.ctx (k : Nat) : Ctx Ty D := (cons 10 (spec_Enter.x k) (cons 57 (spec_l09Rec.x k) (cons 58 (spec_l01Once.x k) (cons 59 (spec_l01Below.x k) (cons 92 (spec_StoreNew.x k) (fun _ _ _ _ => none))))))
noncomputable def spec_l12Store.c3 : Nat → Int → (List Int) → Int → Int → (List S53) → (List S88) → Int → (List S53) → (List S88) → Int → Option ((List S53) × (List S88) × Int × (List Int) × Int × Int)
  | 0, _, _, _, _, _, _, _, _, _, _ => none
  | k + 1, x4, h0_0, h0_1, h0_2, h65, h66, h64_2, h68, h69, h67_2 => ((spec_l01Below.f k 14 h0_0 h0_1 h0_2).bind fun t2 => (if x4 < t2.1 then ((spec_l09Rec.f k t2.2.1 t2.2.2.1 t2.2.2.2).bind fun t3 => (if (h68.length : Int) > 0 then (if t3.1 = 2 then (if (h68.length : Int) = 0 then ((spec_l01Once.f k 5 t3.2.2.2.2.1 t3.2.2.2.2.2.1 t3.2.2.2.2.2.2).bind fun t36 => (if t36.1 = true then (if t3.1 = 3 then ((spec_l01Once.f k 3 t36.2.1 t36.2.2.1 t36.2.2.2).bind fun t39 => (if t39.1 = true then ((spec_Enter.f k h67_2 t3.1 t3.2.1 t3.2.2.1 t3.2.2.2.1 h68 h69).bind fun t43 => (spec_l12Store.c3 k (w64 (x4 + 1)) t39.2.1 t39.2.2.1 t39.2.2.2 h65 h66 h64_2 t43.1 t43.2.1 t43.2.2.1)) else ((spec_l01Below.f k 16 t39.2.1 t39.2.2.1 t39.2.2.2).bind fun t40 => ((spec_l01Below.f k 9 t40.2.1 t40.2.2.1 t40.2.2.2).bind fun t41 => ((spec_Enter.f k h67_2 4 t3.2.1 t40.1 (w64 (1 + t41.1)) h68 h69).bind fun t42 => (spec_l12Store.c3 k (w64 (x4 + 1)) t41.2.1 t41.2.2.1 t41.2.2.2 h65 h66 h64_2 t42.1 t42.2.1 t42.2.2.1)))))) else ((spec_Enter.f k h67_2 t3.1 t3.2.1 t3.2.2.1 t3.2.2.2.1 h68 h69).bind fun t44 => (spec_l12Store.c3 k (w64 (x4 + 1)) t36.2.1 t36.2.2.1 t36.2.2.2 h65 h66 h64_2 t44.1 t44.2.1 t44.2.2.1))) else ((spec_l01Below.f k 3 t36.2.1 t36.2.2.1 t36.2.2.2).bind fun t37 => ((spec_Enter.f k h67_2 2 (w64 (1 + t37.1)) 0 0 h68 h69).bind fun t38 => (spec_l12Store.c3 k (w64 (x4 + 1)) t37.2.1 t37.2.2.1 t37.2.2.2 h65 h66 h64_2 t38.1 t38.2.1 t38.2.2.1))))) else (if t3.1 = 3 then ((spec_l01Once.f k 3 t3.2.2.2.2.1 t3.2.2.2.2.2.1 t3.2.2.2.2.2.2).bind fun t45 => (if t45.1 = true then ((spec_Enter.f k h67_2 t3.1 t3.2.1 t3.2.2.1 t3.2.2.2.1 h68 h69).bind fun t49 => (spec_l12Store.c3 k (w64 (x4 + 1)) t45.2.1 t45.2.2.1 t45.2.2.2 h65 h66 h64_2 t49.1 t49.2.1 t49.2.2.1)) else ((spec_l01Below.f k 16 t45.2.1 t45.2.2.1 t45.2.2.2).bind fun t46 => ((spec_l01Below.f k 9 t46.2.1 t46.2.2.1 t46.2.2.2).bind fun t47 => ((spec_Enter.f k h67_2 4 t3.2.1 t46.1 (w64 (1 + t47.1)) h68 h69).bind fun t48 => (spec_l12Store.c3 k (w64 (x4 + 1)) t47.2.1 t47.2.2.1 t47.2.2.2 h65 h66 h64_2 t48.1 t48.2.1 t48.2.2.1)))))) else ((spec_Enter.f k h67_2 t3.1 t3.2.1 t3.2.2.1 t3.2.2.2.1 h68 h69).bind fun t50 => (spec_l12Store.c3 k (w64 (x4 + 1)) t3.2.2.2.2.1 t3.2.2.2.2.2.1 t3.2.2.2.2.2.2 h65 h66 h64_2 t50.1 t50.2.1 t50.2.2.1)))) else ((spec_l01Once.f k 5 t3.2.2.2.2.1 t3.2.2.2.2.2.1 t3.2.2.2.2.2.2).bind fun t4 => (if t4.1 = true then (if (h68.length : Int) = 0 then ((spec_l01Once.f k 5 t4.2.1 t4.2.2.1 t4.2.2.2).bind fun t21 => (if t21.1 = true then (if t3.1 = 3 then ((spec_l01Once.f k 3 t21.2.1 t21.2.2.1 t21.2.2.2).bind fun t24 => (if t24.1 = true then ((spec_Enter.f k h67_2 t3.1 t3.2.1 t3.2.2.1 t3.2.2.2.1 h68 h69).bind fun t28 => (spec_l12Store.c3 k (w64 (x4 + 1)) t24.2.1 t24.2.2.1 t24.2.2.2 h65 h66 h64_2 t28.1 t28.2.1 t28.2.2.1)) else ((spec_l01Below.f k 16 t24.2.1 t24.2.2.1 t24.2.2.2).bind fun t25 => ((spec_l01Below.f k 9 t25.2.1 t25.2.2.1 t25.2.2.2).bind fun t26 => ((spec_Enter.f k h67_2 4 t3.2.1 t25.1 (w64 (1 + t26.1)) h68 h69).bind fun t27 => (spec_l12Store.c3 k (w64 (x4 + 1)) t26.2.1 t26.2.2.1 t26.2.2.2 h65 h66 h64_2 t27.1 t27.2.1 t27.2.2.1)))))) else ((spec_Enter.f k h67_2 t3.1 t3.2.1 t3.2.2.1 t3.2.2.2.1 h68 h69).bind fun t29 => (spec_l12Store.c3 k (w64 (x4 + 1)) t21.2.1 t21.2.2.1 t21.2.2.2 h65 h66 h64_2 t29.1 t29.2.1 t29.2.2.1))) else ((spec_l01Below.f k 3 t21.2.1 t21.2.2.1 t21.2.2.2).bind fun t22 => ((spec_Enter.f k h67_2 2 (w64 (1 + t22.1)) 0 0 h68 h69).bind fun t23 => (spec_l12Store.c3 k (w64 (x4 + 1)) t22.2.1 t22.2.2.1 t22.2.2.2 h65 h66 h64_2 t23.1 t23.2.1 t23.2.2.1))))) else (if t3.1 = 3 then ((spec_l01Once.f k 3 t4.2.1 t4.2.2.1 t4.2.2.2).bind fun t30 => (if t30.1 = true then ((spec_Enter.f k h67_2 t3.1 t3.2.1 t3.2.2.1 t3.2.2.2.1 h68 h69).bind fun t34 => (spec_l12Store.c3 k (w64 (x4 + 1)) t30.2.1 t30.2.2.1 t30.2.2.2 h65 h66 h64_2 t34.1 t34.2.1 t34.2.2.1)) else ((spec_l01Below.f k 16 t30.2.1 t30.2.2.1 t30.2.2.2).bind fun t31 => ((spec_l01Below.f k 9 t31.2.1 t31.2.2.1 t31.2.2.2).bind fun t32 => ((spec_Enter.f k h67_2 4 t3.2.1 t31.1 (w64 (1 + t32.1)) h68 h69).bind fun t33 => (spec_l12Store.c3 k (w64 (x4 + 1)) t32.2.1 t32.2.2.1 t32.2.2.2 h65 h66 h64_2 t33.1 t33.2.1 t33.2.2.1)))))) else ((spec_Enter.f k h67_2 t3.1 t3.2.1 t3.2.2.1 t3.2.2.2.1 h68 h69).bind fun t35 => (spec_l12Store.c3 k (w64 (x4 + 1)) t4.2.1 t4.2.2.1 t4.2.2.2 h65 h66 h64_2 t35.1 t35.2.1 t35.2.2.1)))) else ((spec_l01Below.f k (h68.length : Int) t4.2.1 t4.2.2.1 t4.2.2.2).bind fun t5 => (if 0 ≤ t5.1 then (if t5.1 < (h68.length : Int) then (if (h68.length : Int) = 0 then ((spec_l01Once.f k 5 t5.2.1 t5.2.2.1 t5.2.2.2).bind fun t6 => (if t6.1 = true then (if t3.1 = 3 then ((spec_l01Once.f k 3 t6.2.1 t6.2.2.1 t6.2.2.2).bind fun t9 => (if t9.1 = true then ((spec_Enter.f k h67_2 t3.1 ((rd_T53 h68 t5.1).f0) t3.2.2.1 t3.2.2.2.1 h68 h69).bind fun t13 => (spec_l12Store.c3 k (w64 (x4 + 1)) t9.2.1 t9.2.2.1 t9.2.2.2 h65 h66 h64_2 t13.1 t13.2.1 t13.2.2.1)) else ((spec_l01Below.f k 16 t9.2.1 t9.2.2.1 t9.2.2.2).bind fun t10 => ((spec_l01Below.f k 9 t10.2.1 t10.2.2.1 t10.2.2.2).bind fun t11 => ((spec_Enter.f k h67_2 4 ((rd_T53 h68 t5.1).f0) t10.1 (w64 (1 + t11.1)) h68 h69).bind fun t12 => (spec_l12Store.c3 k (w64 (x4 + 1)) t11.2.1 t11.2.2.1 t11.2.2.2 h65 h66 h64_2 t12.1 t12.2.1 t12.2.2.1)))))) else ((spec_Enter.f k h67_2 t3.1 ((rd_T53 h68 t5.1).f0) t3.2.2.1 t3.2.2.2.1 h68 h69).bind fun t14 => (spec_l12Store.c3 k (w64 (x4 + 1)) t6.2.1 t6.2.2.1 t6.2.2.2 h65 h66 h64_2 t14.1 t14.2.1 t14.2.2.1))) else ((spec_l01Below.f k 3 t6.2.1 t6.2.2.1 t6.2.2.2).bind fun t7 => ((spec_Enter.f k h67_2 2 (w64 (1 + t7.1)) 0 0 h68 h69).bind fun t8 => (spec_l12Store.c3 k (w64 (x4 + 1)) t7.2.1 t7.2.2.1 t7.2.2.2 h65 h66 h64_2 t8.1 t8.2.1 t8.2.2.1))))) else (if t3.1 = 3 then ((spec_l01Once.f k 3 t5.2.1 t5.2.2.1 t5.2.2.2).bind fun t15 => (if t15.1 = true then ((spec_Enter.f k h67_2 t3.1 ((rd_T53 h68 t5.1).f0) t3.2.2.1 t3.2.2.2.1 h68 h69).bind fun t19 => (spec_l12Store.c3 k (w64 (x4 + 1)) t15.2.1 t15.2.2.1 t15.2.2.2 h65 h66 h64_2 t19.1 t19.2.1 t19.2.2.1)) else ((spec_l01Below.f k 16 t15.2.1 t15.2.2.1 t15.2.2.2).bind fun t16 => ((spec_l01Below.f k 9 t16.2.1 t16.2.2.1 t16.2.2.2).bind fun t17 => ((spec_Enter.f k h67_2 4 ((rd_T53 h68 t5.1).f0) t16.1 (w64 (1 + t17.1)) h68 h69).bind fun t18 => (spec_l12Store.c3 k (w64 (x4 + 1)) t17.2.1 t17.2.2.1 t17.2.2.2 h65 h66 h64_2 t18.1 t18.2.1 t18.2.2.1)))))) else ((spec_Enter.f k h67_2 t3.1 ((rd_T53 h68 t5.1).f0) t3.2.2.1 t3.2.2.2.1 h68 h69).bind fun t20 => (spec_l12Store.c3 k (w64 (x4 + 1)) t5.2.1 t5.2.2.1 t5.2.2.2 h65 h66 h64_2 t20.1 t20.2.1 t20.2.2.1)))) else none) else none))))) else (if (h68.length : Int) = 0 then ((spec_l01Once.f k 5 t3.2.2.2.2.1 t3.2.2.2.2.2.1 t3.2.2.2.2.2.2).bind fun t51 => (if t51.1 = true then (if t3.1 = 3 then ((spec_l01Once.f k 3 t51.2.1 t51.2.2.1 t51.2.2.2).bind fun t54 => (if t54.1 = true then ((spec_Enter.f k h67_2 t3.1 t3.2.1 t3.2.2.1 t3.2.2.2.1 h68 h69).bind fun t58 => (spec_l12Store.c3 k (w64 (x4 + 1)) t54.2.1 t54.2.2.1 t54.2.2.2 h65 h66 h64_2 t58.1 t58.2.1 t58.2.2.1)) else ((spec_l01Below.f k 16 t54.2.1 t54.2.2.1 t54.2.2.2).bind fun t55 => ((spec_l01Below.f k 9 t55.2.1 t55.2.2.1 t55.2.2.2).bind fun t56 => ((spec_Enter.f k h67_2 4 t3.2.1 t55.1 (w64 (1 + t56.1)) h68 h69).bind fun t57 => (spec_l12Store.c3 k (w64 (x4 + 1)) t56.2.1 t56.2.2.1 t56.2.2.2 h65 h66 h64_2 t57.1 t57.2.1 t57.2.2.1)))))) else ((spec_Enter.f k h67_2 t3.1 t3.2.1 t3.2.2.1 t3.2.2.2.1 h68 h69).bind fun t59 => (spec_l12Store.c3 k (w64 (x4 + 1)) t51.2.1 t51.2.2.1 t51.2.2.2 h65 h66 h64_2 t59.1 t59.2.1 t59.2.2.1))) else ((spec_l01Below.f k 3 t51.2.1 t51.2.2.1 t51.2.2.2).bind fun t52 => ((spec_Enter.f k h67_2 2 (w64 (1 + t52.1)) 0 0 h68 h69).bind fun t53 => (spec_l12Store.c3 k (w64 (x4 + 1)) t52.2.1 t52.2.2.1 t52.2.2.2 h65 h66 h64_2 t53.1 t53.2.1 t53.2.2.1))))) else (if t3.1 = 3 then ((spec_l01Once.f k 3 t3.2.2.2.2.1 t3.2.2.2.2.2.1 t3.2.2.2.2.2.2).bind fun t60 => (if t60.1 = true then ((spec_Enter.f k h67_2 t3.1 t3.2.1 t3.2.2.1 t3.2.2.2.1 h68 h69).bind fun t64 => (spec_l12Store.c3 k (w64 (x4 + 1)) t60.2.1 t60.2.2.1 t60.2.2.2 h65 h66 h64_2 t64.1 t64.2.1 t64.2.2.1)) else ((spec_l01Below.f k 16 t60.2.1 t60.2.2.1 t60.2.2.2).bind fun t61 => ((spec_l01Below.f k 9 t61.2.1 t61.2.2.1 t61.2.2.2).bind fun t62 => ((spec_Enter.f k h67_2 4 t3.2.1 t61.1 (w64 (1 + t62.1)) h68 h69).bind fun t63 => (spec_l12Store.c3 k (w64 (x4 + 1)) t62.2.1 t62.2.2.1 t62.2.2.2 h65 h66 h64_2 t63.1 t63.2.1 t63.2.2.1)))))) else ((spec_Enter.f k h67_2 t3.1 t3.2.1 t3.2.2.1 t3.2.2.2.1 h68 h69).bind fun t65 => (spec_l12Store.c3 k (w64 (x4 + 1)) t3.2.2.2.2.1 t3.2.2.2.2.2.1 t3.2.2.2.2.2.2 h65 h66 h64_2 t65.1 t65.2.1 t65.2.2.1)))))) else (some (h68, h69, h67_2, t2.2.1, t2.2.2.1, t2.2.2.2))))
noncomputable def spec_l12Store.f (k : Nat) (a0_0 : List Int) (a0_1 : Int) (a0_2 : Int) : Option ((List S53) × (List S88) × Int × (List Int) × Int × Int) := ((spec_StoreNew.f k).bind fun t1 => (spec_l12Store.c3 k 0 a0_0 a0_1 a0_2 ([] : List S53) ([] : List S88) 0 t1.1 t1.2.1 t1.2.2))
noncomputable def spec_l12Store.e (r : (List S53) × (List S88) × Int × (List Int) × Int × Int) : Res Ty D := (.ag [.sl 1 none, .sl 2 none, .sc (.int .i64 r.2.2.1)], [some (.box [.row 1 .t5 r.2.2.2.1, .sc (.int .i64 r.2.2.2.2.1), .sc (.int .i64 r.2.2.2.2.2)])], [.rowb .t53 r.1 0, .rowb .t88 r.2.1 0])
noncomputable abbrev spec_l12Store.g (rec : List Item → St Ty D → R) (k : Nat) := go1 Try.f56 (spec_l12Store.ctx k) spec_l12Store.sp 1 spec_l12Store.en rec
set_option maxRecDepth 100000 in
theorem spec_l12Store.t3 (rec : List Item → St Ty D → R) (k : Nat) (x4 : Int) (h0_0 : List Int) (h0_1 : Int) (h0_2 : Int) (h65 : List S53) (h66 : List S88) (h64_2 : Int) (h68 : List S53) (h69 : List S88) (h67_2 : Int) : spec_l12Store.g rec k (td Try.f56 3) (spec_l12Store.s3 x4 h0_0 h0_1 h0_2 h65 h66 h64_2 h68 h69 h67_2) =
  (spec_l01Below.f k 14 h0_0 h0_1 h0_2).bind fun t2 => bif decide (x4 < t2.1) then (spec_l09Rec.f k t2.2.1 t2.2.2.1 t2.2.2.2).bind fun t3 => bif decide ((h68.length : Int) > 0) then bif !decide (t3.1 = 2) then (spec_l01Once.f k 5 t3.2.2.2.2.1 t3.2.2.2.2.2.1 t3.2.2.2.2.2.2).bind fun t4 => bif !t4.1 then (spec_l01Below.f k (h68.length : Int) t4.2.1 t4.2.2.1 t4.2.2.2).bind fun t5 => bif decide (0 ≤ t5.1) then bif decide (t5.1 < (h68.length : Int)) then bif decide ((h68.length : Int) = 0) then (spec_l01Once.f k 5 t5.2.1 t5.2.2.1 t5.2.2.2).bind fun t6 => bif !t6.1 then (spec_l01Below.f k 3 t6.2.1 t6.2.2.1 t6.2.2.2).bind fun t7 => (spec_Enter.f k h67_2 2 (w64 (1 + t7.1)) 0 0 h68 h69).bind fun t8 => rec (td Try.f56 3) (spec_l12Store.s3 (w64 (x4 + 1)) t7.2.1 t7.2.2.1 t7.2.2.2 h65 h66 h64_2 t8.1 t8.2.1 t8.2.2.1) else bif decide (t3.1 = 3) then (spec_l01Once.f k 3 t6.2.1 t6.2.2.1 t6.2.2.2).bind fun t9 => bif !t9.1 then (spec_l01Below.f k 16 t9.2.1 t9.2.2.1 t9.2.2.2).bind fun t10 => (spec_l01Below.f k 9 t10.2.1 t10.2.2.1 t10.2.2.2).bind fun t11 => (spec_Enter.f k h67_2 4 ((rd_T53 h68 t5.1).f0) t10.1 (w64 (1 + t11.1)) h68 h69).bind fun t12 => rec (td Try.f56 3) (spec_l12Store.s3 (w64 (x4 + 1)) t11.2.1 t11.2.2.1 t11.2.2.2 h65 h66 h64_2 t12.1 t12.2.1 t12.2.2.1) else (spec_Enter.f k h67_2 t3.1 ((rd_T53 h68 t5.1).f0) t3.2.2.1 t3.2.2.2.1 h68 h69).bind fun t13 => rec (td Try.f56 3) (spec_l12Store.s3 (w64 (x4 + 1)) t9.2.1 t9.2.2.1 t9.2.2.2 h65 h66 h64_2 t13.1 t13.2.1 t13.2.2.1) else (spec_Enter.f k h67_2 t3.1 ((rd_T53 h68 t5.1).f0) t3.2.2.1 t3.2.2.2.1 h68 h69).bind fun t14 => rec (td Try.f56 3) (spec_l12Store.s3 (w64 (x4 + 1)) t6.2.1 t6.2.2.1 t6.2.2.2 h65 h66 h64_2 t14.1 t14.2.1 t14.2.2.1) else bif decide (t3.1 = 3) then (spec_l01Once.f k 3 t5.2.1 t5.2.2.1 t5.2.2.2).bind fun t15 => bif !t15.1 then (spec_l01Below.f k 16 t15.2.1 t15.2.2.1 t15.2.2.2).bind fun t16 => (spec_l01Below.f k 9 t16.2.1 t16.2.2.1 t16.2.2.2).bind fun t17 => (spec_Enter.f k h67_2 4 ((rd_T53 h68 t5.1).f0) t16.1 (w64 (1 + t17.1)) h68 h69).bind fun t18 => rec (td Try.f56 3) (spec_l12Store.s3 (w64 (x4 + 1)) t17.2.1 t17.2.2.1 t17.2.2.2 h65 h66 h64_2 t18.1 t18.2.1 t18.2.2.1) else (spec_Enter.f k h67_2 t3.1 ((rd_T53 h68 t5.1).f0) t3.2.2.1 t3.2.2.2.1 h68 h69).bind fun t19 => rec (td Try.f56 3) (spec_l12Store.s3 (w64 (x4 + 1)) t15.2.1 t15.2.2.1 t15.2.2.2 h65 h66 h64_2 t19.1 t19.2.1 t19.2.2.1) else (spec_Enter.f k h67_2 t3.1 ((rd_T53 h68 t5.1).f0) t3.2.2.1 t3.2.2.2.1 h68 h69).bind fun t20 => rec (td Try.f56 3) (spec_l12Store.s3 (w64 (x4 + 1)) t5.2.1 t5.2.2.1 t5.2.2.2 h65 h66 h64_2 t20.1 t20.2.1 t20.2.2.1) else none else none else bif decide ((h68.length : Int) = 0) then (spec_l01Once.f k 5 t4.2.1 t4.2.2.1 t4.2.2.2).bind fun t21 => bif !t21.1 then (spec_l01Below.f k 3 t21.2.1 t21.2.2.1 t21.2.2.2).bind fun t22 => (spec_Enter.f k h67_2 2 (w64 (1 + t22.1)) 0 0 h68 h69).bind fun t23 => rec (td Try.f56 3) (spec_l12Store.s3 (w64 (x4 + 1)) t22.2.1 t22.2.2.1 t22.2.2.2 h65 h66 h64_2 t23.1 t23.2.1 t23.2.2.1) else bif decide (t3.1 = 3) then (spec_l01Once.f k 3 t21.2.1 t21.2.2.1 t21.2.2.2).bind fun t24 => bif !t24.1 then (spec_l01Below.f k 16 t24.2.1 t24.2.2.1 t24.2.2.2).bind fun t25 => (spec_l01Below.f k 9 t25.2.1 t25.2.2.1 t25.2.2.2).bind fun t26 => (spec_Enter.f k h67_2 4 t3.2.1 t25.1 (w64 (1 + t26.1)) h68 h69).bind fun t27 => rec (td Try.f56 3) (spec_l12Store.s3 (w64 (x4 + 1)) t26.2.1 t26.2.2.1 t26.2.2.2 h65 h66 h64_2 t27.1 t27.2.1 t27.2.2.1) else (spec_Enter.f k h67_2 t3.1 t3.2.1 t3.2.2.1 t3.2.2.2.1 h68 h69).bind fun t28 => rec (td Try.f56 3) (spec_l12Store.s3 (w64 (x4 + 1)) t24.2.1 t24.2.2.1 t24.2.2.2 h65 h66 h64_2 t28.1 t28.2.1 t28.2.2.1) else (spec_Enter.f k h67_2 t3.1 t3.2.1 t3.2.2.1 t3.2.2.2.1 h68 h69).bind fun t29 => rec (td Try.f56 3) (spec_l12Store.s3 (w64 (x4 + 1)) t21.2.1 t21.2.2.1 t21.2.2.2 h65 h66 h64_2 t29.1 t29.2.1 t29.2.2.1) else bif decide (t3.1 = 3) then (spec_l01Once.f k 3 t4.2.1 t4.2.2.1 t4.2.2.2).bind fun t30 => bif !t30.1 then (spec_l01Below.f k 16 t30.2.1 t30.2.2.1 t30.2.2.2).bind fun t31 => (spec_l01Below.f k 9 t31.2.1 t31.2.2.1 t31.2.2.2).bind fun t32 => (spec_Enter.f k h67_2 4 t3.2.1 t31.1 (w64 (1 + t32.1)) h68 h69).bind fun t33 => rec (td Try.f56 3) (spec_l12Store.s3 (w64 (x4 + 1)) t32.2.1 t32.2.2.1 t32.2.2.2 h65 h66 h64_2 t33.1 t33.2.1 t33.2.2.1) else (spec_Enter.f k h67_2 t3.1 t3.2.1 t3.2.2.1 t3.2.2.2.1 h68 h69).bind fun t34 => rec (td Try.f56 3) (spec_l12Store.s3 (w64 (x4 + 1)) t30.2.1 t30.2.2.1 t30.2.2.2 h65 h66 h64_2 t34.1 t34.2.1 t34.2.2.1) else (spec_Enter.f k h67_2 t3.1 t3.2.1 t3.2.2.1 t3.2.2.2.1 h68 h69).bind fun t35 => rec (td Try.f56 3) (spec_l12Store.s3 (w64 (x4 + 1)) t4.2.1 t4.2.2.1 t4.2.2.2 h65 h66 h64_2 t35.1 t35.2.1 t35.2.2.1) else bif decide ((h68.length : Int) = 0) then (spec_l01Once.f k 5 t3.2.2.2.2.1 t3.2.2.2.2.2.1 t3.2.2.2.2.2.2).bind fun t36 => bif !t36.1 then (spec_l01Below.f k 3 t36.2.1 t36.2.2.1 t36.2.2.2).bind fun t37 => (spec_Enter.f k h67_2 2 (w64 (1 + t37.1)) 0 0 h68 h69).bind fun t38 => rec (td Try.f56 3) (spec_l12Store.s3 (w64 (x4 + 1)) t37.2.1 t37.2.2.1 t37.2.2.2 h65 h66 h64_2 t38.1 t38.2.1 t38.2.2.1) else bif decide (t3.1 = 3) then (spec_l01Once.f k 3 t36.2.1 t36.2.2.1 t36.2.2.2).bind fun t39 => bif !t39.1 then (spec_l01Below.f k 16 t39.2.1 t39.2.2.1 t39.2.2.2).bind fun t40 => (spec_l01Below.f k 9 t40.2.1 t40.2.2.1 t40.2.2.2).bind fun t41 => (spec_Enter.f k h67_2 4 t3.2.1 t40.1 (w64 (1 + t41.1)) h68 h69).bind fun t42 => rec (td Try.f56 3) (spec_l12Store.s3 (w64 (x4 + 1)) t41.2.1 t41.2.2.1 t41.2.2.2 h65 h66 h64_2 t42.1 t42.2.1 t42.2.2.1) else (spec_Enter.f k h67_2 t3.1 t3.2.1 t3.2.2.1 t3.2.2.2.1 h68 h69).bind fun t43 => rec (td Try.f56 3) (spec_l12Store.s3 (w64 (x4 + 1)) t39.2.1 t39.2.2.1 t39.2.2.2 h65 h66 h64_2 t43.1 t43.2.1 t43.2.2.1) else (spec_Enter.f k h67_2 t3.1 t3.2.1 t3.2.2.1 t3.2.2.2.1 h68 h69).bind fun t44 => rec (td Try.f56 3) (spec_l12Store.s3 (w64 (x4 + 1)) t36.2.1 t36.2.2.1 t36.2.2.2 h65 h66 h64_2 t44.1 t44.2.1 t44.2.2.1) else bif decide (t3.1 = 3) then (spec_l01Once.f k 3 t3.2.2.2.2.1 t3.2.2.2.2.2.1 t3.2.2.2.2.2.2).bind fun t45 => bif !t45.1 then (spec_l01Below.f k 16 t45.2.1 t45.2.2.1 t45.2.2.2).bind fun t46 => (spec_l01Below.f k 9 t46.2.1 t46.2.2.1 t46.2.2.2).bind fun t47 => (spec_Enter.f k h67_2 4 t3.2.1 t46.1 (w64 (1 + t47.1)) h68 h69).bind fun t48 => rec (td Try.f56 3) (spec_l12Store.s3 (w64 (x4 + 1)) t47.2.1 t47.2.2.1 t47.2.2.2 h65 h66 h64_2 t48.1 t48.2.1 t48.2.2.1) else (spec_Enter.f k h67_2 t3.1 t3.2.1 t3.2.2.1 t3.2.2.2.1 h68 h69).bind fun t49 => rec (td Try.f56 3) (spec_l12Store.s3 (w64 (x4 + 1)) t45.2.1 t45.2.2.1 t45.2.2.2 h65 h66 h64_2 t49.1 t49.2.1 t49.2.2.1) else (spec_Enter.f k h67_2 t3.1 t3.2.1 t3.2.2.1 t3.2.2.2.1 h68 h69).bind fun t50 => rec (td Try.f56 3) (spec_l12Store.s3 (w64 (x4 + 1)) t3.2.2.2.2.1 t3.2.2.2.2.2.1 t3.2.2.2.2.2.2 h65 h66 h64_2 t50.1 t50.2.1 t50.2.2.1) else bif decide ((h68.length : Int) = 0) then (spec_l01Once.f k 5 t3.2.2.2.2.1 t3.2.2.2.2.2.1 t3.2.2.2.2.2.2).bind fun t51 => bif !t51.1 then (spec_l01Below.f k 3 t51.2.1 t51.2.2.1 t51.2.2.2).bind fun t52 => (spec_Enter.f k h67_2 2 (w64 (1 + t52.1)) 0 0 h68 h69).bind fun t53 => rec (td Try.f56 3) (spec_l12Store.s3 (w64 (x4 + 1)) t52.2.1 t52.2.2.1 t52.2.2.2 h65 h66 h64_2 t53.1 t53.2.1 t53.2.2.1) else bif decide (t3.1 = 3) then (spec_l01Once.f k 3 t51.2.1 t51.2.2.1 t51.2.2.2).bind fun t54 => bif !t54.1 then (spec_l01Below.f k 16 t54.2.1 t54.2.2.1 t54.2.2.2).bind fun t55 => (spec_l01Below.f k 9 t55.2.1 t55.2.2.1 t55.2.2.2).bind fun t56 => (spec_Enter.f k h67_2 4 t3.2.1 t55.1 (w64 (1 + t56.1)) h68 h69).bind fun t57 => rec (td Try.f56 3) (spec_l12Store.s3 (w64 (x4 + 1)) t56.2.1 t56.2.2.1 t56.2.2.2 h65 h66 h64_2 t57.1 t57.2.1 t57.2.2.1) else (spec_Enter.f k h67_2 t3.1 t3.2.1 t3.2.2.1 t3.2.2.2.1 h68 h69).bind fun t58 => rec (td Try.f56 3) (spec_l12Store.s3 (w64 (x4 + 1)) t54.2.1 t54.2.2.1 t54.2.2.2 h65 h66 h64_2 t58.1 t58.2.1 t58.2.2.1) else (spec_Enter.f k h67_2 t3.1 t3.2.1 t3.2.2.1 t3.2.2.2.1 h68 h69).bind fun t59 => rec (td Try.f56 3) (spec_l12Store.s3 (w64 (x4 + 1)) t51.2.1 t51.2.2.1 t51.2.2.2 h65 h66 h64_2 t59.1 t59.2.1 t59.2.2.1) else bif decide (t3.1 = 3) then (spec_l01Once.f k 3 t3.2.2.2.2.1 t3.2.2.2.2.2.1 t3.2.2.2.2.2.2).bind fun t60 => bif !t60.1 then (spec_l01Below.f k 16 t60.2.1 t60.2.2.1 t60.2.2.2).bind fun t61 => (spec_l01Below.f k 9 t61.2.1 t61.2.2.1 t61.2.2.2).bind fun t62 => (spec_Enter.f k h67_2 4 t3.2.1 t61.1 (w64 (1 + t62.1)) h68 h69).bind fun t63 => rec (td Try.f56 3) (spec_l12Store.s3 (w64 (x4 + 1)) t62.2.1 t62.2.2.1 t62.2.2.2 h65 h66 h64_2 t63.1 t63.2.1 t63.2.2.1) else (spec_Enter.f k h67_2 t3.1 t3.2.1 t3.2.2.1 t3.2.2.2.1 h68 h69).bind fun t64 => rec (td Try.f56 3) (spec_l12Store.s3 (w64 (x4 + 1)) t60.2.1 t60.2.2.1 t60.2.2.2 h65 h66 h64_2 t64.1 t64.2.1 t64.2.2.1) else (spec_Enter.f k h67_2 t3.1 t3.2.1 t3.2.2.1 t3.2.2.2.1 h68 h69).bind fun t65 => rec (td Try.f56 3) (spec_l12Store.s3 (w64 (x4 + 1)) t3.2.2.2.2.1 t3.2.2.2.2.2.1 t3.2.2.2.2.2.2 h65 h66 h64_2 t65.1 t65.2.1 t65.2.2.1) else some (spec_l12Store.e (h68, h69, h67_2, t2.2.1, t2.2.2.1, t2.2.2.2)) := by kernel_rfl
set_option maxRecDepth 100000 in
theorem spec_l12Store.te (rec : List Item → St Ty D → R) (k : Nat) (a0_0 : List Int) (a0_1 : Int) (a0_2 : Int) : spec_l12Store.g rec k [.code (body Try.f56)] (startSt [.pt 0 0 0] [.box [.row 1 .t5 a0_0, .sc (.int .i64 a0_1), .sc (.int .i64 a0_2)]]) =
  (spec_StoreNew.f k).bind fun t1 => rec (td Try.f56 3) (spec_l12Store.s3 0 a0_0 a0_1 a0_2 ([] : List S53) ([] : List S88) 0 t1.1 t1.2.1 t1.2.2) := by kernel_rfl
set_option maxRecDepth 100000 in
theorem spec_l12Store.ok : ∀ k : Nat, (∀ (x4 : Int) (h0_0 : List Int) (h0_1 : Int) (h0_2 : Int) (h65 : List S53) (h66 : List S88) (h64_2 : Int) (h68 : List S53) (h69 : List S88) (h67_2 : Int), goF Try.f56 spec_l12Store.ctx spec_l12Store.sp 1 spec_l12Store.en k (td Try.f56 3) (spec_l12Store.s3 x4 h0_0 h0_1 h0_2 h65 h66 h64_2 h68 h69 h67_2) = (spec_l12Store.c3 k x4 h0_0 h0_1 h0_2 h65 h66 h64_2 h68 h69 h67_2).map spec_l12Store.e)
  | 0 => fun _ _ _ _ _ _ _ _ _ _ => rfl
  | k + 1 => by
    have ih := spec_l12Store.ok k
    have i3 := ih
    intro x4 h0_0 h0_1 h0_2 h65 h66 h64_2 h68 h69 h67_2; rw [spec_l12Store.c3]; exact (spec_l12Store.t3 _ k x4 h0_0 h0_1 h0_2 h65 h66 h64_2 h68 h69 h67_2).trans (bn (fun t2 => (cd (bn (fun t3 => (cd (nd (bn (fun t4 => (nb (bn (fun t5 => (cd (cd (cd (bn (fun t6 => (nb (bn (fun t7 => (bn (fun t8 => (i3 _ _ _ _ _ _ _ _ _ _))))) (cd (bn (fun t9 => (nb (bn (fun t10 => (bn (fun t11 => (bn (fun t12 => (i3 _ _ _ _ _ _ _ _ _ _))))))) (bn (fun t13 => (i3 _ _ _ _ _ _ _ _ _ _)))))) (bn (fun t14 => (i3 _ _ _ _ _ _ _ _ _ _))))))) (cd (bn (fun t15 => (nb (bn (fun t16 => (bn (fun t17 => (bn (fun t18 => (i3 _ _ _ _ _ _ _ _ _ _))))))) (bn (fun t19 => (i3 _ _ _ _ _ _ _ _ _ _)))))) (bn (fun t20 => (i3 _ _ _ _ _ _ _ _ _ _))))) rfl) rfl))) (cd (bn (fun t21 => (nb (bn (fun t22 => (bn (fun t23 => (i3 _ _ _ _ _ _ _ _ _ _))))) (cd (bn (fun t24 => (nb (bn (fun t25 => (bn (fun t26 => (bn (fun t27 => (i3 _ _ _ _ _ _ _ _ _ _))))))) (bn (fun t28 => (i3 _ _ _ _ _ _ _ _ _ _)))))) (bn (fun t29 => (i3 _ _ _ _ _ _ _ _ _ _))))))) (cd (bn (fun t30 => (nb (bn (fun t31 => (bn (fun t32 => (bn (fun t33 => (i3 _ _ _ _ _ _ _ _ _ _))))))) (bn (fun t34 => (i3 _ _ _ _ _ _ _ _ _ _)))))) (bn (fun t35 => (i3 _ _ _ _ _ _ _ _ _ _)))))))) (cd (bn (fun t36 => (nb (bn (fun t37 => (bn (fun t38 => (i3 _ _ _ _ _ _ _ _ _ _))))) (cd (bn (fun t39 => (nb (bn (fun t40 => (bn (fun t41 => (bn (fun t42 => (i3 _ _ _ _ _ _ _ _ _ _))))))) (bn (fun t43 => (i3 _ _ _ _ _ _ _ _ _ _)))))) (bn (fun t44 => (i3 _ _ _ _ _ _ _ _ _ _))))))) (cd (bn (fun t45 => (nb (bn (fun t46 => (bn (fun t47 => (bn (fun t48 => (i3 _ _ _ _ _ _ _ _ _ _))))))) (bn (fun t49 => (i3 _ _ _ _ _ _ _ _ _ _)))))) (bn (fun t50 => (i3 _ _ _ _ _ _ _ _ _ _)))))) (cd (bn (fun t51 => (nb (bn (fun t52 => (bn (fun t53 => (i3 _ _ _ _ _ _ _ _ _ _))))) (cd (bn (fun t54 => (nb (bn (fun t55 => (bn (fun t56 => (bn (fun t57 => (i3 _ _ _ _ _ _ _ _ _ _))))))) (bn (fun t58 => (i3 _ _ _ _ _ _ _ _ _ _)))))) (bn (fun t59 => (i3 _ _ _ _ _ _ _ _ _ _))))))) (cd (bn (fun t60 => (nb (bn (fun t61 => (bn (fun t62 => (bn (fun t63 => (i3 _ _ _ _ _ _ _ _ _ _))))))) (bn (fun t64 => (i3 _ _ _ _ _ _ _ _ _ _)))))) (bn (fun t65 => (i3 _ _ _ _ _ _ _ _ _ _)))))))) rfl)))
set_option maxRecDepth 100000 in
theorem spec_l12Store.oke (k : Nat) (a0_0 : List Int) (a0_1 : Int) (a0_2 : Int) : goF Try.f56 spec_l12Store.ctx spec_l12Store.sp 1 spec_l12Store.en (k + 1) [.code (body Try.f56)] (startSt [.pt 0 0 0] [.box [.row 1 .t5 a0_0, .sc (.int .i64 a0_1), .sc (.int .i64 a0_2)]]) = (spec_l12Store.f k a0_0 a0_1 a0_2).map spec_l12Store.e := by
  have i3 := spec_l12Store.ok k
  rw [spec_l12Store.f]; exact (spec_l12Store.te _ k a0_0 a0_1 a0_2).trans (bn (fun t1 => (i3 _ _ _ _ _ _ _ _ _ _)))
theorem spec_l12Store.con (k : Nat) (a0_0 : List Int) (a0_1 : Int) (a0_2 : Int) (r) (h : spec_l12Store.f k a0_0 a0_1 a0_2 = some r) : Contract Try.prog kit 56 [.pt 0 0 0] [.box [.row 1 .t5 a0_0, .sc (.int .i64 a0_1), .sc (.int .i64 a0_2)]] (spec_l12Store.e r).1 (spec_l12Store.e r).2.1 (spec_l12Store.e r).2.2 :=
  con_okG kitOk mix (fun k => (CtxOk.cons (spec_Enter.xok k) (CtxOk.cons (spec_l09Rec.xok k) (CtxOk.cons (spec_l01Once.xok k) (CtxOk.cons (spec_l01Below.xok k) (CtxOk.cons (spec_StoreNew.xok k) CtxOk.nil)))))) (spec_l12Store.oke k a0_0 a0_1 a0_2) h (by kernel_rfl) (by kernel_rfl) (by kernel_rfl) rfl (by kernel_rfl) rfl rfl
noncomputable def spec_l12Store.x (k : Nat) : X := fun ins bs κ => match ins, bs with
  | [.pt 0 0 0], [.box [.row 1 .t5 a0_0, .sc (.int .i64 a0_1), .sc (.int .i64 a0_2)]] => (spec_l12Store.f k a0_0 a0_1 a0_2).bind fun r => κ (spec_l12Store.e r).1 (spec_l12Store.e r).2.1 (spec_l12Store.e r).2.2
  | _, _ => none
theorem spec_l12Store.xok (k : Nat) : XOk 56 (spec_l12Store.x k) := by
  intro ins bs κ res h
  unfold spec_l12Store.x at h
  split at h
  · obtain ⟨r, hr, h⟩ := Option.bind_eq_some_iff.1 h
    exact ⟨_, _, _, spec_l12Store.con k _ _ _ r hr, h⟩
  · cases h

/-! ### spec_DrawStoreRec: function 18 -/
noncomputable def spec_DrawStoreRec.sp : Nat → Option (Spec Ty) := fun r => none
noncomputable def spec_DrawStoreRec.en : Option (Spec Ty) := some ⟨[(2, .box [.own .t53, .own .t88, .keep]), (3, .box [.keep, .keep, .keep, .keep])], []⟩
noncomputable def spec_DrawStoreRec.ctx (k : Nat) : Ctx Ty D := (cons 55 (spec_l01New.x k) (cons 56 (spec_l12Store.x k) (cons 57 (spec_l09Rec.x k) (cons 58 (spec_l01Once.x k) (cons 59 (spec_l01Below.x k) (fun _ _ _ _ => none))))))
noncomputable def spec_DrawStoreRec.f (k : Nat) (a0 : List Int) : Option ((List S53) × (List S88) × Int × Int × Int × Int × Int) := ((spec_l01New.f k a0).bind fun t1 => ((spec_l12Store.f k t1.1 t1.2.1 t1.2.2).bind fun t2 => ((spec_l09Rec.f k t2.2.2.2.1 t2.2.2.2.2.1 t2.2.2.2.2.2).bind fun t3 => (if (t2.1.length : Int) > 0 then (if t3.1 = 2 then ((spec_l01Once.f k 12 t3.2.2.2.2.1 t3.2.2.2.2.2.1 t3.2.2.2.2.2.2).bind fun t8 => (if t8.1 = true then (some (t2.1, t2.2.1, t2.2.2.1, 1, 0, 4, 0)) else (some (t2.1, t2.2.1, t2.2.2.1, t3.1, t3.2.1, t3.2.2.1, t3.2.2.2.1)))) else ((spec_l01Once.f k 6 t3.2.2.2.2.1 t3.2.2.2.2.2.1 t3.2.2.2.2.2.2).bind fun t4 => (if t4.1 = true then ((spec_l01Once.f k 12 t4.2.1 t4.2.2.1 t4.2.2.2).bind fun t7 => (if t7.1 = true then (some (t2.1, t2.2.1, t2.2.2.1, 1, 0, 4, 0)) else (some (t2.1, t2.2.1, t2.2.2.1, t3.1, t3.2.1, t3.2.2.1, t3.2.2.2.1)))) else ((spec_l01Below.f k (t2.1.length : Int) t4.2.1 t4.2.2.1 t4.2.2.2).bind fun t5 => (if 0 ≤ t5.1 then (if t5.1 < (t2.1.length : Int) then ((spec_l01Once.f k 12 t5.2.1 t5.2.2.1 t5.2.2.2).bind fun t6 => (if t6.1 = true then (some (t2.1, t2.2.1, t2.2.2.1, 1, 0, 4, 0)) else (some (t2.1, t2.2.1, t2.2.2.1, t3.1, (rd_T53 t2.1 t5.1).f0, t3.2.2.1, t3.2.2.2.1)))) else none) else none))))) else ((spec_l01Once.f k 12 t3.2.2.2.2.1 t3.2.2.2.2.2.1 t3.2.2.2.2.2.2).bind fun t9 => (if t9.1 = true then (some (t2.1, t2.2.1, t2.2.2.1, 1, 0, 4, 0)) else (some (t2.1, t2.2.1, t2.2.2.1, t3.1, t3.2.1, t3.2.2.1, t3.2.2.2.1))))))))
noncomputable def spec_DrawStoreRec.e (r : (List S53) × (List S88) × Int × Int × Int × Int × Int) : Res Ty D := (.tu [.ag [.sl 0 none, .sl 1 none, .sc (.int .i64 r.2.2.1)], .ag [.sc (.int .i64 r.2.2.2.1), .sc (.int .i64 r.2.2.2.2.1), .sc (.int .i64 r.2.2.2.2.2.1), .sc (.int .i64 r.2.2.2.2.2.2)]], [], [.rowb .t53 r.1 0, .rowb .t88 r.2.1 0])
noncomputable abbrev spec_DrawStoreRec.g (rec : List Item → St Ty D → R) (k : Nat) := go1 Try.f18 (spec_DrawStoreRec.ctx k) spec_DrawStoreRec.sp 0 spec_DrawStoreRec.en rec
set_option maxRecDepth 100000 in
theorem spec_DrawStoreRec.te (rec : List Item → St Ty D → R) (k : Nat) (a0 : List Int) : spec_DrawStoreRec.g rec k [.code (body Try.f18)] (startSt [.row 0 .t5 a0] []) =
  (spec_l01New.f k a0).bind fun t1 => (spec_l12Store.f k t1.1 t1.2.1 t1.2.2).bind fun t2 => (spec_l09Rec.f k t2.2.2.2.1 t2.2.2.2.2.1 t2.2.2.2.2.2).bind fun t3 => bif decide ((t2.1.length : Int) > 0) then bif !decide (t3.1 = 2) then (spec_l01Once.f k 6 t3.2.2.2.2.1 t3.2.2.2.2.2.1 t3.2.2.2.2.2.2).bind fun t4 => bif !t4.1 then (spec_l01Below.f k (t2.1.length : Int) t4.2.1 t4.2.2.1 t4.2.2.2).bind fun t5 => bif decide (0 ≤ t5.1) then bif decide (t5.1 < (t2.1.length : Int)) then (spec_l01Once.f k 12 t5.2.1 t5.2.2.1 t5.2.2.2).bind fun t6 => bif t6.1 then some (spec_DrawStoreRec.e (t2.1, t2.2.1, t2.2.2.1, 1, 0, 4, 0)) else some (spec_DrawStoreRec.e (t2.1, t2.2.1, t2.2.2.1, t3.1, (rd_T53 t2.1 t5.1).f0, t3.2.2.1, t3.2.2.2.1)) else none else none else (spec_l01Once.f k 12 t4.2.1 t4.2.2.1 t4.2.2.2).bind fun t7 => bif t7.1 then some (spec_DrawStoreRec.e (t2.1, t2.2.1, t2.2.2.1, 1, 0, 4, 0)) else some (spec_DrawStoreRec.e (t2.1, t2.2.1, t2.2.2.1, t3.1, t3.2.1, t3.2.2.1, t3.2.2.2.1)) else (spec_l01Once.f k 12 t3.2.2.2.2.1 t3.2.2.2.2.2.1 t3.2.2.2.2.2.2).bind fun t8 => bif t8.1 then some (spec_DrawStoreRec.e (t2.1, t2.2.1, t2.2.2.1, 1, 0, 4, 0)) else some (spec_DrawStoreRec.e (t2.1, t2.2.1, t2.2.2.1, t3.1, t3.2.1, t3.2.2.1, t3.2.2.2.1)) else (spec_l01Once.f k 12 t3.2.2.2.2.1 t3.2.2.2.2.2.1 t3.2.2.2.2.2.2).bind fun t9 => bif t9.1 then some (spec_DrawStoreRec.e (t2.1, t2.2.1, t2.2.2.1, 1, 0, 4, 0)) else some (spec_DrawStoreRec.e (t2.1, t2.2.1, t2.2.2.1, t3.1, t3.2.1, t3.2.2.1, t3.2.2.2.1)) := by kernel_rfl
set_option maxRecDepth 100000 in
theorem spec_DrawStoreRec.oke (k : Nat) (a0 : List Int) : goF Try.f18 spec_DrawStoreRec.ctx spec_DrawStoreRec.sp 0 spec_DrawStoreRec.en (k + 1) [.code (body Try.f18)] (startSt [.row 0 .t5 a0] []) = (spec_DrawStoreRec.f k a0).map spec_DrawStoreRec.e := by
  rw [spec_DrawStoreRec.f]; exact (spec_DrawStoreRec.te _ k a0).trans (bn (fun t1 => (bn (fun t2 => (bn (fun t3 => (cd (nd (bn (fun t4 => (nb (bn (fun t5 => (cd (cd (bn (fun t6 => (cb rfl rfl))) rfl) rfl))) (bn (fun t7 => (cb rfl rfl)))))) (bn (fun t8 => (cb rfl rfl)))) (bn (fun t9 => (cb rfl rfl))))))))))
theorem spec_DrawStoreRec.con (k : Nat) (a0 : List Int) (r) (h : spec_DrawStoreRec.f k a0 = some r) : Contract Try.prog kit 18 [.row 0 .t5 a0] [] (spec_DrawStoreRec.e r).1 (spec_DrawStoreRec.e r).2.1 (spec_DrawStoreRec.e r).2.2 :=
  con_okG kitOk mix (fun k => (CtxOk.cons (spec_l01New.xok k) (CtxOk.cons (spec_l12Store.xok k) (CtxOk.cons (spec_l09Rec.xok k) (CtxOk.cons (spec_l01Once.xok k) (CtxOk.cons (spec_l01Below.xok k) CtxOk.nil)))))) (spec_DrawStoreRec.oke k a0) h (by kernel_rfl) (by kernel_rfl) (by kernel_rfl) rfl (by kernel_rfl) rfl rfl
noncomputable def spec_DrawStoreRec.x (k : Nat) : X := fun ins bs κ => match ins, bs with
  | [.row 0 .t5 a0], [] => (spec_DrawStoreRec.f k a0).bind fun r => κ (spec_DrawStoreRec.e r).1 (spec_DrawStoreRec.e r).2.1 (spec_DrawStoreRec.e r).2.2
  | _, _ => none
theorem spec_DrawStoreRec.xok (k : Nat) : XOk 18 (spec_DrawStoreRec.x k) := by
  intro ins bs κ res h
  unfold spec_DrawStoreRec.x at h
  split at h
  · obtain ⟨r, hr, h⟩ := Option.bind_eq_some_iff.1 h
    exact ⟨_, _, _, spec_DrawStoreRec.con k _ r hr, h⟩
  · cases h

/-! ### impl_in: function 68 -/
noncomputable def impl_in.sp : Nat → Option (Spec Ty) := fun r => none
noncomputable def impl_in.en : Option (Spec Ty) := none
noncomputable def impl_in.ctx (k : Nat) : Ctx Ty D := (fun _ _ _ _ => none)
noncomputable def impl_in.f (k : Nat) (a0 : Int) (a1 : Int) (a2 : Int) : Option (Bool) := (if a0 ≥ a1 then (some ((decide (a0 ≤ a2)))) else (some (false)))
noncomputable def impl_in.e (r : Bool) : Res Ty D := (.sc (.bool r), [], [])
noncomputable abbrev impl_in.g (rec : List Item → St Ty D → R) (k : Nat) := go1 Try.f68 (impl_in.ctx k) impl_in.sp 0 impl_in.en rec
set_option maxRecDepth 100000 in
theorem impl_in.te (rec : List Item → St Ty D → R) (k : Nat) (a0 : Int) (a1 : Int) (a2 : Int) : impl_in.g rec k [.code (body Try.f68)] (startSt [.sc (.int .i64 a0), .sc (.int .i64 a1), .sc (.int .i64 a2)] []) =
  bif decide (a0 ≥ a1) then some (impl_in.e ((decide (a0 ≤ a2)))) else some (impl_in.e (false)) := by kernel_rfl
set_option maxRecDepth 100000 in
theorem impl_in.oke (k : Nat) (a0 : Int) (a1 : Int) (a2 : Int) : goF Try.f68 impl_in.ctx impl_in.sp 0 impl_in.en (k + 1) [.code (body Try.f68)] (startSt [.sc (.int .i64 a0), .sc (.int .i64 a1), .sc (.int .i64 a2)] []) = (impl_in.f k a0 a1 a2).map impl_in.e := by
  rw [impl_in.f]; exact (impl_in.te _ k a0 a1 a2).trans (cd rfl rfl)
theorem impl_in.con (k : Nat) (a0 : Int) (a1 : Int) (a2 : Int) (r) (h : impl_in.f k a0 a1 a2 = some r) : Contract Try.prog kit 68 [.sc (.int .i64 a0), .sc (.int .i64 a1), .sc (.int .i64 a2)] [] (impl_in.e r).1 (impl_in.e r).2.1 (impl_in.e r).2.2 :=
  con_okG kitOk mix (fun k => CtxOk.nil) (impl_in.oke k a0 a1 a2) h (by kernel_rfl) (by kernel_rfl) (by kernel_rfl) rfl (by kernel_rfl) rfl rfl
noncomputable def impl_in.x (k : Nat) : X := fun ins bs κ => match ins, bs with
  | [.sc (.int .i64 a0), .sc (.int .i64 a1), .sc (.int .i64 a2)], [] => (impl_in.f k a0 a1 a2).bind fun r => κ (impl_in.e r).1 (impl_in.e r).2.1 (impl_in.e r).2.2
  | _, _ => none
theorem impl_in.xok (k : Nat) : XOk 68 (impl_in.x k) := by
  intro ins bs κ res h
  unfold impl_in.x at h
  split at h
  · obtain ⟨r, hr, h⟩ := Option.bind_eq_some_iff.1 h
    exact ⟨_, _, _, impl_in.con k _ _ _ r hr, h⟩
  · cases h

/-! ### impl_ArenaOk: function 67 -/
noncomputable def impl_ArenaOk.sp : Nat → Option (Spec Ty) := fun r => bif Nat.beq r 2 then some ⟨[(1, .box [.keep]), (8, .keep), (9, .keep), (10, .keep)], []⟩ else bif Nat.beq r 7 then some ⟨[(1, .box [.keep]), (3, .keep), (4, .box [.keep, .keep]), (8, .keep), (9, .keep), (10, .keep), (20, .keep), (21, .keep), (22, .keep)], []⟩ else none
noncomputable def impl_ArenaOk.en : Option (Spec Ty) := none
noncomputable def impl_ArenaOk.s2 (x8 : List S88) (x9 : Int) (x10 : Int) (h64_0 : List S88) : St Ty D := ⟨(Env.put (Env.put (Env.put (Env.put E (some 1) (.pt 64 0 0)) (some 8) (.row 0 .t88 x8)) (some 9) (.sc (.int .i64 x9))) (some 10) (.sc (.int .i64 x10))), Heap.put H0 [(64, some (.box [.row 0 .t88 h64_0]))], 1000⟩
noncomputable def impl_ArenaOk.s7 (x3 : Int) (x8 : List S88) (x9 : Int) (x10 : Int) (x20 : List Int) (x21 : Int) (x22 : Int) (h64_0 : List S88) (h65_0 : Bool) (h65_1 : List Int) : St Ty D := ⟨(Env.put (Env.put (Env.put (Env.put (Env.put (Env.put (Env.put (Env.put (Env.put E (some 1) (.pt 64 0 0)) (some 3) (.sc (.int .i64 x3))) (some 4) (.pt 65 0 0)) (some 8) (.row 0 .t88 x8)) (some 9) (.sc (.int .i64 x9))) (some 10) (.sc (.int .i64 x10))) (some 20) (.row 0 .t3 x20)) (some 21) (.sc (.int .i64 x21))) (some 22) (.sc (.int .i64 x22))), Heap.put H0 [(64, some (.box [.row 0 .t88 h64_0])), (65, some (.box [.sc (.bool h65_0), .row 0 .t3 h65_1]))], 1000⟩
noncomputable def impl_ArenaOk.ctx (k : Nat) : Ctx Ty D := (cons 68 (impl_in.x k) (fun _ _ _ _ => none))
mutual
noncomputable def impl_ArenaOk.c2 : Nat → (List S88) → Int → Int → (List S88) → Option (Bool)
  | 0, _, _, _, _ => none
  | k + 1, x8, x9, x10, h64_0 => (if x10 < x9 then (if 0 ≤ x10 then (if x10 < (x8.length : Int) then (if (((rd_T88 x8 x10).f1).length : Int) = 4 then (impl_ArenaOk.c7 k x10 x8 x9 x10 ((rd_T88 x8 x10).f1) (((rd_T88 x8 x10).f1).length : Int) 0 h64_0 ((rd_T88 x8 x10).f0) ((rd_T88 x8 x10).f1)) else (some (false))) else none) else none) else (some (true)))
noncomputable def impl_ArenaOk.c7 : Nat → Int → (List S88) → Int → Int → (List Int) → Int → Int → (List S88) → Bool → (List Int) → Option (Bool)
  | 0, _, _, _, _, _, _, _, _, _, _ => none
  | k + 1, x3, x8, x9, x10, x20, x21, x22, h64_0, h65_0, h65_1 => (if x22 < x21 then (if 0 ≤ x22 then (if x22 < (x20.length : Int) then (if h65_0 = true then (if (rd_T3 x20 x22) < 0 then (some (false)) else (if h65_0 = true then (impl_ArenaOk.c7 k x3 x8 x9 x10 x20 x21 (w64 (x22 + 1)) h64_0 h65_0 h65_1) else (if (rd_T3 x20 x22) = (-1) then (impl_ArenaOk.c7 k x3 x8 x9 x10 x20 x21 (w64 (x22 + 1)) h64_0 h65_0 h65_1) else ((impl_in.f k (rd_T3 x20 x22) 0 (w64 (x3 - 1))).bind fun t1 => (if t1 = true then (if 0 ≤ (rd_T3 x20 x22) then (if (rd_T3 x20 x22) < (h64_0.length : Int) then (if ((rd_T88 h64_0 (rd_T3 x20 x22)).f0) = true then (impl_ArenaOk.c7 k x3 x8 x9 x10 x20 x21 (w64 (x22 + 1)) h64_0 h65_0 h65_1) else (some (false))) else none) else none) else (some (false))))))) else (if h65_0 = true then (impl_ArenaOk.c7 k x3 x8 x9 x10 x20 x21 (w64 (x22 + 1)) h64_0 h65_0 h65_1) else (if (rd_T3 x20 x22) = (-1) then (impl_ArenaOk.c7 k x3 x8 x9 x10 x20 x21 (w64 (x22 + 1)) h64_0 h65_0 h65_1) else ((impl_in.f k (rd_T3 x20 x22) 0 (w64 (x3 - 1))).bind fun t2 => (if t2 = true then (if 0 ≤ (rd_T3 x20 x22) then (if (rd_T3 x20 x22) < (h64_0.length : Int) then (if ((rd_T88 h64_0 (rd_T3 x20 x22)).f0) = true then (impl_ArenaOk.c7 k x3 x8 x9 x10 x20 x21 (w64 (x22 + 1)) h64_0 h65_0 h65_1) else (some (false))) else none) else none) else (some (false))))))) else none) else none) else (impl_ArenaOk.c2 k x8 x9 (w64 (x10 + 1)) h64_0))
end
noncomputable def impl_ArenaOk.f (k : Nat) (a0_0 : List S88) : Option (Bool) := (impl_ArenaOk.c2 k a0_0 (a0_0.length : Int) 0 a0_0)
noncomputable def impl_ArenaOk.e (r : Bool) : Res Ty D := (.sc (.bool r), [], [])
noncomputable abbrev impl_ArenaOk.g (rec : List Item → St Ty D → R) (k : Nat) := go1 Try.f67 (impl_ArenaOk.ctx k) impl_ArenaOk.sp 0 impl_ArenaOk.en rec
set_option maxRecDepth 100000 in
theorem impl_ArenaOk.t2 (rec : List Item → St Ty D → R) (k : Nat) (x8 : List S88) (x9 : Int) (x10 : Int) (h64_0 : List S88) : impl_ArenaOk.g rec k (td Try.f67 2) (impl_ArenaOk.s2 x8 x9 x10 h64_0) =
  bif decide (x10 < x9) then bif decide (0 ≤ x10) then bif decide (x10 < (x8.length : Int)) then bif !decide ((((rd_T88 x8 x10).f1).length : Int) = 4) then some (impl_ArenaOk.e (false)) else rec (td Try.f67 7) (impl_ArenaOk.s7 x10 x8 x9 x10 ((rd_T88 x8 x10).f1) (((rd_T88 x8 x10).f1).length : Int) 0 h64_0 ((rd_T88 x8 x10).f0) ((rd_T88 x8 x10).f1)) else none else none else some (impl_ArenaOk.e (true)) := by kernel_rfl
set_option maxRecDepth 100000 in
theorem impl_ArenaOk.t7 (rec : List Item → St Ty D → R) (k : Nat) (x3 : Int) (x8 : List S88) (x9 : Int) (x10 : Int) (x20 : List Int) (x21 : Int) (x22 : Int) (h64_0 : List S88) (h65_0 : Bool) (h65_1 : List Int) : impl_ArenaOk.g rec k (td Try.f67 7) (impl_ArenaOk.s7 x3 x8 x9 x10 x20 x21 x22 h64_0 h65_0 h65_1) =
  bif decide (x22 < x21) then bif decide (0 ≤ x22) then bif decide (x22 < (x20.length : Int)) then bif h65_0 then bif decide ((rd_T3 x20 x22) < 0) then some (impl_ArenaOk.e (false)) else bif !h65_0 then bif !decide ((rd_T3 x20 x22) = (-1)) then (impl_in.f k (rd_T3 x20 x22) 0 (w64 (x3 - 1))).bind fun t1 => bif !t1 then some (impl_ArenaOk.e (false)) else bif decide (0 ≤ (rd_T3 x20 x22)) then bif decide ((rd_T3 x20 x22) < (h64_0.length : Int)) then bif !((rd_T88 h64_0 (rd_T3 x20 x22)).f0) then some (impl_ArenaOk.e (false)) else rec (td Try.f67 7) (impl_ArenaOk.s7 x3 x8 x9 x10 x20 x21 (w64 (x22 + 1)) h64_0 h65_0 h65_1) else none else none else rec (td Try.f67 7) (impl_ArenaOk.s7 x3 x8 x9 x10 x20 x21 (w64 (x22 + 1)) h64_0 h65_0 h65_1) else rec (td Try.f67 7) (impl_ArenaOk.s7 x3 x8 x9 x10 x20 x21 (w64 (x22 + 1)) h64_0 h65_0 h65_1) else bif !h65_0 then bif !decide ((rd_T3 x20 x22) = (-1)) then (impl_in.f k (rd_T3 x20 x22) 0 (w64 (x3 - 1))).bind fun t2 => bif !t2 then some (impl_ArenaOk.e (false)) else bif decide (0 ≤ (rd_T3 x20 x22)) then bif decide ((rd_T3 x20 x22) < (h64_0.length : Int)) then bif !((rd_T88 h64_0 (rd_T3 x20 x22)).f0) then some (impl_ArenaOk.e (false)) else rec (td Try.f67 7) (impl_ArenaOk.s7 x3 x8 x9 x10 x20 x21 (w64 (x22 + 1)) h64_0 h65_0 h65_1) else none else none else rec (td Try.f67 7) (impl_ArenaOk.s7 x3 x8 x9 x10 x20 x21 (w64 (x22 + 1)) h64_0 h65_0 h65_1) else rec (td Try.f67 7) (impl_ArenaOk.s7 x3 x8 x9 x10 x20 x21 (w64 (x22 + 1)) h64_0 h65_0 h65_1) else none else none else rec (td Try.f67 2) (impl_ArenaOk.s2 x8 x9 (w64 (x10 + 1)) h64_0) := by kernel_rfl
set_option maxRecDepth 100000 in
theorem impl_ArenaOk.te (rec : List Item → St Ty D → R) (k : Nat) (a0_0 : List S88) : impl_ArenaOk.g rec k [.code (body Try.f67)] (startSt [.ag [.row 0 .t88 a0_0]] []) =
  rec (td Try.f67 2) (impl_ArenaOk.s2 a0_0 (a0_0.length : Int) 0 a0_0) := by kernel_rfl
set_option maxRecDepth 100000 in
theorem impl_ArenaOk.ok : ∀ k : Nat, (∀ (x8 : List S88) (x9 : Int) (x10 : Int) (h64_0 : List S88), goF Try.f67 impl_ArenaOk.ctx impl_ArenaOk.sp 0 impl_ArenaOk.en k (td Try.f67 2) (impl_ArenaOk.s2 x8 x9 x10 h64_0) = (impl_ArenaOk.c2 k x8 x9 x10 h64_0).map impl_ArenaOk.e) ∧ (∀ (x3 : Int) (x8 : List S88) (x9 : Int) (x10 : Int) (x20 : List Int) (x21 : Int) (x22 : Int) (h64_0 : List S88) (h65_0 : Bool) (h65_1 : List Int), goF Try.f67 impl_ArenaOk.ctx impl_ArenaOk.sp 0 impl_ArenaOk.en k (td Try.f67 7) (impl_ArenaOk.s7 x3 x8 x9 x10 x20 x21 x22 h64_0 h65_0 h65_1) = (impl_ArenaOk.c7 k x3 x8 x9 x10 x20 x21 x22 h64_0 h65_0 h65_1).map impl_ArenaOk.e)
  | 0 => ⟨fun _ _ _ _ => rfl, fun _ _ _ _ _ _ _ _ _ _ => rfl⟩
  | k + 1 => by
    have ih := impl_ArenaOk.ok k
    obtain ⟨i2, i7⟩ := ih
    refine ⟨?_, ?_⟩
    · intro x8 x9 x10 h64_0; rw [impl_ArenaOk.c2]; exact (impl_ArenaOk.t2 _ k x8 x9 x10 h64_0).trans (cd (cd (cd (nd rfl (i7 _ _ _ _ _ _ _ _ _ _)) rfl) rfl) rfl)
    · intro x3 x8 x9 x10 x20 x21 x22 h64_0 h65_0 h65_1; rw [impl_ArenaOk.c7]; exact (impl_ArenaOk.t7 _ k x3 x8 x9 x10 x20 x21 x22 h64_0 h65_0 h65_1).trans (cd (cd (cd (cb (cd rfl (nb (nd (bn (fun t1 => (nb rfl (cd (cd (nb rfl (i7 _ _ _ _ _ _ _ _ _ _)) rfl) rfl)))) (i7 _ _ _ _ _ _ _ _ _ _)) (i7 _ _ _ _ _ _ _ _ _ _))) (nb (nd (bn (fun t2 => (nb rfl (cd (cd (nb rfl (i7 _ _ _ _ _ _ _ _ _ _)) rfl) rfl)))) (i7 _ _ _ _ _ _ _ _ _ _)) (i7 _ _ _ _ _ _ _ _ _ _))) rfl) rfl) (i2 _ _ _ _))
set_option maxRecDepth 100000 in
theorem impl_ArenaOk.oke (k : Nat) (a0_0 : List S88) : goF Try.f67 impl_ArenaOk.ctx impl_ArenaOk.sp 0 impl_ArenaOk.en (k + 1) [.code (body Try.f67)] (startSt [.ag [.row 0 .t88 a0_0]] []) = (impl_ArenaOk.f k a0_0).map impl_ArenaOk.e := by
  obtain ⟨i2, i7⟩ := impl_ArenaOk.ok k
  rw [impl_ArenaOk.f]; exact (impl_ArenaOk.te _ k a0_0).trans (i2 _ _ _ _)
theorem impl_ArenaOk.con (k : Nat) (a0_0 : List S88) (r) (h : impl_ArenaOk.f k a0_0 = some r) : Contract Try.prog kit 67 [.ag [.row 0 .t88 a0_0]] [] (impl_ArenaOk.e r).1 (impl_ArenaOk.e r).2.1 (impl_ArenaOk.e r).2.2 :=
  con_okG kitOk mix (fun k => (CtxOk.cons (impl_in.xok k) CtxOk.nil)) (impl_ArenaOk.oke k a0_0) h (by kernel_rfl) (by kernel_rfl) (by kernel_rfl) rfl (by kernel_rfl) rfl rfl
noncomputable def impl_ArenaOk.x (k : Nat) : X := fun ins bs κ => match ins, bs with
  | [.ag [.row 0 .t88 a0_0]], [] => (impl_ArenaOk.f k a0_0).bind fun r => κ (impl_ArenaOk.e r).1 (impl_ArenaOk.e r).2.1 (impl_ArenaOk.e r).2.2
  | _, _ => none
theorem impl_ArenaOk.xok (k : Nat) : XOk 67 (impl_ArenaOk.x k) := by
  intro ins bs κ res h
  unfold impl_ArenaOk.x at h
  split at h
  · obtain ⟨r, hr, h⟩ := Option.bind_eq_some_iff.1 h
    exact ⟨_, _, _, impl_ArenaOk.con k _ r hr, h⟩
  · cases h
end Go.Proofs.Yteideicglgpfiaa.M2

/- Plain runs of functions: each is a plain Lean function, and keeps its contract. Written by a program of this session. -/
namespace Go.Proofs.Yteideicglgpfiaa.M2
open Go Go.Proofs.Yteideicglgpfiaa.PK
set_option linter.unusedVariables false
set_option linter.unusedSimpArgs false
set_option maxHeartbeats 4000000
/-! ### impl_isRoot: function 69 -/
noncomputable def impl_isRoot.sp : Nat → Option (Spec Ty) := fun r => none
noncomputable def impl_isRoot.en : Option (Spec Ty) := none
noncomputable def impl_isRoot.ctx (k : Nat) : Ctx Ty D := (cons 68 (impl_in.x k) (fun _ _ _ _ => none))
noncomputable def impl_isRoot.f (k : Nat) (a0_0 : List S88) (a1 : Int) : Option (Bool) := ((impl_in.f k a1 0 (w64 ((a0_0.length : Int) - 1))).bind fun t1 => (if t1 = true then (if 0 ≤ a1 then (if a1 < (a0_0.length : Int) then (some ((!((rd_T88 a0_0 a1).f0)))) else none) else none) else (some (false))))
noncomputable def impl_isRoot.e (r : Bool) : Res Ty D := (.sc (.bool r), [], [])
noncomputable abbrev impl_isRoot.g (rec : List Item → St Ty D → R) (k : Nat) := go1 Try.f69 (impl_isRoot.ctx k) impl_isRoot.sp 0 impl_isRoot.en rec
set_option maxRecDepth 100000 in
theorem impl_isRoot.te (rec : List Item → St Ty D → R) (k : Nat) (a0_0 : List S88) (a1 : Int) : impl_isRoot.g rec k [.code (body Try.f69)] (startSt [.ag [.row 0 .t88 a0_0], .sc (.int .i64 a1)] []) =
  (impl_in.f k a1 0 (w64 ((a0_0.length : Int) - 1))).bind fun t1 => bif t1 then bif decide (0 ≤ a1) then bif decide (a1 < (a0_0.length : Int)) then some (impl_isRoot.e ((!((rd_T88 a0_0 a1).f0)))) else none else none else some (impl_isRoot.e (false)) := by kernel_rfl
set_option maxRecDepth 100000 in
theorem impl_isRoot.oke (k : Nat) (a0_0 : List S88) (a1 : Int) : goF Try.f69 impl_isRoot.ctx impl_isRoot.sp 0 impl_isRoot.en (k + 1) [.code (body Try.f69)] (startSt [.ag [.row 0 .t88 a0_0], .sc (.int .i64 a1)] []) = (impl_isRoot.f k a0_0 a1).map impl_isRoot.e := by
  rw [impl_isRoot.f]; exact (impl_isRoot.te _ k a0_0 a1).trans (bn (fun t1 => (cb (cd (cd rfl rfl) rfl) rfl)))
theorem impl_isRoot.con (k : Nat) (a0_0 : List S88) (a1 : Int) (r) (h : impl_isRoot.f k a0_0 a1 = some r) : Contract Try.prog kit 69 [.ag [.row 0 .t88 a0_0], .sc (.int .i64 a1)] [] (impl_isRoot.e r).1 (impl_isRoot.e r).2.1 (impl_isRoot.e r).2.2 :=
  con_okG kitOk mix (fun k => (CtxOk.cons (impl_in.xok k) CtxOk.nil)) (impl_isRoot.oke k a0_0 a1) h (by kernel_rfl) (by kernel_rfl) (by kernel_rfl) rfl (by kernel_rfl) rfl rfl
noncomputable def impl_isRoot.x (k : Nat) : X := fun ins bs κ => match ins, bs with
  | [.ag [.row 0 .t88 a0_0], .sc (.int .i64 a1)], [] => (impl_isRoot.f k a0_0 a1).bind fun r => κ (impl_isRoot.e r).1 (impl_isRoot.e r).2.1 (impl_isRoot.e r).2.2
  | _, _ => none
theorem impl_isRoot.xok (k : Nat) : XOk 69 (impl_isRoot.x k) := by
  intro ins bs κ res h
  unfold impl_isRoot.x at h
  split at h
  · obtain ⟨r, hr, h⟩ := Option.bind_eq_some_iff.1 h
    exact ⟨_, _, _, impl_isRoot.con k _ _ r hr, h⟩
  · cases h

/-! ### impl_numberAt: function 95 -/
noncomputable def impl_numberAt.sp : Nat → Option (Spec Ty) := fun r => none
noncomputable def impl_numberAt.en : Option (Spec Ty) := none
noncomputable def impl_numberAt.ctx (k : Nat) : Ctx Ty D := (fun _ _ _ _ => none)
noncomputable def impl_numberAt.f (k : Nat) (a0_0 : List S88) (a1 : Int) (a2 : Int) : Option (Int) := (if 0 ≤ a1 then (if a1 < (a0_0.length : Int) then (if 0 ≤ (w64 (Int.tdiv a2 4)) then (if (w64 (Int.tdiv a2 4)) < (((rd_T88 a0_0 a1).f1).length : Int) then (if (rd_T3 ((rd_T88 a0_0 a1).f1) (w64 (Int.tdiv a2 4))) < 0 then (some (0)) else (if 0 ≤ (rd_T3 ((rd_T88 a0_0 a1).f1) (w64 (Int.tdiv a2 4))) then (if (rd_T3 ((rd_T88 a0_0 a1).f1) (w64 (Int.tdiv a2 4))) < (a0_0.length : Int) then (if 0 ≤ (Int.tmod a2 4) then (if (Int.tmod a2 4) < (((rd_T88 a0_0 (rd_T3 ((rd_T88 a0_0 a1).f1) (w64 (Int.tdiv a2 4)))).f1).length : Int) then (some ((rd_T3 ((rd_T88 a0_0 (rd_T3 ((rd_T88 a0_0 a1).f1) (w64 (Int.tdiv a2 4)))).f1) (Int.tmod a2 4)))) else none) else none) else none) else none)) else none) else none) else none) else none)
noncomputable def impl_numberAt.e (r : Int) : Res Ty D := (.sc (.int .i64 r), [], [])
noncomputable abbrev impl_numberAt.g (rec : List Item → St Ty D → R) (k : Nat) := go1 Try.f95 (impl_numberAt.ctx k) impl_numberAt.sp 0 impl_numberAt.en rec
set_option maxRecDepth 100000 in
theorem impl_numberAt.te (rec : List Item → St Ty D → R) (k : Nat) (a0_0 : List S88) (a1 : Int) (a2 : Int) : impl_numberAt.g rec k [.code (body Try.f95)] (startSt [.ag [.row 0 .t88 a0_0], .sc (.int .i64 a1), .sc (.int .i64 a2)] []) =
  bif decide (0 ≤ a1) then bif decide (a1 < (a0_0.length : Int)) then bif decide (0 ≤ (w64 (Int.tdiv a2 4))) then bif decide ((w64 (Int.tdiv a2 4)) < (((rd_T88 a0_0 a1).f1).length : Int)) then bif decide ((rd_T3 ((rd_T88 a0_0 a1).f1) (w64 (Int.tdiv a2 4))) < 0) then some (impl_numberAt.e (0)) else bif decide (0 ≤ (rd_T3 ((rd_T88 a0_0 a1).f1) (w64 (Int.tdiv a2 4)))) then bif decide ((rd_T3 ((rd_T88 a0_0 a1).f1) (w64 (Int.tdiv a2 4))) < (a0_0.length : Int)) then bif decide (0 ≤ (Int.tmod a2 4)) then bif decide ((Int.tmod a2 4) < (((rd_T88 a0_0 (rd_T3 ((rd_T88 a0_0 a1).f1) (w64 (Int.tdiv a2 4)))).f1).length : Int)) then some (impl_numberAt.e ((rd_T3 ((rd_T88 a0_0 (rd_T3 ((rd_T88 a0_0 a1).f1) (w64 (Int.tdiv a2 4)))).f1) (Int.tmod a2 4)))) else none else none else none else none else none else none else none else none := by kernel_rfl
set_option maxRecDepth 100000 in
theorem impl_numberAt.oke (k : Nat) (a0_0 : List S88) (a1 : Int) (a2 : Int) : goF Try.f95 impl_numberAt.ctx impl_numberAt.sp 0 impl_numberAt.en (k + 1) [.code (body Try.f95)] (startSt [.ag [.row 0 .t88 a0_0], .sc (.int .i64 a1), .sc (.int .i64 a2)] []) = (impl_numberAt.f k a0_0 a1 a2).map impl_numberAt.e := by
  rw [impl_numberAt.f]; exact (impl_numberAt.te _ k a0_0 a1 a2).trans (cd (cd (cd (cd (cd rfl (cd (cd (cd (cd rfl rfl) rfl) rfl) rfl)) rfl) rfl) rfl) rfl)
theorem impl_numberAt.con (k : Nat) (a0_0 : List S88) (a1 : Int) (a2 : Int) (r) (h : impl_numberAt.f k a0_0 a1 a2 = some r) : Contract Try.prog kit 95 [.ag [.row 0 .t88 a0_0], .sc (.int .i64 a1), .sc (.int .i64 a2)] [] (impl_numberAt.e r).1 (impl_numberAt.e r).2.1 (impl_numberAt.e r).2.2 :=
  con_okG kitOk mix (fun k => CtxOk.nil) (impl_numberAt.oke k a0_0 a1 a2) h (by kernel_rfl) (by kernel_rfl) (by kernel_rfl) rfl (by kernel_rfl) rfl rfl
noncomputable def impl_numberAt.x (k : Nat) : X := fun ins bs κ => match ins, bs with
  | [.ag [.row 0 .t88 a0_0], .sc (.int .i64 a1), .sc (.int .i64 a2)], [] => (impl_numberAt.f k a0_0 a1 a2).bind fun r => κ (impl_numberAt.e r).1 (impl_numberAt.e r).2.1 (impl_numberAt.e r).2.2
  | _, _ => none
theorem impl_numberAt.xok (k : Nat) : XOk 95 (impl_numberAt.x k) := by
  intro ins bs κ res h
  unfold impl_numberAt.x at h
  split at h
  · obtain ⟨r, hr, h⟩ := Option.bind_eq_some_iff.1 h
    exact ⟨_, _, _, impl_numberAt.con k _ _ _ r hr, h⟩
  · cases h

/-! ### impl_GetAt: function 64 -/
noncomputable def impl_GetAt.sp : Nat → Option (Spec Ty) := fun r => none
noncomputable def impl_GetAt.en : Option (Spec Ty) := none
noncomputable def impl_GetAt.ctx (k : Nat) : Ctx Ty D := (cons 67 (impl_ArenaOk.x k) (cons 68 (impl_in.x k) (cons 69 (impl_isRoot.x k) (cons 95 (impl_numberAt.x k) (fun _ _ _ _ => none)))))
noncomputable def impl_GetAt.f (k : Nat) (a0_0 : List S88) (a1 : Int) (a2 : Int) : Option (Int) := ((impl_in.f k a2 0 15).bind fun t1 => (if t1 = true then ((impl_isRoot.f k a0_0 a1).bind fun t2 => (if t2 = true then ((impl_ArenaOk.f k a0_0).bind fun t3 => (if t3 = true then ((impl_numberAt.f k a0_0 a1 a2).bind fun t4 => (some (t4))) else (some (0)))) else (some (0)))) else (some (0))))
noncomputable def impl_GetAt.e (r : Int) : Res Ty D := (.sc (.int .i64 r), [], [])
noncomputable abbrev impl_GetAt.g (rec : List Item → St Ty D → R) (k : Nat) := go1 Try.f64 (impl_GetAt.ctx k) impl_GetAt.sp 0 impl_GetAt.en rec
set_option maxRecDepth 100000 in
theorem impl_GetAt.te (rec : List Item → St Ty D → R) (k : Nat) (a0_0 : List S88) (a1 : Int) (a2 : Int) : impl_GetAt.g rec k [.code (body Try.f64)] (startSt [.ag [.row 0 .t88 a0_0], .sc (.int .i64 a1), .sc (.int .i64 a2)] []) =
  (impl_in.f k a2 0 15).bind fun t1 => bif !t1 then some (impl_GetAt.e (0)) else (impl_isRoot.f k a0_0 a1).bind fun t2 => bif !t2 then some (impl_GetAt.e (0)) else (impl_ArenaOk.f k a0_0).bind fun t3 => bif !t3 then some (impl_GetAt.e (0)) else (impl_numberAt.f k a0_0 a1 a2).bind fun t4 => some (impl_GetAt.e (t4)) := by kernel_rfl
set_option maxRecDepth 100000 in
theorem impl_GetAt.oke (k : Nat) (a0_0 : List S88) (a1 : Int) (a2 : Int) : goF Try.f64 impl_GetAt.ctx impl_GetAt.sp 0 impl_GetAt.en (k + 1) [.code (body Try.f64)] (startSt [.ag [.row 0 .t88 a0_0], .sc (.int .i64 a1), .sc (.int .i64 a2)] []) = (impl_GetAt.f k a0_0 a1 a2).map impl_GetAt.e := by
  rw [impl_GetAt.f]; exact (impl_GetAt.te _ k a0_0 a1 a2).trans (bn (fun t1 => (nb rfl (bn (fun t2 => (nb rfl (bn (fun t3 => (nb rfl (bn (fun t4 => rfl)))))))))))
theorem impl_GetAt.con (k : Nat) (a0_0 : List S88) (a1 : Int) (a2 : Int) (r) (h : impl_GetAt.f k a0_0 a1 a2 = some r) : Contract Try.prog kit 64 [.ag [.row 0 .t88 a0_0], .sc (.int .i64 a1), .sc (.int .i64 a2)] [] (impl_GetAt.e r).1 (impl_GetAt.e r).2.1 (impl_GetAt.e r).2.2 :=
  con_okG kitOk mix (fun k => (CtxOk.cons (impl_ArenaOk.xok k) (CtxOk.cons (impl_in.xok k) (CtxOk.cons (impl_isRoot.xok k) (CtxOk.cons (impl_numberAt.xok k) CtxOk.nil))))) (impl_GetAt.oke k a0_0 a1 a2) h (by kernel_rfl) (by kernel_rfl) (by kernel_rfl) rfl (by kernel_rfl) rfl rfl
noncomputable def impl_GetAt.x (k : Nat) : X := fun ins bs κ => match ins, bs with
  | [.ag [.row 0 .t88 a0_0], .sc (.int .i64 a1), .sc (.int .i64 a2)], [] => (impl_GetAt.f k a0_0 a1 a2).bind fun r => κ (impl_GetAt.e r).1 (impl_GetAt.e r).2.1 (impl_GetAt.e r).2.2
  | _, _ => none
theorem impl_GetAt.xok (k : Nat) : XOk 64 (impl_GetAt.x k) := by
  intro ins bs κ res h
  unfold impl_GetAt.x at h
  split at h
  · obtain ⟨r, hr, h⟩ := Option.bind_eq_some_iff.1 h
    exact ⟨_, _, _, impl_GetAt.con k _ _ _ r hr, h⟩
  · cases h

/-! ### impl_AllAt: function 66 -/
noncomputable def impl_AllAt.sp : Nat → Option (Spec Ty) := fun r => bif Nat.beq r 3 then some ⟨[(1, .keep), (2, .box [.keep]), (5, .own .t3), (7, .keep)], []⟩ else none
noncomputable def impl_AllAt.en : Option (Spec Ty) := some ⟨[(4, .own .t3)], []⟩
noncomputable def impl_AllAt.s3 (x1 : Int) (x7 : Int) (h64_0 : List S88) (h65 : List Int) : St Ty D := ⟨(Env.put (Env.put (Env.put (Env.put E (some 1) (.sc (.int .i64 x1))) (some 2) (.pt 64 0 0)) (some 5) (.sl 65 none)) (some 7) (.sc (.int .i64 x7))), Heap.put H0 [(64, some (.box [.row 0 .t88 h64_0])), (65, some (.rowb .t3 h65 0))], 1000⟩
noncomputable def impl_AllAt.ctx (k : Nat) : Ctx Ty D := (cons 64 (impl_GetAt.x k) (fun _ _ _ _ => none))
noncomputable def impl_AllAt.c3 : Nat → Int → Int → (List S88) → (List Int) → Option ((List Int))
  | 0, _, _, _, _ => none
  | k + 1, x1, x7, h64_0, h65 => (if x7 < 16 then ((impl_GetAt.f k h64_0 x1 x7).bind fun t1 => (if h65.length + ([t1] : List Int).length ≤ 17592186044416 then (impl_AllAt.c3 k x1 (w64 (x7 + 1)) h64_0 (h65 ++ ([t1] : List Int))) else none)) else (some (h65)))
noncomputable def impl_AllAt.f (k : Nat) (a0_0 : List S88) (a1 : Int) : Option ((List Int)) := (impl_AllAt.c3 k a1 0 a0_0 ([] : List Int))
noncomputable def impl_AllAt.e (r : (List Int)) : Res Ty D := (.sl 0 none, [], [.rowb .t3 r 0])
noncomputable abbrev impl_AllAt.g (rec : List Item → St Ty D → R) (k : Nat) := go1 Try.f66 (impl_AllAt.ctx k) impl_AllAt.sp 0 impl_AllAt.en rec
set_option maxRecDepth 100000 in
theorem impl_AllAt.t3 (rec : List Item → St Ty D → R) (k : Nat) (x1 : Int) (x7 : Int) (h64_0 : List S88) (h65 : List Int) : impl_AllAt.g rec k (td Try.f66 3) (impl_AllAt.s3 x1 x7 h64_0 h65) =
  bif decide (x7 < 16) then (impl_GetAt.f k h64_0 x1 x7).bind fun t1 => bif decide (h65.length + ([t1] : List Int).length ≤ 17592186044416) then rec (td Try.f66 3) (impl_AllAt.s3 x1 (w64 (x7 + 1)) h64_0 (h65 ++ ([t1] : List Int))) else none else some (impl_AllAt.e (h65)) := by kernel_rfl
set_option maxRecDepth 100000 in
theorem impl_AllAt.te (rec : List Item → St Ty D → R) (k : Nat) (a0_0 : List S88) (a1 : Int) : impl_AllAt.g rec k [.code (body Try.f66)] (startSt [.ag [.row 0 .t88 a0_0], .sc (.int .i64 a1)] []) =
  rec (td Try.f66 3) (impl_AllAt.s3 a1 0 a0_0 ([] : List Int)) := by kernel_rfl
set_option maxRecDepth 100000 in
theorem impl_AllAt.ok : ∀ k : Nat, (∀ (x1 : Int) (x7 : Int) (h64_0 : List S88) (h65 : List Int), goF Try.f66 impl_AllAt.ctx impl_AllAt.sp 0 impl_AllAt.en k (td Try.f66 3) (impl_AllAt.s3 x1 x7 h64_0 h65) = (impl_AllAt.c3 k x1 x7 h64_0 h65).map impl_AllAt.e)
  | 0 => fun _ _ _ _ => rfl
  | k + 1 => by
    have ih := impl_AllAt.ok k
    have i3 := ih
    intro x1 x7 h64_0 h65; rw [impl_AllAt.c3]; exact (impl_AllAt.t3 _ k x1 x7 h64_0 h65).trans (cd (bn (fun t1 => (cd (i3 _ _ _ _) rfl))) rfl)
set_option maxRecDepth 100000 in
theorem impl_AllAt.oke (k : Nat) (a0_0 : List S88) (a1 : Int) : goF Try.f66 impl_AllAt.ctx impl_AllAt.sp 0 impl_AllAt.en (k + 1) [.code (body Try.f66)] (startSt [.ag [.row 0 .t88 a0_0], .sc (.int .i64 a1)] []) = (impl_AllAt.f k a0_0 a1).map impl_AllAt.e := by
  have i3 := impl_AllAt.ok k
  rw [impl_AllAt.f]; exact (impl_AllAt.te _ k a0_0 a1).trans (i3 _ _ _ _)
theorem impl_AllAt.con (k : Nat) (a0_0 : List S88) (a1 : Int) (r) (h : impl_AllAt.f k a0_0 a1 = some r) : Contract Try.prog kit 66 [.ag [.row 0 .t88 a0_0], .sc (.int .i64 a1)] [] (impl_AllAt.e r).1 (impl_AllAt.e r).2.1 (impl_AllAt.e r).2.2 :=
  con_okG kitOk mix (fun k => (CtxOk.cons (impl_GetAt.xok k) CtxOk.nil)) (impl_AllAt.oke k a0_0 a1) h (by kernel_rfl) (by kernel_rfl) (by kernel_rfl) rfl (by kernel_rfl) rfl rfl
noncomputable def impl_AllAt.x (k : Nat) : X := fun ins bs κ => match ins, bs with
  | [.ag [.row 0 .t88 a0_0], .sc (.int .i64 a1)], [] => (impl_AllAt.f k a0_0 a1).bind fun r => κ (impl_AllAt.e r).1 (impl_AllAt.e r).2.1 (impl_AllAt.e r).2.2
  | _, _ => none
theorem impl_AllAt.xok (k : Nat) : XOk 66 (impl_AllAt.x k) := by
  intro ins bs κ res h
  unfold impl_AllAt.x at h
  split at h
  · obtain ⟨r, hr, h⟩ := Option.bind_eq_some_iff.1 h
    exact ⟨_, _, _, impl_AllAt.con k _ _ r hr, h⟩
  · cases h

/-! ### impl_SameStore: function 25 -/
noncomputable def impl_SameStore.sp : Nat → Option (Spec Ty) := fun r => bif Nat.beq r 4 then some ⟨[(2, .box [.keep, .keep, .keep]), (3, .box [.keep, .keep, .keep]), (26, .keep), (27, .keep), (28, .keep)], []⟩ else bif Nat.beq r 11 then some ⟨[(2, .box [.keep, .keep, .keep]), (3, .box [.keep, .keep, .keep]), (8, .own .t3), (26, .keep), (27, .keep), (28, .keep), (52, .own .t3), (53, .keep), (54, .keep)], []⟩ else none
noncomputable def impl_SameStore.en : Option (Spec Ty) := none
noncomputable def impl_SameStore.s4 (x26 : List S53) (x27 : Int) (x28 : Int) (h64_0 : List S53) (h64_1 : List S88) (h64_2 : Int) (h65_0 : List S53) (h65_1 : List S88) (h65_2 : Int) : St Ty D := ⟨(Env.put (Env.put (Env.put (Env.put (Env.put E (some 2) (.pt 64 0 0)) (some 3) (.pt 65 0 0)) (some 26) (.row 0 .t53 x26)) (some 27) (.sc (.int .i64 x27))) (some 28) (.sc (.int .i64 x28))), Heap.put H0 [(64, some (.box [.row 0 .t53 h64_0, .row 0 .t88 h64_1, .sc (.int .i64 h64_2)])), (65, some (.box [.row 0 .t53 h65_0, .row 0 .t88 h65_1, .sc (.int .i64 h65_2)]))], 1000⟩
noncomputable def impl_SameStore.s11 (x26 : List S53) (x27 : Int) (x28 : Int) (x53 : Int) (x54 : Int) (h64_0 : List S53) (h64_1 : List S88) (h64_2 : Int) (h65_0 : List S53) (h65_1 : List S88) (h65_2 : Int) (h66 : List Int) (h67 : List Int) : St Ty D := ⟨(Env.put (Env.put (Env.put (Env.put (Env.put (Env.put (Env.put (Env.put (Env.put E (some 2) (.pt 64 0 0)) (some 3) (.pt 65 0 0)) (some 8) (.sl 66 none)) (some 26) (.row 0 .t53 x26)) (some 27) (.sc (.int .i64 x27))) (some 28) (.sc (.int .i64 x28))) (some 52) (.sl 67 none)) (some 53) (.sc (.int .i64 x53))) (some 54) (.sc (.int .i64 x54))), Heap.put H0 [(64, some (.box [.row 0 .t53 h64_0, .row 0 .t88 h64_1, .sc (.int .i64 h64_2)])), (65, some (.box [.row 0 .t53 h65_0, .row 0 .t88 h65_1, .sc (.int .i64 h65_2)])), (66, some (.rowb .t3 h66 0)), (67, some (.rowb .t3 h67 0))], 1000⟩
noncomputable def impl_SameStore.ctx (k : Nat) : Ctx Ty D := (cons 66 (impl_AllAt.x k) (fun _ _ _ _ => none))
mutual
noncomputable def impl_SameStore.c4 : Nat → (List S53) → Int → Int → (List S53) → (List S88) → Int → (List S53) → (List S88) → Int → Option (Bool)
  | 0, _, _, _, _, _, _, _, _, _ => none
  | k + 1, x26, x27, x28, h64_0, h64_1, h64_2, h65_0, h65_1, h65_2 => (if x28 < x27 then (if 0 ≤ x28 then (if x28 < (x26.length : Int) then (if 0 ≤ x28 then (if x28 < (h65_0.length : Int) then ((impl_AllAt.f k h65_1 ((rd_T53 h65_0 x28).f1)).bind fun t1 => (if ((rd_T53 x26 x28).f0) = ((rd_T53 h65_0 x28).f0) then ((impl_AllAt.f k h64_1 ((rd_T53 x26 x28).f1)).bind fun t2 => (impl_SameStore.c11 k x26 x27 x28 (t2.length : Int) 0 h64_0 h64_1 h64_2 h65_0 h65_1 h65_2 t1 t2)) else (some (false)))) else none) else none) else none) else none) else (some (true)))
noncomputable def impl_SameStore.c11 : Nat → (List S53) → Int → Int → Int → Int → (List S53) → (List S88) → Int → (List S53) → (List S88) → Int → (List Int) → (List Int) → Option (Bool)
  | 0, _, _, _, _, _, _, _, _, _, _, _, _, _ => none
  | k + 1, x26, x27, x28, x53, x54, h64_0, h64_1, h64_2, h65_0, h65_1, h65_2, h66, h67 => (if x54 < x53 then (if 0 ≤ x54 then (if x54 < (h67.length : Int) then (if 0 ≤ x54 then (if x54 < (h66.length : Int) then (if (rd_T3 h67 x54) = (rd_T3 h66 x54) then (impl_SameStore.c11 k x26 x27 x28 x53 (w64 (x54 + 1)) h64_0 h64_1 h64_2 h65_0 h65_1 h65_2 h66 h67) else (some (false))) else none) else none) else none) else none) else (impl_SameStore.c4 k x26 x27 (w64 (x28 + 1)) h64_0 h64_1 h64_2 h65_0 h65_1 h65_2))
end
noncomputable def impl_SameStore.f (k : Nat) (a0_0 : List S53) (a0_1 : List S88) (a0_2 : Int) (a1_0 : List S53) (a1_1 : List S88) (a1_2 : Int) : Option (Bool) := (if (a0_0.length : Int) = (a1_0.length : Int) then (if a0_2 = a1_2 then (impl_SameStore.c4 k a0_0 (a0_0.length : Int) 0 a0_0 a0_1 a0_2 a1_0 a1_1 a1_2) else (some (false))) else (some (false)))
noncomputable def impl_SameStore.e (r : Bool) : Res Ty D := (.sc (.bool r), [], [])
noncomputable abbrev impl_SameStore.g (rec : List Item → St Ty D → R) (k : Nat) := go1 Try.f25 (impl_SameStore.ctx k) impl_SameStore.sp 0 impl_SameStore.en rec
set_option maxRecDepth 100000 in
theorem impl_SameStore.t4 (rec : List Item → St Ty D → R) (k : Nat) (x26 : List S53) (x27 : Int) (x28 : Int) (h64_0 : List S53) (h64_1 : List S88) (h64_2 : Int) (h65_0 : List S53) (h65_1 : List S88) (h65_2 : Int) : impl_SameStore.g rec k (td Try.f25 4) (impl_SameStore.s4 x26 x27 x28 h64_0 h64_1 h64_2 h65_0 h65_1 h65_2) =
  bif decide (x28 < x27) then bif decide (0 ≤ x28) then bif decide (x28 < (x26.length : Int)) then bif decide (0 ≤ x28) then bif decide (x28 < (h65_0.length : Int)) then (impl_AllAt.f k h65_1 ((rd_T53 h65_0 x28).f1)).bind fun t1 => bif !decide (((rd_T53 x26 x28).f0) = ((rd_T53 h65_0 x28).f0)) then some (impl_SameStore.e (false)) else (impl_AllAt.f k h64_1 ((rd_T53 x26 x28).f1)).bind fun t2 => rec (td Try.f25 11) (impl_SameStore.s11 x26 x27 x28 (t2.length : Int) 0 h64_0 h64_1 h64_2 h65_0 h65_1 h65_2 t1 t2) else none else none else none else none else some (impl_SameStore.e (true)) := by kernel_rfl
set_option maxRecDepth 100000 in
theorem impl_SameStore.t11 (rec : List Item → St Ty D → R) (k : Nat) (x26 : List S53) (x27 : Int) (x28 : Int) (x53 : Int) (x54 : Int) (h64_0 : List S53) (h64_1 : List S88) (h64_2 : Int) (h65_0 : List S53) (h65_1 : List S88) (h65_2 : Int) (h66 : List Int) (h67 : List Int) : impl_SameStore.g rec k (td Try.f25 11) (impl_SameStore.s11 x26 x27 x28 x53 x54 h64_0 h64_1 h64_2 h65_0 h65_1 h65_2 h66 h67) =
  bif decide (x54 < x53) then bif decide (0 ≤ x54) then bif decide (x54 < (h67.length : Int)) then bif decide (0 ≤ x54) then bif decide (x54 < (h66.length : Int)) then bif !decide ((rd_T3 h67 x54) = (rd_T3 h66 x54)) then some (impl_SameStore.e (false)) else rec (td Try.f25 11) (impl_SameStore.s11 x26 x27 x28 x53 (w64 (x54 + 1)) h64_0 h64_1 h64_2 h65_0 h65_1 h65_2 h66 h67) else none else none else none else none else rec (td Try.f25 4) (impl_SameStore.s4 x26 x27 (w64 (x28 + 1)) h64_0 h64_1 h64_2 h65_0 h65_1 h65_2) := by kernel_rfl
set_option maxRecDepth 100000 in
theorem impl_SameStore.te (rec : List Item → St Ty D → R) (k : Nat) (a0_0 : List S53) (a0_1 : List S88) (a0_2 : Int) (a1_0 : List S53) (a1_1 : List S88) (a1_2 : Int) : impl_SameStore.g rec k [.code (body Try.f25)] (startSt [.ag [.row 0 .t53 a0_0, .row 0 .t88 a0_1, .sc (.int .i64 a0_2)], .ag [.row 0 .t53 a1_0, .row 0 .t88 a1_1, .sc (.int .i64 a1_2)]] []) =
  bif !decide ((a0_0.length : Int) = (a1_0.length : Int)) then some (impl_SameStore.e (false)) else bif !decide (a0_2 = a1_2) then some (impl_SameStore.e (false)) else rec (td Try.f25 4) (impl_SameStore.s4 a0_0 (a0_0.length : Int) 0 a0_0 a0_1 a0_2 a1_0 a1_1 a1_2) := by kernel_rfl
set_option maxRecDepth 100000 in
theorem impl_SameStore.ok : ∀ k : Nat, (∀ (x26 : List S53) (x27 : Int) (x28 : Int) (h64_0 : List S53) (h64_1 : List S88) (h64_2 : Int) (h65_0 : List S53) (h65_1 : List S88) (h65_2 : Int), goF Try.f25 impl_SameStore.ctx impl_SameStore.sp 0 impl_SameStore.en k (td Try.f25 4) (impl_SameStore.s4 x26 x27 x28 h64_0 h64_1 h64_2 h65_0 h65_1 h65_2) = (impl_SameStore.c4 k x26 x27 x28 h64_0 h64_1 h64_2 h65_0 h65_1 h65_2).map impl_SameStore.e) ∧ (∀ (x26 : List S53) (x27 : Int) (x28 : Int) (x53 : Int) (x54 : Int) (h64_0 : List S53) (h64_1 : List S88) (h64_2 : Int) (h65_0 : List S53) (h65_1 : List S88) (h65_2 : Int) (h66 : List Int) (h67 : List Int), goF Try.f25 impl_SameStore.ctx impl_SameStore.sp 0 impl_SameStore.en k (td Try.f25 11) (impl_SameStore.s11 x26 x27 x28 x53 x54 h64_0 h64_1 h64_2 h65_0 h65_1 h65_2 h66 h67) = (impl_SameStore.c11 k x26 x27 x28 x53 x54 h64_0 h64_1 h64_2 h65_0 h65_1 h65_2 h66 h67).map impl_SameStore.e)
  | 0 => ⟨fun _ _ _ _ _ _ _ _ _ => rfl, fun _ _ _ _ _ _ _ _ _ _ _ _ _ => rfl⟩
  | k + 1 => by
    have ih := impl_SameStore.ok k
    obtain ⟨i4, i11⟩ := ih
    refine ⟨?_, ?_⟩
    · intro x26 x27 x28 h64_0 h64_1 h64_2 h65_0 h65_1 h65_2; rw [impl_SameStore.c4]; exact (impl_SameStore.t4 _ k x26 x27 x28 h64_0 h64_1 h64_2 h65_0 h65_1 h65_2).trans (cd (cd (cd (cd (cd (bn (fun t1 => (nd rfl (bn (fun t2 => (i11 _ _ _ _ _ _ _ _ _ _ _ _ _)))))) rfl) rfl) rfl) rfl) rfl)
    · intro x26 x27 x28 x53 x54 h64_0 h64_1 h64_2 h65_0 h65_1 h65_2 h66 h67; rw [impl_SameStore.c11]; exact (impl_SameStore.t11 _ k x26 x27 x28 x53 x54 h64_0 h64_1 h64_2 h65_0 h65_1 h65_2 h66 h67).trans (cd (cd (cd (cd (cd (nd rfl (i11 _ _ _ _ _ _ _ _ _ _ _ _ _)) rfl) rfl) rfl) rfl) (i4 _ _ _ _ _ _ _ _ _))
set_option maxRecDepth 100000 in
theorem impl_SameStore.oke (k : Nat) (a0_0 : List S53) (a0_1 : List S88) (a0_2 : Int) (a1_0 : List S53) (a1_1 : List S88) (a1_2 : Int) : goF Try.f25 impl_SameStore.ctx impl_SameStore.sp 0 impl_SameStore.en (k + 1) [.code (body Try.f25)] (startSt [.ag [.row 0 .t53 a0_0, .row 0 .t88 a0_1, .sc (.int .i64 a0_2)], .ag [.row 0 .t53 a1_0, .row 0 .t88 a1_1, .sc (.int .i64 a1_2)]] []) = (impl_SameStore.f k a0_0 a0_1 a0_2 a1_0 a1_1 a1_2).map impl_SameStore.e := by
  obtain ⟨i4, i11⟩ := impl_SameStore.ok k
  rw [impl_SameStore.f]; exact (impl_SameStore.te _ k a0_0 a0_1 a0_2 a1_0 a1_1 a1_2).trans (nd rfl (nd rfl (i4 _ _ _ _ _ _ _ _ _)))
theorem impl_SameStore.con (k : Nat) (a0_0 : List S53) (a0_1 : List S88) (a0_2 : Int) (a1_0 : List S53) (a1_1 : List S88) (a1_2 : Int) (r) (h : impl_SameStore.f k a0_0 a0_1 a0_2 a1_0 a1_1 a1_2 = some r) : Contract Try.prog kit 25 [.ag [.row 0 .t53 a0_0, .row 0 .t88 a0_1, .sc (.int .i64 a0_2)], .ag [.row 0 .t53 a1_0, .row 0 .t88 a1_1, .sc (.int .i64 a1_2)]] [] (impl_SameStore.e r).1 (impl_SameStore.e r).2.1 (impl_SameStore.e r).2.2 :=
  con_okG kitOk mix (fun k => (CtxOk.cons (impl_AllAt.xok k) CtxOk.nil)) (impl_SameStore.oke k a0_0 a0_1 a0_2 a1_0 a1_1 a1_2) h (by kernel_rfl) (by kernel_rfl) (by kernel_rfl) rfl (by kernel_rfl) rfl rfl
noncomputable def impl_SameStore.x (k : Nat) : X := fun ins bs κ => match ins, bs with
  | [.ag [.row 0 .t53 a0_0, .row 0 .t88 a0_1, .sc (.int .i64 a0_2)], .ag [.row 0 .t53 a1_0, .row 0 .t88 a1_1, .sc (.int .i64 a1_2)]], [] => (impl_SameStore.f k a0_0 a0_1 a0_2 a1_0 a1_1 a1_2).bind fun r => κ (impl_SameStore.e r).1 (impl_SameStore.e r).2.1 (impl_SameStore.e r).2.2
  | _, _ => none
theorem impl_SameStore.xok (k : Nat) : XOk 25 (impl_SameStore.x k) := by
  intro ins bs κ res h
  unfold impl_SameStore.x at h
  split at h
  · obtain ⟨r, hr, h⟩ := Option.bind_eq_some_iff.1 h
    exact ⟨_, _, _, impl_SameStore.con k _ _ _ _ _ _ r hr, h⟩
  · cases h

/-! ### impl_hasInt: function 71 -/
noncomputable def impl_hasInt.sp : Nat → Option (Spec Ty) := fun r => bif Nat.beq r 2 then some ⟨[(1, .keep), (7, .keep), (8, .keep), (9, .keep)], []⟩ else none
noncomputable def impl_hasInt.en : Option (Spec Ty) := none
noncomputable def impl_hasInt.s2 (x1 : Int) (x7 : List Int) (x8 : Int) (x9 : Int) : St Ty D := ⟨(Env.put (Env.put (Env.put (Env.put E (some 1) (.sc (.int .i64 x1))) (some 7) (.row 0 .t3 x7)) (some 8) (.sc (.int .i64 x8))) (some 9) (.sc (.int .i64 x9))), H0, 1000⟩
noncomputable def impl_hasInt.ctx (k : Nat) : Ctx Ty D := (fun _ _ _ _ => none)
noncomputable def impl_hasInt.c2 : Nat → Int → (List Int) → Int → Int → Option (Bool)
  | 0, _, _, _, _ => none
  | k + 1, x1, x7, x8, x9 => (if x9 < x8 then (if 0 ≤ x9 then (if x9 < (x7.length : Int) then (if (rd_T3 x7 x9) = x1 then (some (true)) else (impl_hasInt.c2 k x1 x7 x8 (w64 (x9 + 1)))) else none) else none) else (some (false)))
noncomputable def impl_hasInt.f (k : Nat) (a0 : List Int) (a1 : Int) : Option (Bool) := (impl_hasInt.c2 k a1 a0 (a0.length : Int) 0)
noncomputable def impl_hasInt.e (r : Bool) : Res Ty D := (.sc (.bool r), [], [])
noncomputable abbrev impl_hasInt.g (rec : List Item → St Ty D → R) (k : Nat) := go1 Try.f71 (impl_hasInt.ctx k) impl_hasInt.sp 0 impl_hasInt.en rec
set_option maxRecDepth 100000 in
theorem impl_hasInt.t2 (rec : List Item → St Ty D → R) (k : Nat) (x1 : Int) (x7 : List Int) (x8 : Int) (x9 : Int) : impl_hasInt.g rec k (td Try.f71 2) (impl_hasInt.s2 x1 x7 x8 x9) =
  bif decide (x9 < x8) then bif decide (0 ≤ x9) then bif decide (x9 < (x7.length : Int)) then bif decide ((rd_T3 x7 x9) = x1) then some (impl_hasInt.e (true)) else rec (td Try.f71 2) (impl_hasInt.s2 x1 x7 x8 (w64 (x9 + 1))) else none else none else some (impl_hasInt.e (false)) := by kernel_rfl
set_option maxRecDepth 100000 in
theorem impl_hasInt.te (rec : List Item → St Ty D → R) (k : Nat) (a0 : List Int) (a1 : Int) : impl_hasInt.g rec k [.code (body Try.f71)] (startSt [.row 0 .t3 a0, .sc (.int .i64 a1)] []) =
  rec (td Try.f71 2) (impl_hasInt.s2 a1 a0 (a0.length : Int) 0) := by kernel_rfl
set_option maxRecDepth 100000 in
theorem impl_hasInt.ok : ∀ k : Nat, (∀ (x1 : Int) (x7 : List Int) (x8 : Int) (x9 : Int), goF Try.f71 impl_hasInt.ctx impl_hasInt.sp 0 impl_hasInt.en k (td Try.f71 2) (impl_hasInt.s2 x1 x7 x8 x9) = (impl_hasInt.c2 k x1 x7 x8 x9).map impl_hasInt.e)
  | 0 => fun _ _ _ _ => rfl
  | k + 1 => by
    have ih := impl_hasInt.ok k
    have i2 := ih
    intro x1 x7 x8 x9; rw [impl_hasInt.c2]; exact (impl_hasInt.t2 _ k x1 x7 x8 x9).trans (cd (cd (cd (cd rfl (i2 _ _ _ _)) rfl) rfl) rfl)
set_option maxRecDepth 100000 in
theorem impl_hasInt.oke (k : Nat) (a0 : List Int) (a1 : Int) : goF Try.f71 impl_hasInt.ctx impl_hasInt.sp 0 impl_hasInt.en (k + 1) [.code (body Try.f71)] (startSt [.row 0 .t3 a0, .sc (.int .i64 a1)] []) = (impl_hasInt.f k a0 a1).map impl_hasInt.e := by
  have i2 := impl_hasInt.ok k
  rw [impl_hasInt.f]; exact (impl_hasInt.te _ k a0 a1).trans (i2 _ _ _ _)
theorem impl_hasInt.con (k : Nat) (a0 : List Int) (a1 : Int) (r) (h : impl_hasInt.f k a0 a1 = some r) : Contract Try.prog kit 71 [.row 0 .t3 a0, .sc (.int .i64 a1)] [] (impl_hasInt.e r).1 (impl_hasInt.e r).2.1 (impl_hasInt.e r).2.2 :=
  con_okG kitOk mix (fun k => CtxOk.nil) (impl_hasInt.oke k a0 a1) h (by kernel_rfl) (by kernel_rfl) (by kernel_rfl) rfl (by kernel_rfl) rfl rfl
noncomputable def impl_hasInt.x (k : Nat) : X := fun ins bs κ => match ins, bs with
  | [.row 0 .t3 a0, .sc (.int .i64 a1)], [] => (impl_hasInt.f k a0 a1).bind fun r => κ (impl_hasInt.e r).1 (impl_hasInt.e r).2.1 (impl_hasInt.e r).2.2
  | _, _ => none
theorem impl_hasInt.xok (k : Nat) : XOk 71 (impl_hasInt.x k) := by
  intro ins bs κ res h
  unfold impl_hasInt.x at h
  split at h
  · obtain ⟨r, hr, h⟩ := Option.bind_eq_some_iff.1 h
    exact ⟨_, _, _, impl_hasInt.con k _ _ r hr, h⟩
  · cases h

/-! ### impl_knotsOf: function 70 -/
noncomputable def impl_knotsOf.sp : Nat → Option (Spec Ty) := fun r => bif Nat.beq r 5 then some ⟨[(2, .box [.keep]), (5, .own .t3), (19, .keep), (20, .keep), (21, .keep)], []⟩ else none
noncomputable def impl_knotsOf.en : Option (Spec Ty) := some ⟨[(4, .own .t3)], []⟩
noncomputable def impl_knotsOf.s5 (x19 : List Int) (x20 : Int) (x21 : Int) (h64_0 : List S88) (h65 : List Int) : St Ty D := ⟨(Env.put (Env.put (Env.put (Env.put (Env.put E (some 2) (.pt 64 0 0)) (some 5) (.sl 65 none)) (some 19) (.row 0 .t3 x19)) (some 20) (.sc (.int .i64 x20))) (some 21) (.sc (.int .i64 x21))), Heap.put H0 [(64, some (.box [.row 0 .t88 h64_0])), (65, some (.rowb .t3 h65 0))], 1000⟩
noncomputable def impl_knotsOf.ctx (k : Nat) : Ctx Ty D := (cons 68 (impl_in.x k) (cons 69 (impl_isRoot.x k) (cons 71 (impl_hasInt.x k) (fun _ _ _ _ => none))))
noncomputable def impl_knotsOf.c5 : Nat → (List Int) → Int → Int → (List S88) → (List Int) → Option ((List Int))
  | 0, _, _, _, _, _ => none
  | k + 1, x19, x20, x21, h64_0, h65 => (if x21 < x20 then (if 0 ≤ x21 then (if x21 < (x19.length : Int) then ((impl_in.f k (rd_T3 x19 x21) 0 (w64 ((h64_0.length : Int) - 1))).bind fun t2 => (if t2 = true then ((impl_hasInt.f k h65 (rd_T3 x19 x21)).bind fun t3 => (if t3 = true then (impl_knotsOf.c5 k x19 x20 (w64 (x21 + 1)) h64_0 h65) else (if h65.length + ([(rd_T3 x19 x21)] : List Int).length ≤ 17592186044416 then (impl_knotsOf.c5 k x19 x20 (w64 (x21 + 1)) h64_0 (h65 ++ ([(rd_T3 x19 x21)] : List Int))) else none))) else (impl_knotsOf.c5 k x19 x20 (w64 (x21 + 1)) h64_0 h65))) else none) else none) else (some (h65)))
noncomputable def impl_knotsOf.f (k : Nat) (a0_0 : List S88) (a1 : Int) : Option ((List Int)) := ((impl_isRoot.f k a0_0 a1).bind fun t1 => (if t1 = true then (if 0 ≤ a1 then (if a1 < (a0_0.length : Int) then (impl_knotsOf.c5 k ((rd_T88 a0_0 a1).f1) (((rd_T88 a0_0 a1).f1).length : Int) 0 a0_0 ([a1] : List Int)) else none) else none) else (some (([] : List Int)))))
noncomputable def impl_knotsOf.e (r : (List Int)) : Res Ty D := (.sl 0 none, [], [.rowb .t3 r 0])
noncomputable abbrev impl_knotsOf.g (rec : List Item → St Ty D → R) (k : Nat) := go1 Try.f70 (impl_knotsOf.ctx k) impl_knotsOf.sp 0 impl_knotsOf.en rec
set_option maxRecDepth 100000 in
theorem impl_knotsOf.t5 (rec : List Item → St Ty D → R) (k : Nat) (x19 : List Int) (x20 : Int) (x21 : Int) (h64_0 : List S88) (h65 : List Int) : impl_knotsOf.g rec k (td Try.f70 5) (impl_knotsOf.s5 x19 x20 x21 h64_0 h65) =
  bif decide (x21 < x20) then bif decide (0 ≤ x21) then bif decide (x21 < (x19.length : Int)) then (impl_in.f k (rd_T3 x19 x21) 0 (w64 ((h64_0.length : Int) - 1))).bind fun t2 => bif t2 then (impl_hasInt.f k h65 (rd_T3 x19 x21)).bind fun t3 => bif !t3 then bif decide (h65.length + ([(rd_T3 x19 x21)] : List Int).length ≤ 17592186044416) then rec (td Try.f70 5) (impl_knotsOf.s5 x19 x20 (w64 (x21 + 1)) h64_0 (h65 ++ ([(rd_T3 x19 x21)] : List Int))) else none else rec (td Try.f70 5) (impl_knotsOf.s5 x19 x20 (w64 (x21 + 1)) h64_0 h65) else rec (td Try.f70 5) (impl_knotsOf.s5 x19 x20 (w64 (x21 + 1)) h64_0 h65) else none else none else some (impl_knotsOf.e (h65)) := by kernel_rfl
set_option maxRecDepth 100000 in
theorem impl_knotsOf.te (rec : List Item → St Ty D → R) (k : Nat) (a0_0 : List S88) (a1 : Int) : impl_knotsOf.g rec k [.code (body Try.f70)] (startSt [.ag [.row 0 .t88 a0_0], .sc (.int .i64 a1)] []) =
  (impl_isRoot.f k a0_0 a1).bind fun t1 => bif !t1 then some (impl_knotsOf.e (([] : List Int))) else bif decide (0 ≤ a1) then bif decide (a1 < (a0_0.length : Int)) then rec (td Try.f70 5) (impl_knotsOf.s5 ((rd_T88 a0_0 a1).f1) (((rd_T88 a0_0 a1).f1).length : Int) 0 a0_0 ([a1] : List Int)) else none else none := by kernel_rfl
set_option maxRecDepth 100000 in
theorem impl_knotsOf.ok : ∀ k : Nat, (∀ (x19 : List Int) (x20 : Int) (x21 : Int) (h64_0 : List S88) (h65 : List Int), goF Try.f70 impl_knotsOf.ctx impl_knotsOf.sp 0 impl_knotsOf.en k (td Try.f70 5) (impl_knotsOf.s5 x19 x20 x21 h64_0 h65) = (impl_knotsOf.c5 k x19 x20 x21 h64_0 h65).map impl_knotsOf.e)
  | 0 => fun _ _ _ _ _ => rfl
  | k + 1 => by
    have ih := impl_knotsOf.ok k
    have i5 := ih
    intro x19 x20 x21 h64_0 h65; rw [impl_knotsOf.c5]; exact (impl_knotsOf.t5 _ k x19 x20 x21 h64_0 h65).trans (cd (cd (cd (bn (fun t2 => (cb (bn (fun t3 => (nb (cd (i5 _ _ _ _ _) rfl) (i5 _ _ _ _ _)))) (i5 _ _ _ _ _)))) rfl) rfl) rfl)
set_option maxRecDepth 100000 in
theorem impl_knotsOf.oke (k : Nat) (a0_0 : List S88) (a1 : Int) : goF Try.f70 impl_knotsOf.ctx impl_knotsOf.sp 0 impl_knotsOf.en (k + 1) [.code (body Try.f70)] (startSt [.ag [.row 0 .t88 a0_0], .sc (.int .i64 a1)] []) = (impl_knotsOf.f k a0_0 a1).map impl_knotsOf.e := by
  have i5 := impl_knotsOf.ok k
  rw [impl_knotsOf.f]; exact (impl_knotsOf.te _ k a0_0 a1).trans (bn (fun t1 => (nb rfl (cd (cd (i5 _ _ _ _ _) rfl) rfl))))
theorem impl_knotsOf.con (k : Nat) (a0_0 : List S88) (a1 : Int) (r) (h : impl_knotsOf.f k a0_0 a1 = some r) : Contract Try.prog kit 70 [.ag [.row 0 .t88 a0_0], .sc (.int .i64 a1)] [] (impl_knotsOf.e r).1 (impl_knotsOf.e r).2.1 (impl_knotsOf.e r).2.2 :=
  con_okG kitOk mix (fun k => (CtxOk.cons (impl_in.xok k) (CtxOk.cons (impl_isRoot.xok k) (CtxOk.cons (impl_hasInt.xok k) CtxOk.nil)))) (impl_knotsOf.oke k a0_0 a1) h (by kernel_rfl) (by kernel_rfl) (by kernel_rfl) rfl (by kernel_rfl) rfl rfl
noncomputable def impl_knotsOf.x (k : Nat) : X := fun ins bs κ => match ins, bs with
  | [.ag [.row 0 .t88 a0_0], .sc (.int .i64 a1)], [] => (impl_knotsOf.f k a0_0 a1).bind fun r => κ (impl_knotsOf.e r).1 (impl_knotsOf.e r).2.1 (impl_knotsOf.e r).2.2
  | _, _ => none
theorem impl_knotsOf.xok (k : Nat) : XOk 70 (impl_knotsOf.x k) := by
  intro ins bs κ res h
  unfold impl_knotsOf.x at h
  split at h
  · obtain ⟨r, hr, h⟩ := Option.bind_eq_some_iff.1 h
    exact ⟨_, _, _, impl_knotsOf.con k _ _ r hr, h⟩
  · cases h

/-! ### impl_StoreOk: function 26 -/
noncomputable def impl_StoreOk.sp : Nat → Option (Spec Ty) := fun r => bif Nat.beq r 5 then some ⟨[(1, .box [.keep, .keep, .keep]), (3, .own .t3), (27, .keep), (28, .keep), (29, .keep)], []⟩ else bif Nat.beq r 12 then some ⟨[(1, .box [.keep, .keep, .keep]), (3, .own .t3), (77, .keep), (78, .keep), (79, .keep)], []⟩ else bif Nat.beq r 17 then some ⟨[(1, .box [.keep, .keep, .keep]), (3, .own .t3), (7, .box [.keep, .keep]), (77, .keep), (78, .keep), (79, .keep), (89, .keep), (90, .keep), (91, .keep)], []⟩ else none
noncomputable def impl_StoreOk.en : Option (Spec Ty) := none
noncomputable def impl_StoreOk.s5 (x27 : List S53) (x28 : Int) (x29 : Int) (h64_0 : List S53) (h64_1 : List S88) (h64_2 : Int) (h65 : List Int) : St Ty D := ⟨(Env.put (Env.put (Env.put (Env.put (Env.put E (some 1) (.pt 64 0 0)) (some 3) (.sl 65 none)) (some 27) (.row 0 .t53 x27)) (some 28) (.sc (.int .i64 x28))) (some 29) (.sc (.int .i64 x29))), Heap.put H0 [(64, some (.box [.row 0 .t53 h64_0, .row 0 .t88 h64_1, .sc (.int .i64 h64_2)])), (65, some (.rowb .t3 h65 0))], 1000⟩
noncomputable def impl_StoreOk.s12 (x77 : List S88) (x78 : Int) (x79 : Int) (h64_0 : List S53) (h64_1 : List S88) (h64_2 : Int) (h65 : List Int) : St Ty D := ⟨(Env.put (Env.put (Env.put (Env.put (Env.put E (some 1) (.pt 64 0 0)) (some 3) (.sl 65 none)) (some 77) (.row 0 .t88 x77)) (some 78) (.sc (.int .i64 x78))) (some 79) (.sc (.int .i64 x79))), Heap.put H0 [(64, some (.box [.row 0 .t53 h64_0, .row 0 .t88 h64_1, .sc (.int .i64 h64_2)])), (65, some (.rowb .t3 h65 0))], 1000⟩
noncomputable def impl_StoreOk.s17 (x77 : List S88) (x78 : Int) (x79 : Int) (x89 : List Int) (x90 : Int) (x91 : Int) (h64_0 : List S53) (h64_1 : List S88) (h64_2 : Int) (h65 : List Int) (h66_0 : Bool) (h66_1 : List Int) : St Ty D := ⟨(Env.put (Env.put (Env.put (Env.put (Env.put (Env.put (Env.put (Env.put (Env.put E (some 1) (.pt 64 0 0)) (some 3) (.sl 65 none)) (some 7) (.pt 66 0 0)) (some 77) (.row 0 .t88 x77)) (some 78) (.sc (.int .i64 x78))) (some 79) (.sc (.int .i64 x79))) (some 89) (.row 0 .t3 x89)) (some 90) (.sc (.int .i64 x90))) (some 91) (.sc (.int .i64 x91))), Heap.put H0 [(64, some (.box [.row 0 .t53 h64_0, .row 0 .t88 h64_1, .sc (.int .i64 h64_2)])), (65, some (.rowb .t3 h65 0)), (66, some (.box [.sc (.bool h66_0), .row 0 .t3 h66_1]))], 1000⟩
noncomputable def impl_StoreOk.ctx (k : Nat) : Ctx Ty D := (cons 67 (impl_ArenaOk.x k) (cons 68 (impl_in.x k) (cons 69 (impl_isRoot.x k) (cons 70 (impl_knotsOf.x k) (cons 71 (impl_hasInt.x k) (fun _ _ _ _ => none))))))
mutual
noncomputable def impl_StoreOk.c5 : Nat → (List S53) → Int → Int → (List S53) → (List S88) → Int → (List Int) → Option (Bool)
  | 0, _, _, _, _, _, _, _ => none
  | k + 1, x27, x28, x29, h64_0, h64_1, h64_2, h65 => (if x29 < x28 then (if 0 ≤ x29 then (if x29 < (x27.length : Int) then ((impl_in.f k ((rd_T53 x27 x29).f0) 1 9).bind fun t3 => (if t3 = true then (if x29 > 0 then (if 0 ≤ (w64 (x29 - 1)) then (if (w64 (x29 - 1)) < (h64_0.length : Int) then (if ((rd_T53 h64_0 (w64 (x29 - 1))).f0) ≥ ((rd_T53 x27 x29).f0) then (some (false)) else (if ((rd_T53 x27 x29).f1) = (-1) then ((impl_knotsOf.f k h64_1 ((rd_T53 x27 x29).f1)).bind fun t6 => (if h65.length + t6.length ≤ 17592186044416 then (impl_StoreOk.c5 k x27 x28 (w64 (x29 + 1)) h64_0 h64_1 h64_2 (h65 ++ t6)) else none)) else ((impl_isRoot.f k h64_1 ((rd_T53 x27 x29).f1)).bind fun t4 => (if t4 = true then ((impl_knotsOf.f k h64_1 ((rd_T53 x27 x29).f1)).bind fun t5 => (if h65.length + t5.length ≤ 17592186044416 then (impl_StoreOk.c5 k x27 x28 (w64 (x29 + 1)) h64_0 h64_1 h64_2 (h65 ++ t5)) else none)) else (some (false)))))) else none) else none) else (if ((rd_T53 x27 x29).f1) = (-1) then ((impl_knotsOf.f k h64_1 ((rd_T53 x27 x29).f1)).bind fun t9 => (if h65.length + t9.length ≤ 17592186044416 then (impl_StoreOk.c5 k x27 x28 (w64 (x29 + 1)) h64_0 h64_1 h64_2 (h65 ++ t9)) else none)) else ((impl_isRoot.f k h64_1 ((rd_T53 x27 x29).f1)).bind fun t7 => (if t7 = true then ((impl_knotsOf.f k h64_1 ((rd_T53 x27 x29).f1)).bind fun t8 => (if h65.length + t8.length ≤ 17592186044416 then (impl_StoreOk.c5 k x27 x28 (w64 (x29 + 1)) h64_0 h64_1 h64_2 (h65 ++ t8)) else none)) else (some (false)))))) else (some (false)))) else none) else none) else (impl_StoreOk.c12 k h64_1 (h64_1.length : Int) 0 h64_0 h64_1 h64_2 h65))
noncomputable def impl_StoreOk.c12 : Nat → (List S88) → Int → Int → (List S53) → (List S88) → Int → (List Int) → Option (Bool)
  | 0, _, _, _, _, _, _, _ => none
  | k + 1, x77, x78, x79, h64_0, h64_1, h64_2, h65 => (if x79 < x78 then (if 0 ≤ x79 then (if x79 < (x77.length : Int) then ((impl_hasInt.f k h65 x79).bind fun t10 => (if t10 = true then (impl_StoreOk.c17 k x77 x78 x79 ((rd_T88 x77 x79).f1) (((rd_T88 x77 x79).f1).length : Int) 0 h64_0 h64_1 h64_2 h65 ((rd_T88 x77 x79).f0) ((rd_T88 x77 x79).f1)) else (some (false)))) else none) else none) else (some (true)))
noncomputable def impl_StoreOk.c17 : Nat → (List S88) → Int → Int → (List Int) → Int → Int → (List S53) → (List S88) → Int → (List Int) → Bool → (List Int) → Option (Bool)
  | 0, _, _, _, _, _, _, _, _, _, _, _, _ => none
  | k + 1, x77, x78, x79, x89, x90, x91, h64_0, h64_1, h64_2, h65, h66_0, h66_1 => (if x91 < x90 then (if 0 ≤ x91 then (if x91 < (x89.length : Int) then (if h66_0 = true then (if (rd_T3 x89 x91) ≥ h64_2 then (some (false)) else (impl_StoreOk.c17 k x77 x78 x79 x89 x90 (w64 (x91 + 1)) h64_0 h64_1 h64_2 h65 h66_0 h66_1)) else (impl_StoreOk.c17 k x77 x78 x79 x89 x90 (w64 (x91 + 1)) h64_0 h64_1 h64_2 h65 h66_0 h66_1)) else none) else none) else (impl_StoreOk.c12 k x77 x78 (w64 (x79 + 1)) h64_0 h64_1 h64_2 h65))
end
noncomputable def impl_StoreOk.f (k : Nat) (a0_0 : List S53) (a0_1 : List S88) (a0_2 : Int) : Option (Bool) := (if (a0_0.length : Int) > 3 then (some (false)) else ((impl_ArenaOk.f k a0_1).bind fun t1 => (if t1 = true then ((impl_in.f k a0_2 1 1000000000).bind fun t2 => (if t2 = true then (impl_StoreOk.c5 k a0_0 (a0_0.length : Int) 0 a0_0 a0_1 a0_2 ([] : List Int)) else (some (false)))) else (some (false)))))
noncomputable def impl_StoreOk.e (r : Bool) : Res Ty D := (.sc (.bool r), [], [])
noncomputable abbrev impl_StoreOk.g (rec : List Item → St Ty D → R) (k : Nat) := go1 Try.f26 (impl_StoreOk.ctx k) impl_StoreOk.sp 0 impl_StoreOk.en rec
set_option maxRecDepth 100000 in
theorem impl_StoreOk.t5 (rec : List Item → St Ty D → R) (k : Nat) (x27 : List S53) (x28 : Int) (x29 : Int) (h64_0 : List S53) (h64_1 : List S88) (h64_2 : Int) (h65 : List Int) : impl_StoreOk.g rec k (td Try.f26 5) (impl_StoreOk.s5 x27 x28 x29 h64_0 h64_1 h64_2 h65) =
  bif decide (x29 < x28) then bif decide (0 ≤ x29) then bif decide (x29 < (x27.length : Int)) then (impl_in.f k ((rd_T53 x27 x29).f0) 1 9).bind fun t3 => bif !t3 then some (impl_StoreOk.e (false)) else bif decide (x29 > 0) then bif decide (0 ≤ (w64 (x29 - 1))) then bif decide ((w64 (x29 - 1)) < (h64_0.length : Int)) then bif decide (((rd_T53 h64_0 (w64 (x29 - 1))).f0) ≥ ((rd_T53 x27 x29).f0)) then some (impl_StoreOk.e (false)) else bif !decide (((rd_T53 x27 x29).f1) = (-1)) then (impl_isRoot.f k h64_1 ((rd_T53 x27 x29).f1)).bind fun t4 => bif !t4 then some (impl_StoreOk.e (false)) else (impl_knotsOf.f k h64_1 ((rd_T53 x27 x29).f1)).bind fun t5 => bif decide (h65.length + t5.length ≤ 17592186044416) then rec (td Try.f26 5) (impl_StoreOk.s5 x27 x28 (w64 (x29 + 1)) h64_0 h64_1 h64_2 (h65 ++ t5)) else none else (impl_knotsOf.f k h64_1 ((rd_T53 x27 x29).f1)).bind fun t6 => bif decide (h65.length + t6.length ≤ 17592186044416) then rec (td Try.f26 5) (impl_StoreOk.s5 x27 x28 (w64 (x29 + 1)) h64_0 h64_1 h64_2 (h65 ++ t6)) else none else none else none else bif !decide (((rd_T53 x27 x29).f1) = (-1)) then (impl_isRoot.f k h64_1 ((rd_T53 x27 x29).f1)).bind fun t7 => bif !t7 then some (impl_StoreOk.e (false)) else (impl_knotsOf.f k h64_1 ((rd_T53 x27 x29).f1)).bind fun t8 => bif decide (h65.length + t8.length ≤ 17592186044416) then rec (td Try.f26 5) (impl_StoreOk.s5 x27 x28 (w64 (x29 + 1)) h64_0 h64_1 h64_2 (h65 ++ t8)) else none else (impl_knotsOf.f k h64_1 ((rd_T53 x27 x29).f1)).bind fun t9 => bif decide (h65.length + t9.length ≤ 17592186044416) then rec (td Try.f26 5) (impl_StoreOk.s5 x27 x28 (w64 (x29 + 1)) h64_0 h64_1 h64_2 (h65 ++ t9)) else none else none else none else rec (td Try.f26 12) (impl_StoreOk.s12 h64_1 (h64_1.length : Int) 0 h64_0 h64_1 h64_2 h65) := by kernel_rfl
set_option maxRecDepth 100000 in
theorem impl_StoreOk.t12 (rec : List Item → St Ty D → R) (k : Nat) (x77 : List S88) (x78 : Int) (x79 : Int) (h64_0 : List S53) (h64_1 : List S88) (h64_2 : Int) (h65 : List Int) : impl_StoreOk.g rec k (td Try.f26 12) (impl_StoreOk.s12 x77 x78 x79 h64_0 h64_1 h64_2 h65) =
  bif decide (x79 < x78) then bif decide (0 ≤ x79) then bif decide (x79 < (x77.length : Int)) then (impl_hasInt.f k h65 x79).bind fun t10 => bif !t10 then some (impl_StoreOk.e (false)) else rec (td Try.f26 17) (impl_StoreOk.s17 x77 x78 x79 ((rd_T88 x77 x79).f1) (((rd_T88 x77 x79).f1).length : Int) 0 h64_0 h64_1 h64_2 h65 ((rd_T88 x77 x79).f0) ((rd_T88 x77 x79).f1)) else none else none else some (impl_StoreOk.e (true)) := by kernel_rfl
set_option maxRecDepth 100000 in
theorem impl_StoreOk.t17 (rec : List Item → St Ty D → R) (k : Nat) (x77 : List S88) (x78 : Int) (x79 : Int) (x89 : List Int) (x90 : Int) (x91 : Int) (h64_0 : List S53) (h64_1 : List S88) (h64_2 : Int) (h65 : List Int) (h66_0 : Bool) (h66_1 : List Int) : impl_StoreOk.g rec k (td Try.f26 17) (impl_StoreOk.s17 x77 x78 x79 x89 x90 x91 h64_0 h64_1 h64_2 h65 h66_0 h66_1) =
  bif decide (x91 < x90) then bif decide (0 ≤ x91) then bif decide (x91 < (x89.length : Int)) then bif h66_0 then bif decide ((rd_T3 x89 x91) ≥ h64_2) then some (impl_StoreOk.e (false)) else rec (td Try.f26 17) (impl_StoreOk.s17 x77 x78 x79 x89 x90 (w64 (x91 + 1)) h64_0 h64_1 h64_2 h65 h66_0 h66_1) else rec (td Try.f26 17) (impl_StoreOk.s17 x77 x78 x79 x89 x90 (w64 (x91 + 1)) h64_0 h64_1 h64_2 h65 h66_0 h66_1) else none else none else rec (td Try.f26 12) (impl_StoreOk.s12 x77 x78 (w64 (x79 + 1)) h64_0 h64_1 h64_2 h65) := by kernel_rfl
set_option maxRecDepth 100000 in
theorem impl_StoreOk.te (rec : List Item → St Ty D → R) (k : Nat) (a0_0 : List S53) (a0_1 : List S88) (a0_2 : Int) : impl_StoreOk.g rec k [.code (body Try.f26)] (startSt [.ag [.row 0 .t53 a0_0, .row 0 .t88 a0_1, .sc (.int .i64 a0_2)]] []) =
  bif decide ((a0_0.length : Int) > 3) then some (impl_StoreOk.e (false)) else (impl_ArenaOk.f k a0_1).bind fun t1 => bif !t1 then some (impl_StoreOk.e (false)) else (impl_in.f k a0_2 1 1000000000).bind fun t2 => bif !t2 then some (impl_StoreOk.e (false)) else rec (td Try.f26 5) (impl_StoreOk.s5 a0_0 (a0_0.length : Int) 0 a0_0 a0_1 a0_2 ([] : List Int)) := by kernel_rfl
set_option maxRecDepth 100000 in
theorem impl_StoreOk.ok : ∀ k : Nat, (∀ (x27 : List S53) (x28 : Int) (x29 : Int) (h64_0 : List S53) (h64_1 : List S88) (h64_2 : Int) (h65 : List Int), goF Try.f26 impl_StoreOk.ctx impl_StoreOk.sp 0 impl_StoreOk.en k (td Try.f26 5) (impl_StoreOk.s5 x27 x28 x29 h64_0 h64_1 h64_2 h65) = (impl_StoreOk.c5 k x27 x28 x29 h64_0 h64_1 h64_2 h65).map impl_StoreOk.e) ∧ (∀ (x77 : List S88) (x78 : Int) (x79 : Int) (h64_0 : List S53) (h64_1 : List S88) (h64_2 : Int) (h65 : List Int), goF Try.f26 impl_StoreOk.ctx impl_StoreOk.sp 0 impl_StoreOk.en k (td Try.f26 12) (impl_StoreOk.s12 x77 x78 x79 h64_0 h64_1 h64_2 h65) = (impl_StoreOk.c12 k x77 x78 x79 h64_0 h64_1 h64_2 h65).map impl_StoreOk.e) ∧ (∀ (x77 : List S88) (x78 : Int) (x79 : Int) (x89 : List Int) (x90 : Int) (x91 : Int) (h64_0 : List S53) (h64_1 : List S88) (h64_2 : Int) (h65 : List Int) (h66_0 : Bool) (h66_1 : List Int), goF Try.f26 impl_StoreOk.ctx impl_StoreOk.sp 0 impl_StoreOk.en k (td Try.f26 17) (impl_StoreOk.s17 x77 x78 x79 x89 x90 x91 h64_0 h64_1 h64_2 h65 h66_0 h66_1) = (impl_StoreOk.c17 k x77 x78 x79 x89 x90 x91 h64_0 h64_1 h64_2 h65 h66_0 h66_1).map impl_StoreOk.e)
  | 0 => ⟨fun _ _ _ _ _ _ _ => rfl, fun _ _ _ _ _ _ _ => rfl, fun _ _ _ _ _ _ _ _ _ _ _ _ => rfl⟩
  | k + 1 => by
    have ih := impl_StoreOk.ok k
    obtain ⟨i5, i12, i17⟩ := ih
    refine ⟨?_, ?_, ?_⟩
    · intro x27 x28 x29 h64_0 h64_1 h64_2 h65; rw [impl_StoreOk.c5]; exact (impl_StoreOk.t5 _ k x27 x28 x29 h64_0 h64_1 h64_2 h65).trans (cd (cd (cd (bn (fun t3 => (nb rfl (cd (cd (cd (cd rfl (nd (bn (fun t4 => (nb rfl (bn (fun t5 => (cd (i5 _ _ _ _ _ _ _) rfl)))))) (bn (fun t6 => (cd (i5 _ _ _ _ _ _ _) rfl))))) rfl) rfl) (nd (bn (fun t7 => (nb rfl (bn (fun t8 => (cd (i5 _ _ _ _ _ _ _) rfl)))))) (bn (fun t9 => (cd (i5 _ _ _ _ _ _ _) rfl)))))))) rfl) rfl) (i12 _ _ _ _ _ _ _))
    · intro x77 x78 x79 h64_0 h64_1 h64_2 h65; rw [impl_StoreOk.c12]; exact (impl_StoreOk.t12 _ k x77 x78 x79 h64_0 h64_1 h64_2 h65).trans (cd (cd (cd (bn (fun t10 => (nb rfl (i17 _ _ _ _ _ _ _ _ _ _ _ _)))) rfl) rfl) rfl)
    · intro x77 x78 x79 x89 x90 x91 h64_0 h64_1 h64_2 h65 h66_0 h66_1; rw [impl_StoreOk.c17]; exact (impl_StoreOk.t17 _ k x77 x78 x79 x89 x90 x91 h64_0 h64_1 h64_2 h65 h66_0 h66_1).trans (cd (cd (cd (cb (cd rfl (i17 _ _ _ _ _ _ _ _ _ _ _ _)) (i17 _ _ _ _ _ _ _ _ _ _ _ _)) rfl) rfl) (i12 _ _ _ _ _ _ _))
set_option maxRecDepth 100000 in
theorem impl_StoreOk.oke (k : Nat) (a0_0 : List S53) (a0_1 : List S88) (a0_2 : Int) : goF Try.f26 impl_StoreOk.ctx impl_StoreOk.sp 0 impl_StoreOk.en (k + 1) [.code (body Try.f26)] (startSt [.ag [.row 0 .t53 a0_0, .row 0 .t88 a0_1, .sc (.int .i64 a0_2)]] []) = (impl_StoreOk.f k a0_0 a0_1 a0_2).map impl_StoreOk.e := by
  obtain ⟨i5, i12, i17⟩ := impl_StoreOk.ok k
  rw [impl_StoreOk.f]; exact (impl_StoreOk.te _ k a0_0 a0_1 a0_2).trans (cd rfl (bn (fun t1 => (nb rfl (bn (fun t2 => (nb rfl (i5 _ _ _ _ _ _ _))))))))
theorem impl_StoreOk.con (k : Nat) (a0_0 : List S53) (a0_1 : List S88) (a0_2 : Int) (r) (h : impl_StoreOk.f k a0_0 a0_1 a0_2 = some r) : Contract Try.prog kit 26 [.ag [.row 0 .t53 a0_0, .row 0 .t88 a0_1, .sc (.int .i64 a0_2)]] [] (impl_StoreOk.e r).1 (impl_StoreOk.e r).2.1 (impl_StoreOk.e r).2.2 :=
  con_okG kitOk mix (fun k => (CtxOk.cons (impl_ArenaOk.xok k) (CtxOk.cons (impl_in.xok k) (CtxOk.cons (impl_isRoot.xok k) (CtxOk.cons (impl_knotsOf.xok k) (CtxOk.cons (impl_hasInt.xok k) CtxOk.nil)))))) (impl_StoreOk.oke k a0_0 a0_1 a0_2) h (by kernel_rfl) (by kernel_rfl) (by kernel_rfl) rfl (by kernel_rfl) rfl rfl
noncomputable def impl_StoreOk.x (k : Nat) : X := fun ins bs κ => match ins, bs with
  | [.ag [.row 0 .t53 a0_0, .row 0 .t88 a0_1, .sc (.int .i64 a0_2)]], [] => (impl_StoreOk.f k a0_0 a0_1 a0_2).bind fun r => κ (impl_StoreOk.e r).1 (impl_StoreOk.e r).2.1 (impl_StoreOk.e r).2.2
  | _, _ => none
theorem impl_StoreOk.xok (k : Nat) : XOk 26 (impl_StoreOk.x k) := by
  intro ins bs κ res h
  unfold impl_StoreOk.x at h
  split at h
  · obtain ⟨r, hr, h⟩ := Option.bind_eq_some_iff.1 h
    exact ⟨_, _, _, impl_StoreOk.con k _ _ _ r hr, h⟩
  · cases h
end Go.Proofs.Yteideicglgpfiaa.M2
