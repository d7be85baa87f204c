/- FnRefs: functions of the translation as Lean functions with what their calls come to, plain lemmas on them, and, at the end, the row. Parts of one proof, merged by a program of this session; each part's own sentence stands at its head. -/
import Derived.IntWalk
import Derived.KernelRfl
import Derived.Test.YteideicglgpfiaaMFnRefsc
/- Plain runs of functions: each is a plain Lean function, and keeps its contract. Written by a program of this session. -/
namespace Go.Proofs.Yteideicglgpfiaa.M2
open Go Go.Proofs.Yteideicglgpfiaa.PK
set_option linter.unusedVariables false
set_option linter.unusedSimpArgs false
set_option maxHeartbeats 4000000
/-! ### spec_RefsOf: function 21 -/
noncomputable def spec_RefsOf.sp : Nat → Option (Spec Ty) := fun r => bif Nat.beq r 3 then some ⟨[(1, .keep), (2, .box [.keep, .keep, .keep]), (5, .keep), (6, .keep)], []⟩ else bif Nat.beq r 7 then some ⟨[(1, .keep), (2, .box [.keep, .keep, .keep]), (5, .keep), (6, .keep), (7, .own .t3), (8, .keep), (15, .keep), (16, .keep)], []⟩ else none
noncomputable def spec_RefsOf.en : Option (Spec Ty) := none
noncomputable def spec_RefsOf.s3 (x1 : Int) (x5 : Int) (x6 : Int) (h64_0 : List S53) (h64_1 : List S88) (h64_2 : Int) : St Ty D := ⟨(Env.put (Env.put (Env.put (Env.put E (some 1) (.sc (.int .i64 x1))) (some 2) (.pt 64 0 0)) (some 5) (.sc (.int .i64 x5))) (some 6) (.sc (.int .i64 x6))), Heap.put H0 [(64, some (.box [.row 0 .t53 h64_0, .row 0 .t88 h64_1, .sc (.int .i64 h64_2)]))], 1000⟩
noncomputable def spec_RefsOf.s7 (x1 : Int) (x5 : Int) (x6 : Int) (x8 : Int) (x15 : Int) (x16 : Bool) (h64_0 : List S53) (h64_1 : List S88) (h64_2 : Int) (h65 : List Int) : St Ty D := ⟨(Env.put (Env.put (Env.put (Env.put (Env.put (Env.put (Env.put (Env.put E (some 1) (.sc (.int .i64 x1))) (some 2) (.pt 64 0 0)) (some 5) (.sc (.int .i64 x5))) (some 6) (.sc (.int .i64 x6))) (some 7) (.sl 65 none)) (some 8) (.sc (.int .i64 x8))) (some 15) (.sc (.int .i64 x15))) (some 16) (.sc (.bool x16))), Heap.put H0 [(64, some (.box [.row 0 .t53 h64_0, .row 0 .t88 h64_1, .sc (.int .i64 h64_2)])), (65, some (.rowb .t3 h65 0))], 1000⟩
noncomputable def spec_RefsOf.ctx (k : Nat) : Ctx Ty D := (cons 62 (spec_AllAt.x k) (fun _ _ _ _ => none))
mutual
noncomputable def spec_RefsOf.c3 : Nat → Int → Int → Int → (List S53) → (List S88) → Int → Option (Int)
  | 0, _, _, _, _, _, _ => none
  | k + 1, x1, x5, x6, h64_0, h64_1, h64_2 => (if x6 < (h64_0.length : Int) then (if x1 > 0 then (if 0 ≤ x6 then (if x6 < (h64_0.length : Int) then ((spec_AllAt.f k h64_1 ((rd_T53 h64_0 x6).f1)).bind fun t1 => (spec_RefsOf.c7 k x1 x5 x6 0 x1 (decide (x1 > 0)) h64_0 h64_1 h64_2 t1)) else none) else none) else (some (x5))) else (some (x5)))
noncomputable def spec_RefsOf.c7 : Nat → Int → Int → Int → Int → Int → Bool → (List S53) → (List S88) → Int → (List Int) → Option (Int)
  | 0, _, _, _, _, _, _, _, _, _, _ => none
  | k + 1, x1, x5, x6, x8, x15, x16, h64_0, h64_1, h64_2, h65 => (if x8 < (h65.length : Int) then (if 0 ≤ x8 then (if x8 < (h65.length : Int) then (if (rd_T3 h65 x8) = x1 then (spec_RefsOf.c7 k x1 (w64 (x5 + 1)) x6 (w64 (x8 + 1)) x15 x16 h64_0 h64_1 h64_2 h65) else (spec_RefsOf.c7 k x1 x5 x6 (w64 (x8 + 1)) x15 x16 h64_0 h64_1 h64_2 h65)) else none) else none) else (spec_RefsOf.c3 k x1 x5 (w64 (x6 + 1)) h64_0 h64_1 h64_2))
end
noncomputable def spec_RefsOf.f (k : Nat) (a0_0 : List S53) (a0_1 : List S88) (a0_2 : Int) (a1 : Int) : Option (Int) := (spec_RefsOf.c3 k a1 0 0 a0_0 a0_1 a0_2)
noncomputable def spec_RefsOf.e (r : Int) : Res Ty D := (.sc (.int .i64 r), [], [])
noncomputable abbrev spec_RefsOf.g (rec : List Item → St Ty D → R) (k : Nat) := go1 Try.f21 (spec_RefsOf.ctx k) spec_RefsOf.sp 0 spec_RefsOf.en rec
set_option maxRecDepth 100000 in
theorem spec_RefsOf.t3 (rec : List Item → St Ty D → R) (k : Nat) (x1 : Int) (x5 : Int) (x6 : Int) (h64_0 : List S53) (h64_1 : List S88) (h64_2 : Int) : spec_RefsOf.g rec k (td Try.f21 3) (spec_RefsOf.s3 x1 x5 x6 h64_0 h64_1 h64_2) =
  bif decide (x6 < (h64_0.length : Int)) then bif decide (x1 > 0) then bif decide (0 ≤ x6) then bif decide (x6 < (h64_0.length : Int)) then (spec_AllAt.f k h64_1 ((rd_T53 h64_0 x6).f1)).bind fun t1 => rec (td Try.f21 7) (spec_RefsOf.s7 x1 x5 x6 0 x1 (decide (x1 > 0)) h64_0 h64_1 h64_2 t1) else none else none else some (spec_RefsOf.e (x5)) else some (spec_RefsOf.e (x5)) := by kernel_rfl
set_option maxRecDepth 100000 in
theorem spec_RefsOf.t7 (rec : List Item → St Ty D → R) (k : Nat) (x1 : Int) (x5 : Int) (x6 : Int) (x8 : Int) (x15 : Int) (x16 : Bool) (h64_0 : List S53) (h64_1 : List S88) (h64_2 : Int) (h65 : List Int) : spec_RefsOf.g rec k (td Try.f21 7) (spec_RefsOf.s7 x1 x5 x6 x8 x15 x16 h64_0 h64_1 h64_2 h65) =
  bif decide (x8 < (h65.length : Int)) then bif decide (0 ≤ x8) then bif decide (x8 < (h65.length : Int)) then bif decide ((rd_T3 h65 x8) = x1) then rec (td Try.f21 7) (spec_RefsOf.s7 x1 (w64 (x5 + 1)) x6 (w64 (x8 + 1)) x15 x16 h64_0 h64_1 h64_2 h65) else rec (td Try.f21 7) (spec_RefsOf.s7 x1 x5 x6 (w64 (x8 + 1)) x15 x16 h64_0 h64_1 h64_2 h65) else none else none else rec (td Try.f21 3) (spec_RefsOf.s3 x1 x5 (w64 (x6 + 1)) h64_0 h64_1 h64_2) := by kernel_rfl
set_option maxRecDepth 100000 in
theorem spec_RefsOf.te (rec : List Item → St Ty D → R) (k : Nat) (a0_0 : List S53) (a0_1 : List S88) (a0_2 : Int) (a1 : Int) : spec_RefsOf.g rec k [.code (body Try.f21)] (startSt [.ag [.row 0 .t53 a0_0, .row 0 .t88 a0_1, .sc (.int .i64 a0_2)], .sc (.int .i64 a1)] []) =
  rec (td Try.f21 3) (spec_RefsOf.s3 a1 0 0 a0_0 a0_1 a0_2) := by kernel_rfl
set_option maxRecDepth 100000 in
theorem spec_RefsOf.ok : ∀ k : Nat, (∀ (x1 : Int) (x5 : Int) (x6 : Int) (h64_0 : List S53) (h64_1 : List S88) (h64_2 : Int), goF Try.f21 spec_RefsOf.ctx spec_RefsOf.sp 0 spec_RefsOf.en k (td Try.f21 3) (spec_RefsOf.s3 x1 x5 x6 h64_0 h64_1 h64_2) = (spec_RefsOf.c3 k x1 x5 x6 h64_0 h64_1 h64_2).map spec_RefsOf.e) ∧ (∀ (x1 : Int) (x5 : Int) (x6 : Int) (x8 : Int) (x15 : Int) (x16 : Bool) (h64_0 : List S53) (h64_1 : List S88) (h64_2 : Int) (h65 : List Int), goF Try.f21 spec_RefsOf.ctx spec_RefsOf.sp 0 spec_RefsOf.en k (td Try.f21 7) (spec_RefsOf.s7 x1 x5 x6 x8 x15 x16 h64_0 h64_1 h64_2 h65) = (spec_RefsOf.c7 k x1 x5 x6 x8 x15 x16 h64_0 h64_1 h64_2 h65).map spec_RefsOf.e)
  | 0 => ⟨fun _ _ _ _ _ _ => rfl, fun _ _ _ _ _ _ _ _ _ _ => rfl⟩
  | k + 1 => by
    have ih := spec_RefsOf.ok k
    obtain ⟨i3, i7⟩ := ih
    refine ⟨?_, ?_⟩
    · intro x1 x5 x6 h64_0 h64_1 h64_2; rw [spec_RefsOf.c3]; exact (spec_RefsOf.t3 _ k x1 x5 x6 h64_0 h64_1 h64_2).trans (cd (cd (cd (cd (bn (fun t1 => (i7 _ _ _ _ _ _ _ _ _ _))) rfl) rfl) rfl) rfl)
    · intro x1 x5 x6 x8 x15 x16 h64_0 h64_1 h64_2 h65; rw [spec_RefsOf.c7]; exact (spec_RefsOf.t7 _ k x1 x5 x6 x8 x15 x16 h64_0 h64_1 h64_2 h65).trans (cd (cd (cd (cd (i7 _ _ _ _ _ _ _ _ _ _) (i7 _ _ _ _ _ _ _ _ _ _)) rfl) rfl) (i3 _ _ _ _ _ _))
set_option maxRecDepth 100000 in
theorem spec_RefsOf.oke (k : Nat) (a0_0 : List S53) (a0_1 : List S88) (a0_2 : Int) (a1 : Int) : goF Try.f21 spec_RefsOf.ctx spec_RefsOf.sp 0 spec_RefsOf.en (k + 1) [.code (body Try.f21)] (startSt [.ag [.row 0 .t53 a0_0, .row 0 .t88 a0_1, .sc (.int .i64 a0_2)], .sc (.int .i64 a1)] []) = (spec_RefsOf.f k a0_0 a0_1 a0_2 a1).map spec_RefsOf.e := by
  obtain ⟨i3, i7⟩ := spec_RefsOf.ok k
  rw [spec_RefsOf.f]; exact (spec_RefsOf.te _ k a0_0 a0_1 a0_2 a1).trans (i3 _ _ _ _ _ _)
theorem spec_RefsOf.con (k : Nat) (a0_0 : List S53) (a0_1 : List S88) (a0_2 : Int) (a1 : Int) (r) (h : spec_RefsOf.f k a0_0 a0_1 a0_2 a1 = some r) : Contract Try.prog kit 21 [.ag [.row 0 .t53 a0_0, .row 0 .t88 a0_1, .sc (.int .i64 a0_2)], .sc (.int .i64 a1)] [] (spec_RefsOf.e r).1 (spec_RefsOf.e r).2.1 (spec_RefsOf.e r).2.2 :=
  con_okG kitOk mix (fun k => (CtxOk.cons (spec_AllAt.xok k) CtxOk.nil)) (spec_RefsOf.oke k a0_0 a0_1 a0_2 a1) h (by kernel_rfl) (by kernel_rfl) (by kernel_rfl) rfl (by kernel_rfl) rfl rfl
noncomputable def spec_RefsOf.x (k : Nat) : X := fun ins bs κ => match ins, bs with
  | [.ag [.row 0 .t53 a0_0, .row 0 .t88 a0_1, .sc (.int .i64 a0_2)], .sc (.int .i64 a1)], [] => (spec_RefsOf.f k a0_0 a0_1 a0_2 a1).bind fun r => κ (spec_RefsOf.e r).1 (spec_RefsOf.e r).2.1 (spec_RefsOf.e r).2.2
  | _, _ => none
theorem spec_RefsOf.xok (k : Nat) : XOk 21 (spec_RefsOf.x k) := by
  intro ins bs κ res h
  unfold spec_RefsOf.x at h
  split at h
  · obtain ⟨r, hr, h⟩ := Option.bind_eq_some_iff.1 h
    exact ⟨_, _, _, spec_RefsOf.con k _ _ _ _ r hr, h⟩
  · cases h

/-! ### impl_volAt: function 63 -/
noncomputable def impl_volAt.sp : Nat → Option (Spec Ty) := fun r => bif Nat.beq r 2 then some ⟨[(1, .keep), (8, .keep), (9, .keep), (10, .keep)], []⟩ else none
noncomputable def impl_volAt.en : Option (Spec Ty) := none
noncomputable def impl_volAt.s2 (x1 : Int) (x8 : List S53) (x9 : Int) (x10 : Int) : St Ty D := ⟨(Env.put (Env.put (Env.put (Env.put E (some 1) (.sc (.int .i64 x1))) (some 8) (.row 0 .t53 x8)) (some 9) (.sc (.int .i64 x9))) (some 10) (.sc (.int .i64 x10))), H0, 1000⟩
noncomputable def impl_volAt.ctx (k : Nat) : Ctx Ty D := (fun _ _ _ _ => none)
noncomputable def impl_volAt.c2 : Nat → Int → (List S53) → Int → Int → Option (Int)
  | 0, _, _, _, _ => none
  | k + 1, x1, x8, x9, x10 => (if x10 < x9 then (if 0 ≤ x10 then (if x10 < (x8.length : Int) then (if ((rd_T53 x8 x10).f0) = x1 then (some (x10)) else (impl_volAt.c2 k x1 x8 x9 (w64 (x10 + 1)))) else none) else none) else (some ((-1))))
noncomputable def impl_volAt.f (k : Nat) (a0_0 : List S53) (a0_1 : List S88) (a0_2 : Int) (a1 : Int) : Option (Int) := (impl_volAt.c2 k a1 a0_0 (a0_0.length : Int) 0)
noncomputable def impl_volAt.e (r : Int) : Res Ty D := (.sc (.int .i64 r), [], [])
noncomputable abbrev impl_volAt.g (rec : List Item → St Ty D → R) (k : Nat) := go1 Try.f63 (impl_volAt.ctx k) impl_volAt.sp 0 impl_volAt.en rec
set_option maxRecDepth 100000 in
theorem impl_volAt.t2 (rec : List Item → St Ty D → R) (k : Nat) (x1 : Int) (x8 : List S53) (x9 : Int) (x10 : Int) : impl_volAt.g rec k (td Try.f63 2) (impl_volAt.s2 x1 x8 x9 x10) =
  bif decide (x10 < x9) then bif decide (0 ≤ x10) then bif decide (x10 < (x8.length : Int)) then bif decide (((rd_T53 x8 x10).f0) = x1) then some (impl_volAt.e (x10)) else rec (td Try.f63 2) (impl_volAt.s2 x1 x8 x9 (w64 (x10 + 1))) else none else none else some (impl_volAt.e ((-1))) := by kernel_rfl
set_option maxRecDepth 100000 in
theorem impl_volAt.te (rec : List Item → St Ty D → R) (k : Nat) (a0_0 : List S53) (a0_1 : List S88) (a0_2 : Int) (a1 : Int) : impl_volAt.g rec k [.code (body Try.f63)] (startSt [.ag [.row 0 .t53 a0_0, .row 0 .t88 a0_1, .sc (.int .i64 a0_2)], .sc (.int .i64 a1)] []) =
  rec (td Try.f63 2) (impl_volAt.s2 a1 a0_0 (a0_0.length : Int) 0) := by kernel_rfl
set_option maxRecDepth 100000 in
theorem impl_volAt.ok : ∀ k : Nat, (∀ (x1 : Int) (x8 : List S53) (x9 : Int) (x10 : Int), goF Try.f63 impl_volAt.ctx impl_volAt.sp 0 impl_volAt.en k (td Try.f63 2) (impl_volAt.s2 x1 x8 x9 x10) = (impl_volAt.c2 k x1 x8 x9 x10).map impl_volAt.e)
  | 0 => fun _ _ _ _ => rfl
  | k + 1 => by
    have ih := impl_volAt.ok k
    have i2 := ih
    intro x1 x8 x9 x10; rw [impl_volAt.c2]; exact (impl_volAt.t2 _ k x1 x8 x9 x10).trans (cd (cd (cd (cd rfl (i2 _ _ _ _)) rfl) rfl) rfl)
set_option maxRecDepth 100000 in
theorem impl_volAt.oke (k : Nat) (a0_0 : List S53) (a0_1 : List S88) (a0_2 : Int) (a1 : Int) : goF Try.f63 impl_volAt.ctx impl_volAt.sp 0 impl_volAt.en (k + 1) [.code (body Try.f63)] (startSt [.ag [.row 0 .t53 a0_0, .row 0 .t88 a0_1, .sc (.int .i64 a0_2)], .sc (.int .i64 a1)] []) = (impl_volAt.f k a0_0 a0_1 a0_2 a1).map impl_volAt.e := by
  have i2 := impl_volAt.ok k
  rw [impl_volAt.f]; exact (impl_volAt.te _ k a0_0 a0_1 a0_2 a1).trans (i2 _ _ _ _)
theorem impl_volAt.con (k : Nat) (a0_0 : List S53) (a0_1 : List S88) (a0_2 : Int) (a1 : Int) (r) (h : impl_volAt.f k a0_0 a0_1 a0_2 a1 = some r) : Contract Try.prog kit 63 [.ag [.row 0 .t53 a0_0, .row 0 .t88 a0_1, .sc (.int .i64 a0_2)], .sc (.int .i64 a1)] [] (impl_volAt.e r).1 (impl_volAt.e r).2.1 (impl_volAt.e r).2.2 :=
  con_okG kitOk mix (fun k => CtxOk.nil) (impl_volAt.oke k a0_0 a0_1 a0_2 a1) h (by kernel_rfl) (by kernel_rfl) (by kernel_rfl) rfl (by kernel_rfl) rfl rfl
noncomputable def impl_volAt.x (k : Nat) : X := fun ins bs κ => match ins, bs with
  | [.ag [.row 0 .t53 a0_0, .row 0 .t88 a0_1, .sc (.int .i64 a0_2)], .sc (.int .i64 a1)], [] => (impl_volAt.f k a0_0 a0_1 a0_2 a1).bind fun r => κ (impl_volAt.e r).1 (impl_volAt.e r).2.1 (impl_volAt.e r).2.2
  | _, _ => none
theorem impl_volAt.xok (k : Nat) : XOk 63 (impl_volAt.x k) := by
  intro ins bs κ res h
  unfold impl_volAt.x at h
  split at h
  · obtain ⟨r, hr, h⟩ := Option.bind_eq_some_iff.1 h
    exact ⟨_, _, _, impl_volAt.con k _ _ _ _ r hr, h⟩
  · cases h

/-! ### impl_ChunkOf: function 22 -/
noncomputable def impl_ChunkOf.sp : Nat → Option (Spec Ty) := fun r => none
noncomputable def impl_ChunkOf.en : Option (Spec Ty) := none
noncomputable def impl_ChunkOf.ctx (k : Nat) : Ctx Ty D := (cons 63 (impl_volAt.x k) (cons 64 (impl_GetAt.x k) (fun _ _ _ _ => none)))
noncomputable def impl_ChunkOf.f (k : Nat) (a0_0 : List S53) (a0_1 : List S88) (a0_2 : Int) (a1 : Int) (a2 : Int) : Option (Int) := ((impl_volAt.f k a0_0 a0_1 a0_2 a1).bind fun t1 => (if t1 < 0 then (some (0)) else (if 0 ≤ t1 then (if t1 < (a0_0.length : Int) then ((impl_GetAt.f k a0_1 ((rd_T53 a0_0 t1).f1) a2).bind fun t2 => (some (t2))) else none) else none)))
noncomputable def impl_ChunkOf.e (r : Int) : Res Ty D := (.sc (.int .i64 r), [], [])
noncomputable abbrev impl_ChunkOf.g (rec : List Item → St Ty D → R) (k : Nat) := go1 Try.f22 (impl_ChunkOf.ctx k) impl_ChunkOf.sp 0 impl_ChunkOf.en rec
set_option maxRecDepth 100000 in
theorem impl_ChunkOf.te (rec : List Item → St Ty D → R) (k : Nat) (a0_0 : List S53) (a0_1 : List S88) (a0_2 : Int) (a1 : Int) (a2 : Int) : impl_ChunkOf.g rec k [.code (body Try.f22)] (startSt [.ag [.row 0 .t53 a0_0, .row 0 .t88 a0_1, .sc (.int .i64 a0_2)], .sc (.int .i64 a1), .sc (.int .i64 a2)] []) =
  (impl_volAt.f k a0_0 a0_1 a0_2 a1).bind fun t1 => bif decide (t1 < 0) then some (impl_ChunkOf.e (0)) else bif decide (0 ≤ t1) then bif decide (t1 < (a0_0.length : Int)) then (impl_GetAt.f k a0_1 ((rd_T53 a0_0 t1).f1) a2).bind fun t2 => some (impl_ChunkOf.e (t2)) else none else none := by kernel_rfl
set_option maxRecDepth 100000 in
theorem impl_ChunkOf.oke (k : Nat) (a0_0 : List S53) (a0_1 : List S88) (a0_2 : Int) (a1 : Int) (a2 : Int) : goF Try.f22 impl_ChunkOf.ctx impl_ChunkOf.sp 0 impl_ChunkOf.en (k + 1) [.code (body Try.f22)] (startSt [.ag [.row 0 .t53 a0_0, .row 0 .t88 a0_1, .sc (.int .i64 a0_2)], .sc (.int .i64 a1), .sc (.int .i64 a2)] []) = (impl_ChunkOf.f k a0_0 a0_1 a0_2 a1 a2).map impl_ChunkOf.e := by
  rw [impl_ChunkOf.f]; exact (impl_ChunkOf.te _ k a0_0 a0_1 a0_2 a1 a2).trans (bn (fun t1 => (cd rfl (cd (cd (bn (fun t2 => rfl)) rfl) rfl))))
theorem impl_ChunkOf.con (k : Nat) (a0_0 : List S53) (a0_1 : List S88) (a0_2 : Int) (a1 : Int) (a2 : Int) (r) (h : impl_ChunkOf.f k a0_0 a0_1 a0_2 a1 a2 = some r) : Contract Try.prog kit 22 [.ag [.row 0 .t53 a0_0, .row 0 .t88 a0_1, .sc (.int .i64 a0_2)], .sc (.int .i64 a1), .sc (.int .i64 a2)] [] (impl_ChunkOf.e r).1 (impl_ChunkOf.e r).2.1 (impl_ChunkOf.e r).2.2 :=
  con_okG kitOk mix (fun k => (CtxOk.cons (impl_volAt.xok k) (CtxOk.cons (impl_GetAt.xok k) CtxOk.nil))) (impl_ChunkOf.oke k a0_0 a0_1 a0_2 a1 a2) h (by kernel_rfl) (by kernel_rfl) (by kernel_rfl) rfl (by kernel_rfl) rfl rfl
noncomputable def impl_ChunkOf.x (k : Nat) : X := fun ins bs κ => match ins, bs with
  | [.ag [.row 0 .t53 a0_0, .row 0 .t88 a0_1, .sc (.int .i64 a0_2)], .sc (.int .i64 a1), .sc (.int .i64 a2)], [] => (impl_ChunkOf.f k a0_0 a0_1 a0_2 a1 a2).bind fun r => κ (impl_ChunkOf.e r).1 (impl_ChunkOf.e r).2.1 (impl_ChunkOf.e r).2.2
  | _, _ => none
theorem impl_ChunkOf.xok (k : Nat) : XOk 22 (impl_ChunkOf.x k) := by
  intro ins bs κ res h
  unfold impl_ChunkOf.x at h
  split at h
  · obtain ⟨r, hr, h⟩ := Option.bind_eq_some_iff.1 h
    exact ⟨_, _, _, impl_ChunkOf.con k _ _ _ _ _ r hr, h⟩
  · cases h

/-! ### laws_sameInts: function 23 -/
noncomputable def laws_sameInts.sp : Nat → Option (Spec Ty) := fun r => bif Nat.beq r 4 then some ⟨[(0, .keep), (1, .keep), (5, .keep)], []⟩ else none
noncomputable def laws_sameInts.en : Option (Spec Ty) := none
noncomputable def laws_sameInts.s4 (x0 : List Int) (x1 : List Int) (x5 : Int) : St Ty D := ⟨(Env.put (Env.put (Env.put E (some 0) (.row 0 .t3 x0)) (some 1) (.row 0 .t3 x1)) (some 5) (.sc (.int .i64 x5))), H0, 1000⟩
noncomputable def laws_sameInts.ctx (k : Nat) : Ctx Ty D := (fun _ _ _ _ => none)
noncomputable def laws_sameInts.c4 : Nat → (List Int) → (List Int) → Int → Option (Bool)
  | 0, _, _, _ => none
  | k + 1, x0, x1, x5 => (if x5 < (x0.length : Int) then (if 0 ≤ x5 then (if x5 < (x0.length : Int) then (if 0 ≤ x5 then (if x5 < (x1.length : Int) then (if (rd_T3 x0 x5) = (rd_T3 x1 x5) then (laws_sameInts.c4 k x0 x1 (w64 (x5 + 1))) else (some (false))) else none) else none) else none) else none) else (some (true)))
noncomputable def laws_sameInts.f (k : Nat) (a0 : List Int) (a1 : List Int) : Option (Bool) := (if (a0.length : Int) = (a1.length : Int) then (laws_sameInts.c4 k a0 a1 0) else (some (false)))
noncomputable def laws_sameInts.e (r : Bool) : Res Ty D := (.sc (.bool r), [], [])
noncomputable abbrev laws_sameInts.g (rec : List Item → St Ty D → R) (k : Nat) := go1 Try.f23 (laws_sameInts.ctx k) laws_sameInts.sp 0 laws_sameInts.en rec
set_option maxRecDepth 100000 in
theorem laws_sameInts.t4 (rec : List Item → St Ty D → R) (k : Nat) (x0 : List Int) (x1 : List Int) (x5 : Int) : laws_sameInts.g rec k (td Try.f23 4) (laws_sameInts.s4 x0 x1 x5) =
  bif decide (x5 < (x0.length : Int)) then bif decide (0 ≤ x5) then bif decide (x5 < (x0.length : Int)) then bif decide (0 ≤ x5) then bif decide (x5 < (x1.length : Int)) then bif !decide ((rd_T3 x0 x5) = (rd_T3 x1 x5)) then some (laws_sameInts.e (false)) else rec (td Try.f23 4) (laws_sameInts.s4 x0 x1 (w64 (x5 + 1))) else none else none else none else none else some (laws_sameInts.e (true)) := by kernel_rfl
set_option maxRecDepth 100000 in
theorem laws_sameInts.te (rec : List Item → St Ty D → R) (k : Nat) (a0 : List Int) (a1 : List Int) : laws_sameInts.g rec k [.code (body Try.f23)] (startSt [.row 0 .t3 a0, .row 0 .t3 a1] []) =
  bif !decide ((a0.length : Int) = (a1.length : Int)) then some (laws_sameInts.e (false)) else rec (td Try.f23 4) (laws_sameInts.s4 a0 a1 0) := by kernel_rfl
set_option maxRecDepth 100000 in
theorem laws_sameInts.ok : ∀ k : Nat, (∀ (x0 : List Int) (x1 : List Int) (x5 : Int), goF Try.f23 laws_sameInts.ctx laws_sameInts.sp 0 laws_sameInts.en k (td Try.f23 4) (laws_sameInts.s4 x0 x1 x5) = (laws_sameInts.c4 k x0 x1 x5).map laws_sameInts.e)
  | 0 => fun _ _ _ => rfl
  | k + 1 => by
    have ih := laws_sameInts.ok k
    have i4 := ih
    intro x0 x1 x5; rw [laws_sameInts.c4]; exact (laws_sameInts.t4 _ k x0 x1 x5).trans (cd (cd (cd (cd (cd (nd rfl (i4 _ _ _)) rfl) rfl) rfl) rfl) rfl)
set_option maxRecDepth 100000 in
theorem laws_sameInts.oke (k : Nat) (a0 : List Int) (a1 : List Int) : goF Try.f23 laws_sameInts.ctx laws_sameInts.sp 0 laws_sameInts.en (k + 1) [.code (body Try.f23)] (startSt [.row 0 .t3 a0, .row 0 .t3 a1] []) = (laws_sameInts.f k a0 a1).map laws_sameInts.e := by
  have i4 := laws_sameInts.ok k
  rw [laws_sameInts.f]; exact (laws_sameInts.te _ k a0 a1).trans (nd rfl (i4 _ _ _))
theorem laws_sameInts.con (k : Nat) (a0 : List Int) (a1 : List Int) (r) (h : laws_sameInts.f k a0 a1 = some r) : Contract Try.prog kit 23 [.row 0 .t3 a0, .row 0 .t3 a1] [] (laws_sameInts.e r).1 (laws_sameInts.e r).2.1 (laws_sameInts.e r).2.2 :=
  con_okG kitOk mix (fun k => CtxOk.nil) (laws_sameInts.oke k a0 a1) h (by kernel_rfl) (by kernel_rfl) (by kernel_rfl) rfl (by kernel_rfl) rfl rfl
noncomputable def laws_sameInts.x (k : Nat) : X := fun ins bs κ => match ins, bs with
  | [.row 0 .t3 a0, .row 0 .t3 a1], [] => (laws_sameInts.f k a0 a1).bind fun r => κ (laws_sameInts.e r).1 (laws_sameInts.e r).2.1 (laws_sameInts.e r).2.2
  | _, _ => none
theorem laws_sameInts.xok (k : Nat) : XOk 23 (laws_sameInts.x k) := by
  intro ins bs κ res h
  unfold laws_sameInts.x at h
  split at h
  · obtain ⟨r, hr, h⟩ := Option.bind_eq_some_iff.1 h
    exact ⟨_, _, _, laws_sameInts.con k _ _ r hr, h⟩
  · cases h

/-! ### spec_l12Insert: function 65 -/
noncomputable def spec_l12Insert.sp : Nat → Option (Spec Ty) := fun r => bif Nat.beq r 3 then some ⟨[(0, .keep), (1, .keep), (5, .own .t3), (6, .keep)], []⟩ else bif Nat.beq r 10 then some ⟨[(0, .keep), (1, .keep), (5, .own .t3), (7, .keep)], []⟩ else none
noncomputable def spec_l12Insert.en : Option (Spec Ty) := some ⟨[(4, .own .t3)], []⟩
noncomputable def spec_l12Insert.s3 (x0 : List Int) (x1 : Int) (x6 : Int) (h64 : List Int) : St Ty D := ⟨(Env.put (Env.put (Env.put (Env.put E (some 0) (.row 0 .t3 x0)) (some 1) (.sc (.int .i64 x1))) (some 5) (.sl 64 none)) (some 6) (.sc (.int .i64 x6))), Heap.put H0 [(64, some (.rowb .t3 h64 0))], 1000⟩
noncomputable def spec_l12Insert.s10 (x0 : List Int) (x1 : Int) (x7 : Int) (h64 : List Int) : St Ty D := ⟨(Env.put (Env.put (Env.put (Env.put E (some 0) (.row 0 .t3 x0)) (some 1) (.sc (.int .i64 x1))) (some 5) (.sl 64 none)) (some 7) (.sc (.int .i64 x7))), Heap.put H0 [(64, some (.rowb .t3 h64 0))], 1000⟩
noncomputable def spec_l12Insert.ctx (k : Nat) : Ctx Ty D := (fun _ _ _ _ => none)
mutual
noncomputable def spec_l12Insert.c3 : Nat → (List Int) → Int → Int → (List Int) → Option ((List Int))
  | 0, _, _, _, _ => none
  | k + 1, x0, x1, x6, h64 => (if x6 < (x0.length : Int) then (if 0 ≤ x6 then (if x6 < (x0.length : Int) then (if (rd_T3 x0 x6) < x1 then (if 0 ≤ x6 then (if x6 < (x0.length : Int) then (if h64.length + ([(rd_T3 x0 x6)] : List Int).length ≤ 17592186044416 then (spec_l12Insert.c3 k x0 x1 (w64 (x6 + 1)) (h64 ++ ([(rd_T3 x0 x6)] : List Int))) else none) else none) else none) else (spec_l12Insert.c3 k x0 x1 (w64 (x6 + 1)) h64)) else none) else none) else (if x1 > 0 then (if h64.length + ([x1] : List Int).length ≤ 17592186044416 then (spec_l12Insert.c10 k x0 x1 0 (h64 ++ ([x1] : List Int))) else none) else (spec_l12Insert.c10 k x0 x1 0 h64)))
noncomputable def spec_l12Insert.c10 : Nat → (List Int) → Int → Int → (List Int) → Option ((List Int))
  | 0, _, _, _, _ => none
  | k + 1, x0, x1, x7, h64 => (if x7 < (x0.length : Int) then (if 0 ≤ x7 then (if x7 < (x0.length : Int) then (if (rd_T3 x0 x7) > x1 then (if 0 ≤ x7 then (if x7 < (x0.length : Int) then (if h64.length + ([(rd_T3 x0 x7)] : List Int).length ≤ 17592186044416 then (spec_l12Insert.c10 k x0 x1 (w64 (x7 + 1)) (h64 ++ ([(rd_T3 x0 x7)] : List Int))) else none) else none) else none) else (spec_l12Insert.c10 k x0 x1 (w64 (x7 + 1)) h64)) else none) else none) else (some (h64)))
end
noncomputable def spec_l12Insert.f (k : Nat) (a0 : List Int) (a1 : Int) : Option ((List Int)) := (spec_l12Insert.c3 k a0 a1 0 ([] : List Int))
noncomputable def spec_l12Insert.e (r : (List Int)) : Res Ty D := (.sl 0 none, [], [.rowb .t3 r 0])
noncomputable abbrev spec_l12Insert.g (rec : List Item → St Ty D → R) (k : Nat) := go1 Try.f65 (spec_l12Insert.ctx k) spec_l12Insert.sp 0 spec_l12Insert.en rec
set_option maxRecDepth 100000 in
theorem spec_l12Insert.t3 (rec : List Item → St Ty D → R) (k : Nat) (x0 : List Int) (x1 : Int) (x6 : Int) (h64 : List Int) : spec_l12Insert.g rec k (td Try.f65 3) (spec_l12Insert.s3 x0 x1 x6 h64) =
  bif decide (x6 < (x0.length : Int)) then bif decide (0 ≤ x6) then bif decide (x6 < (x0.length : Int)) then bif decide ((rd_T3 x0 x6) < x1) then bif decide (0 ≤ x6) then bif decide (x6 < (x0.length : Int)) then bif decide (h64.length + ([(rd_T3 x0 x6)] : List Int).length ≤ 17592186044416) then rec (td Try.f65 3) (spec_l12Insert.s3 x0 x1 (w64 (x6 + 1)) (h64 ++ ([(rd_T3 x0 x6)] : List Int))) else none else none else none else rec (td Try.f65 3) (spec_l12Insert.s3 x0 x1 (w64 (x6 + 1)) h64) else none else none else bif decide (x1 > 0) then bif decide (h64.length + ([x1] : List Int).length ≤ 17592186044416) then rec (td Try.f65 10) (spec_l12Insert.s10 x0 x1 0 (h64 ++ ([x1] : List Int))) else none else rec (td Try.f65 10) (spec_l12Insert.s10 x0 x1 0 h64) := by kernel_rfl
set_option maxRecDepth 100000 in
theorem spec_l12Insert.t10 (rec : List Item → St Ty D → R) (k : Nat) (x0 : List Int) (x1 : Int) (x7 : Int) (h64 : List Int) : spec_l12Insert.g rec k (td Try.f65 10) (spec_l12Insert.s10 x0 x1 x7 h64) =
  bif decide (x7 < (x0.length : Int)) then bif decide (0 ≤ x7) then bif decide (x7 < (x0.length : Int)) then bif decide ((rd_T3 x0 x7) > x1) then bif decide (0 ≤ x7) then bif decide (x7 < (x0.length : Int)) then bif decide (h64.length + ([(rd_T3 x0 x7)] : List Int).length ≤ 17592186044416) then rec (td Try.f65 10) (spec_l12Insert.s10 x0 x1 (w64 (x7 + 1)) (h64 ++ ([(rd_T3 x0 x7)] : List Int))) else none else none else none else rec (td Try.f65 10) (spec_l12Insert.s10 x0 x1 (w64 (x7 + 1)) h64) else none else none else some (spec_l12Insert.e (h64)) := by kernel_rfl
set_option maxRecDepth 100000 in
theorem spec_l12Insert.te (rec : List Item → St Ty D → R) (k : Nat) (a0 : List Int) (a1 : Int) : spec_l12Insert.g rec k [.code (body Try.f65)] (startSt [.row 0 .t3 a0, .sc (.int .i64 a1)] []) =
  rec (td Try.f65 3) (spec_l12Insert.s3 a0 a1 0 ([] : List Int)) := by kernel_rfl
set_option maxRecDepth 100000 in
theorem spec_l12Insert.ok : ∀ k : Nat, (∀ (x0 : List Int) (x1 : Int) (x6 : Int) (h64 : List Int), goF Try.f65 spec_l12Insert.ctx spec_l12Insert.sp 0 spec_l12Insert.en k (td Try.f65 3) (spec_l12Insert.s3 x0 x1 x6 h64) = (spec_l12Insert.c3 k x0 x1 x6 h64).map spec_l12Insert.e) ∧ (∀ (x0 : List Int) (x1 : Int) (x7 : Int) (h64 : List Int), goF Try.f65 spec_l12Insert.ctx spec_l12Insert.sp 0 spec_l12Insert.en k (td Try.f65 10) (spec_l12Insert.s10 x0 x1 x7 h64) = (spec_l12Insert.c10 k x0 x1 x7 h64).map spec_l12Insert.e)
  | 0 => ⟨fun _ _ _ _ => rfl, fun _ _ _ _ => rfl⟩
  | k + 1 => by
    have ih := spec_l12Insert.ok k
    obtain ⟨i3, i10⟩ := ih
    refine ⟨?_, ?_⟩
    · intro x0 x1 x6 h64; rw [spec_l12Insert.c3]; exact (spec_l12Insert.t3 _ k x0 x1 x6 h64).trans (cd (cd (cd (cd (cd (cd (cd (i3 _ _ _ _) rfl) rfl) rfl) (i3 _ _ _ _)) rfl) rfl) (cd (cd (i10 _ _ _ _) rfl) (i10 _ _ _ _)))
    · intro x0 x1 x7 h64; rw [spec_l12Insert.c10]; exact (spec_l12Insert.t10 _ k x0 x1 x7 h64).trans (cd (cd (cd (cd (cd (cd (cd (i10 _ _ _ _) rfl) rfl) rfl) (i10 _ _ _ _)) rfl) rfl) rfl)
set_option maxRecDepth 100000 in
theorem spec_l12Insert.oke (k : Nat) (a0 : List Int) (a1 : Int) : goF Try.f65 spec_l12Insert.ctx spec_l12Insert.sp 0 spec_l12Insert.en (k + 1) [.code (body Try.f65)] (startSt [.row 0 .t3 a0, .sc (.int .i64 a1)] []) = (spec_l12Insert.f k a0 a1).map spec_l12Insert.e := by
  obtain ⟨i3, i10⟩ := spec_l12Insert.ok k
  rw [spec_l12Insert.f]; exact (spec_l12Insert.te _ k a0 a1).trans (i3 _ _ _ _)
theorem spec_l12Insert.con (k : Nat) (a0 : List Int) (a1 : Int) (r) (h : spec_l12Insert.f k a0 a1 = some r) : Contract Try.prog kit 65 [.row 0 .t3 a0, .sc (.int .i64 a1)] [] (spec_l12Insert.e r).1 (spec_l12Insert.e r).2.1 (spec_l12Insert.e r).2.2 :=
  con_okG kitOk mix (fun k => CtxOk.nil) (spec_l12Insert.oke k a0 a1) h (by kernel_rfl) (by kernel_rfl) (by kernel_rfl) rfl (by kernel_rfl) rfl rfl
noncomputable def spec_l12Insert.x (k : Nat) : X := fun ins bs κ => match ins, bs with
  | [.row 0 .t3 a0, .sc (.int .i64 a1)], [] => (spec_l12Insert.f k a0 a1).bind fun r => κ (spec_l12Insert.e r).1 (spec_l12Insert.e r).2.1 (spec_l12Insert.e r).2.2
  | _, _ => none
theorem spec_l12Insert.xok (k : Nat) : XOk 65 (spec_l12Insert.x k) := by
  intro ins bs κ res h
  unfold spec_l12Insert.x at h
  split at h
  · obtain ⟨r, hr, h⟩ := Option.bind_eq_some_iff.1 h
    exact ⟨_, _, _, spec_l12Insert.con k _ _ r hr, h⟩
  · cases h

/-! ### spec_LiveOf: function 24 -/
noncomputable def spec_LiveOf.sp : Nat → Option (Spec Ty) := fun r => bif Nat.beq r 3 then some ⟨[(1, .box [.keep, .keep, .keep]), (3, .own .t3), (4, .keep)], []⟩ else bif Nat.beq r 7 then some ⟨[(1, .box [.keep, .keep, .keep]), (3, .own .t3), (4, .keep), (5, .own .t3), (6, .keep)], []⟩ else none
noncomputable def spec_LiveOf.en : Option (Spec Ty) := some ⟨[(2, .own .t3)], []⟩
noncomputable def spec_LiveOf.s3 (x4 : Int) (h64_0 : List S53) (h64_1 : List S88) (h64_2 : Int) (h65 : List Int) : St Ty D := ⟨(Env.put (Env.put (Env.put E (some 1) (.pt 64 0 0)) (some 3) (.sl 65 none)) (some 4) (.sc (.int .i64 x4))), Heap.put H0 [(64, some (.box [.row 0 .t53 h64_0, .row 0 .t88 h64_1, .sc (.int .i64 h64_2)])), (65, some (.rowb .t3 h65 0))], 1000⟩
noncomputable def spec_LiveOf.s7 (x4 : Int) (x6 : Int) (h64_0 : List S53) (h64_1 : List S88) (h64_2 : Int) (h65 : List Int) (h66 : List Int) : St Ty D := ⟨(Env.put (Env.put (Env.put (Env.put (Env.put E (some 1) (.pt 64 0 0)) (some 3) (.sl 65 none)) (some 4) (.sc (.int .i64 x4))) (some 5) (.sl 66 none)) (some 6) (.sc (.int .i64 x6))), Heap.put H0 [(64, some (.box [.row 0 .t53 h64_0, .row 0 .t88 h64_1, .sc (.int .i64 h64_2)])), (65, some (.rowb .t3 h65 0)), (66, some (.rowb .t3 h66 0))], 1000⟩
noncomputable def spec_LiveOf.ctx (k : Nat) : Ctx Ty D := (cons 62 (spec_AllAt.x k) (cons 65 (spec_l12Insert.x k) (fun _ _ _ _ => none)))
mutual
noncomputable def spec_LiveOf.c3 : Nat → Int → (List S53) → (List S88) → Int → (List Int) → Option ((List Int))
  | 0, _, _, _, _, _ => none
  | k + 1, x4, h64_0, h64_1, h64_2, h65 => (if x4 < (h64_0.length : Int) then (if 0 ≤ x4 then (if x4 < (h64_0.length : Int) then ((spec_AllAt.f k h64_1 ((rd_T53 h64_0 x4).f1)).bind fun t1 => (spec_LiveOf.c7 k x4 0 h64_0 h64_1 h64_2 h65 t1)) else none) else none) else (some (h65)))
noncomputable def spec_LiveOf.c7 : Nat → Int → Int → (List S53) → (List S88) → Int → (List Int) → (List Int) → Option ((List Int))
  | 0, _, _, _, _, _, _, _ => none
  | k + 1, x4, x6, h64_0, h64_1, h64_2, h65, h66 => (if x6 < (h66.length : Int) then (if 0 ≤ x6 then (if x6 < (h66.length : Int) then ((spec_l12Insert.f k h65 (rd_T3 h66 x6)).bind fun t2 => (spec_LiveOf.c7 k x4 (w64 (x6 + 1)) h64_0 h64_1 h64_2 t2 h66)) else none) else none) else (spec_LiveOf.c3 k (w64 (x4 + 1)) h64_0 h64_1 h64_2 h65))
end
noncomputable def spec_LiveOf.f (k : Nat) (a0_0 : List S53) (a0_1 : List S88) (a0_2 : Int) : Option ((List Int)) := (spec_LiveOf.c3 k 0 a0_0 a0_1 a0_2 ([] : List Int))
noncomputable def spec_LiveOf.e (r : (List Int)) : Res Ty D := (.sl 0 none, [], [.rowb .t3 r 0])
noncomputable abbrev spec_LiveOf.g (rec : List Item → St Ty D → R) (k : Nat) := go1 Try.f24 (spec_LiveOf.ctx k) spec_LiveOf.sp 0 spec_LiveOf.en rec
set_option maxRecDepth 100000 in
theorem spec_LiveOf.t3 (rec : List Item → St Ty D → R) (k : Nat) (x4 : Int) (h64_0 : List S53) (h64_1 : List S88) (h64_2 : Int) (h65 : List Int) : spec_LiveOf.g rec k (td Try.f24 3) (spec_LiveOf.s3 x4 h64_0 h64_1 h64_2 h65) =
  bif decide (x4 < (h64_0.length : Int)) then bif decide (0 ≤ x4) then bif decide (x4 < (h64_0.length : Int)) then (spec_AllAt.f k h64_1 ((rd_T53 h64_0 x4).f1)).bind fun t1 => rec (td Try.f24 7) (spec_LiveOf.s7 x4 0 h64_0 h64_1 h64_2 h65 t1) else none else none else some (spec_LiveOf.e (h65)) := by kernel_rfl
set_option maxRecDepth 100000 in
theorem spec_LiveOf.t7 (rec : List Item → St Ty D → R) (k : Nat) (x4 : Int) (x6 : Int) (h64_0 : List S53) (h64_1 : List S88) (h64_2 : Int) (h65 : List Int) (h66 : List Int) : spec_LiveOf.g rec k (td Try.f24 7) (spec_LiveOf.s7 x4 x6 h64_0 h64_1 h64_2 h65 h66) =
  bif decide (x6 < (h66.length : Int)) then bif decide (0 ≤ x6) then bif decide (x6 < (h66.length : Int)) then (spec_l12Insert.f k h65 (rd_T3 h66 x6)).bind fun t2 => rec (td Try.f24 7) (spec_LiveOf.s7 x4 (w64 (x6 + 1)) h64_0 h64_1 h64_2 t2 h66) else none else none else rec (td Try.f24 3) (spec_LiveOf.s3 (w64 (x4 + 1)) h64_0 h64_1 h64_2 h65) := by kernel_rfl
set_option maxRecDepth 100000 in
theorem spec_LiveOf.te (rec : List Item → St Ty D → R) (k : Nat) (a0_0 : List S53) (a0_1 : List S88) (a0_2 : Int) : spec_LiveOf.g rec k [.code (body Try.f24)] (startSt [.ag [.row 0 .t53 a0_0, .row 0 .t88 a0_1, .sc (.int .i64 a0_2)]] []) =
  rec (td Try.f24 3) (spec_LiveOf.s3 0 a0_0 a0_1 a0_2 ([] : List Int)) := by kernel_rfl
set_option maxRecDepth 100000 in
theorem spec_LiveOf.ok : ∀ k : Nat, (∀ (x4 : Int) (h64_0 : List S53) (h64_1 : List S88) (h64_2 : Int) (h65 : List Int), goF Try.f24 spec_LiveOf.ctx spec_LiveOf.sp 0 spec_LiveOf.en k (td Try.f24 3) (spec_LiveOf.s3 x4 h64_0 h64_1 h64_2 h65) = (spec_LiveOf.c3 k x4 h64_0 h64_1 h64_2 h65).map spec_LiveOf.e) ∧ (∀ (x4 : Int) (x6 : Int) (h64_0 : List S53) (h64_1 : List S88) (h64_2 : Int) (h65 : List Int) (h66 : List Int), goF Try.f24 spec_LiveOf.ctx spec_LiveOf.sp 0 spec_LiveOf.en k (td Try.f24 7) (spec_LiveOf.s7 x4 x6 h64_0 h64_1 h64_2 h65 h66) = (spec_LiveOf.c7 k x4 x6 h64_0 h64_1 h64_2 h65 h66).map spec_LiveOf.e)
  | 0 => ⟨fun _ _ _ _ _ => rfl, fun _ _ _ _ _ _ _ => rfl⟩
  | k + 1 => by
    have ih := spec_LiveOf.ok k
    obtain ⟨i3, i7⟩ := ih
    refine ⟨?_, ?_⟩
    · intro x4 h64_0 h64_1 h64_2 h65; rw [spec_LiveOf.c3]; exact (spec_LiveOf.t3 _ k x4 h64_0 h64_1 h64_2 h65).trans (cd (cd (cd (bn (fun t1 => (i7 _ _ _ _ _ _ _))) rfl) rfl) rfl)
    · intro x4 x6 h64_0 h64_1 h64_2 h65 h66; rw [spec_LiveOf.c7]; exact (spec_LiveOf.t7 _ k x4 x6 h64_0 h64_1 h64_2 h65 h66).trans (cd (cd (cd (bn (fun t2 => (i7 _ _ _ _ _ _ _))) rfl) rfl) (i3 _ _ _ _ _))
set_option maxRecDepth 100000 in
theorem spec_LiveOf.oke (k : Nat) (a0_0 : List S53) (a0_1 : List S88) (a0_2 : Int) : goF Try.f24 spec_LiveOf.ctx spec_LiveOf.sp 0 spec_LiveOf.en (k + 1) [.code (body Try.f24)] (startSt [.ag [.row 0 .t53 a0_0, .row 0 .t88 a0_1, .sc (.int .i64 a0_2)]] []) = (spec_LiveOf.f k a0_0 a0_1 a0_2).map spec_LiveOf.e := by
  obtain ⟨i3, i7⟩ := spec_LiveOf.ok k
  rw [spec_LiveOf.f]; exact (spec_LiveOf.te _ k a0_0 a0_1 a0_2).trans (i3 _ _ _ _ _)
theorem spec_LiveOf.con (k : Nat) (a0_0 : List S53) (a0_1 : List S88) (a0_2 : Int) (r) (h : spec_LiveOf.f k a0_0 a0_1 a0_2 = some r) : Contract Try.prog kit 24 [.ag [.row 0 .t53 a0_0, .row 0 .t88 a0_1, .sc (.int .i64 a0_2)]] [] (spec_LiveOf.e r).1 (spec_LiveOf.e r).2.1 (spec_LiveOf.e r).2.2 :=
  con_okG kitOk mix (fun k => (CtxOk.cons (spec_AllAt.xok k) (CtxOk.cons (spec_l12Insert.xok k) CtxOk.nil))) (spec_LiveOf.oke k a0_0 a0_1 a0_2) h (by kernel_rfl) (by kernel_rfl) (by kernel_rfl) rfl (by kernel_rfl) rfl rfl
noncomputable def spec_LiveOf.x (k : Nat) : X := fun ins bs κ => match ins, bs with
  | [.ag [.row 0 .t53 a0_0, .row 0 .t88 a0_1, .sc (.int .i64 a0_2)]], [] => (spec_LiveOf.f k a0_0 a0_1 a0_2).bind fun r => κ (spec_LiveOf.e r).1 (spec_LiveOf.e r).2.1 (spec_LiveOf.e r).2.2
  | _, _ => none
theorem spec_LiveOf.xok (k : Nat) : XOk 24 (spec_LiveOf.x k) := by
  intro ins bs κ res h
  unfold spec_LiveOf.x at h
  split at h
  · obtain ⟨r, hr, h⟩ := Option.bind_eq_some_iff.1 h
    exact ⟨_, _, _, spec_LiveOf.con k _ _ _ r hr, h⟩
  · cases h

/-! ### laws_FnRefs: function 4 -/
noncomputable def laws_FnRefs.sp : Nat → Option (Spec Ty) := fun r => bif Nat.beq r 7 then some ⟨[(3, .box [.own .t53, .own .t88, .keep]), (5, .own .t3), (6, .keep), (7, .keep)], []⟩ else bif Nat.beq r 15 then some ⟨[(3, .box [.own .t53, .own .t88, .keep]), (5, .own .t3), (6, .keep), (9, .keep), (10, .keep)], []⟩ else bif Nat.beq r 18 then some ⟨[(3, .box [.own .t53, .own .t88, .keep]), (5, .own .t3), (6, .keep), (9, .keep), (10, .keep), (11, .keep)], []⟩ else none
noncomputable def laws_FnRefs.en : Option (Spec Ty) := none
noncomputable def laws_FnRefs.s7 (x6 : Int) (x7 : Int) (h65 : List S53) (h66 : List S88) (h64_2 : Int) (h67 : List Int) : St Ty D := ⟨(Env.put (Env.put (Env.put (Env.put E (some 3) (.pt 64 0 0)) (some 5) (.sl 67 none)) (some 6) (.sc (.int .i64 x6))) (some 7) (.sc (.int .i64 x7))), Heap.put H0 [(65, some (.rowb .t53 h65 0)), (66, some (.rowb .t88 h66 0)), (64, some (.box [.sl 65 none, .sl 66 none, .sc (.int .i64 h64_2)])), (67, some (.rowb .t3 h67 0))], 1000⟩
noncomputable def laws_FnRefs.s15 (x6 : Int) (x9 : Int) (x10 : Int) (h65 : List S53) (h66 : List S88) (h64_2 : Int) (h67 : List Int) : St Ty D := ⟨(Env.put (Env.put (Env.put (Env.put (Env.put E (some 3) (.pt 64 0 0)) (some 5) (.sl 67 none)) (some 6) (.sc (.int .i64 x6))) (some 9) (.sc (.int .i64 x9))) (some 10) (.sc (.int .i64 x10))), Heap.put H0 [(65, some (.rowb .t53 h65 0)), (66, some (.rowb .t88 h66 0)), (64, some (.box [.sl 65 none, .sl 66 none, .sc (.int .i64 h64_2)])), (67, some (.rowb .t3 h67 0))], 1000⟩
noncomputable def laws_FnRefs.s18 (x6 : Int) (x9 : Int) (x10 : Int) (x11 : Int) (h65 : List S53) (h66 : List S88) (h64_2 : Int) (h67 : List Int) : St Ty D := ⟨(Env.put (Env.put (Env.put (Env.put (Env.put (Env.put E (some 3) (.pt 64 0 0)) (some 5) (.sl 67 none)) (some 6) (.sc (.int .i64 x6))) (some 9) (.sc (.int .i64 x9))) (some 10) (.sc (.int .i64 x10))) (some 11) (.sc (.int .i64 x11))), Heap.put H0 [(65, some (.rowb .t53 h65 0)), (66, some (.rowb .t88 h66 0)), (64, some (.box [.sl 65 none, .sl 66 none, .sc (.int .i64 h64_2)])), (67, some (.rowb .t3 h67 0))], 1000⟩
noncomputable def laws_FnRefs.ctx (k : Nat) : Ctx Ty D := (cons 17 (laws_big.x k) (cons 18 (spec_DrawStoreRec.x k) (cons 19 (impl_LiveOf.x k) (cons 20 (impl_RefsOf.x k) (cons 21 (spec_RefsOf.x k) (cons 22 (impl_ChunkOf.x k) (cons 23 (laws_sameInts.x k) (cons 24 (spec_LiveOf.x k) (fun _ _ _ _ => none)))))))))
mutual
noncomputable def laws_FnRefs.c7 : Nat → Int → Int → (List S53) → (List S88) → Int → (List Int) → Option (Bool)
  | 0, _, _, _, _, _, _ => none
  | k + 1, x6, x7, h65, h66, h64_2, h67 => (if x7 < (h67.length : Int) then (if 0 ≤ x7 then (if x7 < (h67.length : Int) then ((impl_RefsOf.f k h65 h66 h64_2 (rd_T3 h67 x7)).bind fun t4 => (if t4 < 1 then (some (false)) else (if 0 ≤ x7 then (if x7 < (h67.length : Int) then ((spec_RefsOf.f k h65 h66 h64_2 (rd_T3 h67 x7)).bind fun t5 => (if t4 = t5 then (if x7 > 0 then (if 0 ≤ (w64 (x7 - 1)) then (if (w64 (x7 - 1)) < (h67.length : Int) then (if 0 ≤ x7 then (if x7 < (h67.length : Int) then (if (rd_T3 h67 (w64 (x7 - 1))) ≥ (rd_T3 h67 x7) then (some (false)) else (laws_FnRefs.c7 k (w64 (x6 + t4)) (w64 (x7 + 1)) h65 h66 h64_2 h67)) else none) else none) else none) else none) else (laws_FnRefs.c7 k (w64 (x6 + t4)) (w64 (x7 + 1)) h65 h66 h64_2 h67)) else (some (false)))) else none) else none))) else none) else none) else (laws_FnRefs.c15 k x6 0 0 h65 h66 h64_2 h67))
noncomputable def laws_FnRefs.c15 : Nat → Int → Int → Int → (List S53) → (List S88) → Int → (List Int) → Option (Bool)
  | 0, _, _, _, _, _, _, _ => none
  | k + 1, x6, x9, x10, h65, h66, h64_2, h67 => (if x10 < (h65.length : Int) then (laws_FnRefs.c18 k x6 x9 x10 0 h65 h66 h64_2 h67) else (if x6 = x9 then ((spec_LiveOf.f k h65 h66 h64_2).bind fun t6 => ((laws_sameInts.f k h67 t6).bind fun t7 => (if t7 = true then ((impl_RefsOf.f k h65 h66 h64_2 0).bind fun t8 => (if t8 = 0 then ((impl_RefsOf.f k h65 h66 h64_2 h64_2).bind fun t9 => (some ((decide (t9 = 0))))) else (some (false)))) else (some (false))))) else (some (false))))
noncomputable def laws_FnRefs.c18 : Nat → Int → Int → Int → Int → (List S53) → (List S88) → Int → (List Int) → Option (Bool)
  | 0, _, _, _, _, _, _, _, _ => none
  | k + 1, x6, x9, x10, x11, h65, h66, h64_2, h67 => (if x11 < 16 then (if 0 ≤ x10 then (if x10 < (h65.length : Int) then ((impl_ChunkOf.f k h65 h66 h64_2 ((rd_T53 h65 x10).f0) x11).bind fun t10 => (if t10 > 0 then (laws_FnRefs.c18 k x6 (w64 (x9 + 1)) x10 (w64 (x11 + 1)) h65 h66 h64_2 h67) else (laws_FnRefs.c18 k x6 x9 x10 (w64 (x11 + 1)) h65 h66 h64_2 h67))) else none) else none) else (laws_FnRefs.c15 k x6 x9 (w64 (x10 + 1)) h65 h66 h64_2 h67))
end
noncomputable def laws_FnRefs.f (k : Nat) (a0 : List Int) : Option (Bool) := ((laws_big.f k a0).bind fun t1 => (if t1 = true then (some (true)) else ((spec_DrawStoreRec.f k a0).bind fun t2 => ((impl_LiveOf.f k t2.1 t2.2.1 t2.2.2.1).bind fun t3 => (laws_FnRefs.c7 k 0 0 t2.1 t2.2.1 t2.2.2.1 t3)))))
noncomputable def laws_FnRefs.e (r : Bool) : Res Ty D := (.sc (.bool r), [], [])
noncomputable abbrev laws_FnRefs.g (rec : List Item → St Ty D → R) (k : Nat) := go1 Try.f4 (laws_FnRefs.ctx k) laws_FnRefs.sp 0 laws_FnRefs.en rec
set_option maxRecDepth 100000 in
theorem laws_FnRefs.t7 (rec : List Item → St Ty D → R) (k : Nat) (x6 : Int) (x7 : Int) (h65 : List S53) (h66 : List S88) (h64_2 : Int) (h67 : List Int) : laws_FnRefs.g rec k (td Try.f4 7) (laws_FnRefs.s7 x6 x7 h65 h66 h64_2 h67) =
  bif decide (x7 < (h67.length : Int)) then bif decide (0 ≤ x7) then bif decide (x7 < (h67.length : Int)) then (impl_RefsOf.f k h65 h66 h64_2 (rd_T3 h67 x7)).bind fun t4 => bif decide (t4 < 1) then some (laws_FnRefs.e (false)) else bif decide (0 ≤ x7) then bif decide (x7 < (h67.length : Int)) then (spec_RefsOf.f k h65 h66 h64_2 (rd_T3 h67 x7)).bind fun t5 => bif !decide (t4 = t5) then some (laws_FnRefs.e (false)) else bif decide (x7 > 0) then bif decide (0 ≤ (w64 (x7 - 1))) then bif decide ((w64 (x7 - 1)) < (h67.length : Int)) then bif decide (0 ≤ x7) then bif decide (x7 < (h67.length : Int)) then bif decide ((rd_T3 h67 (w64 (x7 - 1))) ≥ (rd_T3 h67 x7)) then some (laws_FnRefs.e (false)) else rec (td Try.f4 7) (laws_FnRefs.s7 (w64 (x6 + t4)) (w64 (x7 + 1)) h65 h66 h64_2 h67) else none else none else none else none else rec (td Try.f4 7) (laws_FnRefs.s7 (w64 (x6 + t4)) (w64 (x7 + 1)) h65 h66 h64_2 h67) else none else none else none else none else rec (td Try.f4 15) (laws_FnRefs.s15 x6 0 0 h65 h66 h64_2 h67) := by kernel_rfl
set_option maxRecDepth 100000 in
theorem laws_FnRefs.t15 (rec : List Item → St Ty D → R) (k : Nat) (x6 : Int) (x9 : Int) (x10 : Int) (h65 : List S53) (h66 : List S88) (h64_2 : Int) (h67 : List Int) : laws_FnRefs.g rec k (td Try.f4 15) (laws_FnRefs.s15 x6 x9 x10 h65 h66 h64_2 h67) =
  bif decide (x10 < (h65.length : Int)) then rec (td Try.f4 18) (laws_FnRefs.s18 x6 x9 x10 0 h65 h66 h64_2 h67) else bif decide (x6 = x9) then (spec_LiveOf.f k h65 h66 h64_2).bind fun t6 => (laws_sameInts.f k h67 t6).bind fun t7 => bif t7 then (impl_RefsOf.f k h65 h66 h64_2 0).bind fun t8 => bif decide (t8 = 0) then (impl_RefsOf.f k h65 h66 h64_2 h64_2).bind fun t9 => some (laws_FnRefs.e ((decide (t9 = 0)))) else some (laws_FnRefs.e (false)) else some (laws_FnRefs.e (false)) else some (laws_FnRefs.e (false)) := by kernel_rfl
set_option maxRecDepth 100000 in
theorem laws_FnRefs.t18 (rec : List Item → St Ty D → R) (k : Nat) (x6 : Int) (x9 : Int) (x10 : Int) (x11 : Int) (h65 : List S53) (h66 : List S88) (h64_2 : Int) (h67 : List Int) : laws_FnRefs.g rec k (td Try.f4 18) (laws_FnRefs.s18 x6 x9 x10 x11 h65 h66 h64_2 h67) =
  bif decide (x11 < 16) then bif decide (0 ≤ x10) then bif decide (x10 < (h65.length : Int)) then (impl_ChunkOf.f k h65 h66 h64_2 ((rd_T53 h65 x10).f0) x11).bind fun t10 => bif decide (t10 > 0) then rec (td Try.f4 18) (laws_FnRefs.s18 x6 (w64 (x9 + 1)) x10 (w64 (x11 + 1)) h65 h66 h64_2 h67) else rec (td Try.f4 18) (laws_FnRefs.s18 x6 x9 x10 (w64 (x11 + 1)) h65 h66 h64_2 h67) else none else none else rec (td Try.f4 15) (laws_FnRefs.s15 x6 x9 (w64 (x10 + 1)) h65 h66 h64_2 h67) := by kernel_rfl
set_option maxRecDepth 100000 in
theorem laws_FnRefs.te (rec : List Item → St Ty D → R) (k : Nat) (a0 : List Int) : laws_FnRefs.g rec k [.code (body Try.f4)] (startSt [.row 0 .t5 a0] []) =
  (laws_big.f k a0).bind fun t1 => bif t1 then some (laws_FnRefs.e (true)) else (spec_DrawStoreRec.f k a0).bind fun t2 => (impl_LiveOf.f k t2.1 t2.2.1 t2.2.2.1).bind fun t3 => rec (td Try.f4 7) (laws_FnRefs.s7 0 0 t2.1 t2.2.1 t2.2.2.1 t3) := by kernel_rfl
set_option maxRecDepth 100000 in
theorem laws_FnRefs.ok : ∀ k : Nat, (∀ (x6 : Int) (x7 : Int) (h65 : List S53) (h66 : List S88) (h64_2 : Int) (h67 : List Int), goF Try.f4 laws_FnRefs.ctx laws_FnRefs.sp 0 laws_FnRefs.en k (td Try.f4 7) (laws_FnRefs.s7 x6 x7 h65 h66 h64_2 h67) = (laws_FnRefs.c7 k x6 x7 h65 h66 h64_2 h67).map laws_FnRefs.e) ∧ (∀ (x6 : Int) (x9 : Int) (x10 : Int) (h65 : List S53) (h66 : List S88) (h64_2 : Int) (h67 : List Int), goF Try.f4 laws_FnRefs.ctx laws_FnRefs.sp 0 laws_FnRefs.en k (td Try.f4 15) (laws_FnRefs.s15 x6 x9 x10 h65 h66 h64_2 h67) = (laws_FnRefs.c15 k x6 x9 x10 h65 h66 h64_2 h67).map laws_FnRefs.e) ∧ (∀ (x6 : Int) (x9 : Int) (x10 : Int) (x11 : Int) (h65 : List S53) (h66 : List S88) (h64_2 : Int) (h67 : List Int), goF Try.f4 laws_FnRefs.ctx laws_FnRefs.sp 0 laws_FnRefs.en k (td Try.f4 18) (laws_FnRefs.s18 x6 x9 x10 x11 h65 h66 h64_2 h67) = (laws_FnRefs.c18 k x6 x9 x10 x11 h65 h66 h64_2 h67).map laws_FnRefs.e)
  | 0 => ⟨fun _ _ _ _ _ _ => rfl, fun _ _ _ _ _ _ _ => rfl, fun _ _ _ _ _ _ _ _ => rfl⟩
  | k + 1 => by
    have ih := laws_FnRefs.ok k
    obtain ⟨i7, i15, i18⟩ := ih
    refine ⟨?_, ?_, ?_⟩
    · intro x6 x7 h65 h66 h64_2 h67; rw [laws_FnRefs.c7]; exact (laws_FnRefs.t7 _ k x6 x7 h65 h66 h64_2 h67).trans (cd (cd (cd (bn (fun t4 => (cd rfl (cd (cd (bn (fun t5 => (nd rfl (cd (cd (cd (cd (cd (cd rfl (i7 _ _ _ _ _ _)) rfl) rfl) rfl) rfl) (i7 _ _ _ _ _ _))))) rfl) rfl)))) rfl) rfl) (i15 _ _ _ _ _ _ _))
    · intro x6 x9 x10 h65 h66 h64_2 h67; rw [laws_FnRefs.c15]; exact (laws_FnRefs.t15 _ k x6 x9 x10 h65 h66 h64_2 h67).trans (cd (i18 _ _ _ _ _ _ _ _) (cd (bn (fun t6 => (bn (fun t7 => (cb (bn (fun t8 => (cd (bn (fun t9 => rfl)) rfl))) rfl))))) rfl))
    · intro x6 x9 x10 x11 h65 h66 h64_2 h67; rw [laws_FnRefs.c18]; exact (laws_FnRefs.t18 _ k x6 x9 x10 x11 h65 h66 h64_2 h67).trans (cd (cd (cd (bn (fun t10 => (cd (i18 _ _ _ _ _ _ _ _) (i18 _ _ _ _ _ _ _ _)))) rfl) rfl) (i15 _ _ _ _ _ _ _))
set_option maxRecDepth 100000 in
theorem laws_FnRefs.oke (k : Nat) (a0 : List Int) : goF Try.f4 laws_FnRefs.ctx laws_FnRefs.sp 0 laws_FnRefs.en (k + 1) [.code (body Try.f4)] (startSt [.row 0 .t5 a0] []) = (laws_FnRefs.f k a0).map laws_FnRefs.e := by
  obtain ⟨i7, i15, i18⟩ := laws_FnRefs.ok k
  rw [laws_FnRefs.f]; exact (laws_FnRefs.te _ k a0).trans (bn (fun t1 => (cb rfl (bn (fun t2 => (bn (fun t3 => (i7 _ _ _ _ _ _))))))))
theorem laws_FnRefs.con (k : Nat) (a0 : List Int) (r) (h : laws_FnRefs.f k a0 = some r) : Contract Try.prog kit 4 [.row 0 .t5 a0] [] (laws_FnRefs.e r).1 (laws_FnRefs.e r).2.1 (laws_FnRefs.e r).2.2 :=
  con_okG kitOk mix (fun k => (CtxOk.cons (laws_big.xok k) (CtxOk.cons (spec_DrawStoreRec.xok k) (CtxOk.cons (impl_LiveOf.xok k) (CtxOk.cons (impl_RefsOf.xok k) (CtxOk.cons (spec_RefsOf.xok k) (CtxOk.cons (impl_ChunkOf.xok k) (CtxOk.cons (laws_sameInts.xok k) (CtxOk.cons (spec_LiveOf.xok k) CtxOk.nil))))))))) (laws_FnRefs.oke k a0) h (by kernel_rfl) (by kernel_rfl) (by kernel_rfl) rfl (by kernel_rfl) rfl rfl
noncomputable def laws_FnRefs.x (k : Nat) : X := fun ins bs κ => match ins, bs with
  | [.row 0 .t5 a0], [] => (laws_FnRefs.f k a0).bind fun r => κ (laws_FnRefs.e r).1 (laws_FnRefs.e r).2.1 (laws_FnRefs.e r).2.2
  | _, _ => none
theorem laws_FnRefs.xok (k : Nat) : XOk 4 (laws_FnRefs.x k) := by
  intro ins bs κ res h
  unfold laws_FnRefs.x at h
  split at h
  · obtain ⟨r, hr, h⟩ := Option.bind_eq_some_iff.1 h
    exact ⟨_, _, _, laws_FnRefs.con k _ r hr, h⟩
  · cases h
end Go.Proofs.Yteideicglgpfiaa.M2

/- The print's plain functions. -/
namespace Go.Proofs.Yteideicglgpfiaa.PK
open Go Go.RowKit Go.Proofs.YteideicglgpfiaaW.PrintWords Go.Proofs.YteideicglgpfiaaW.PrintLast Go.Proofs.YteideicglgpfiaaW.PrintMore
set_option linter.unusedVariables false

def sort_Ints.f (_ : Nat) (l0 : List Int) : Option (List Int) := if l0.length < 4611686018427387904 then some (l0.mergeSort fun x y => decide (x ≤ y)) else none
def laws_big.f (l0 : List Int) : Option (Bool) := some (decide ((l0.length : Int) > 1048576))
def spec_l01Byte.f (s0_0 : List Int) (s0_1 : Int) (s0_2 : Int) : Option (Int × Int × Int) := if s0_1 < (s0_0.length : Int) then (if 0 ≤ s0_1 then (some (Go.bits .and .i64 (wrap64 ((Go.bits .and .i64 (Go.bits .xor .i64 ((wrap64 ((wrap64 (s0_2 * 6364136223846793005)) + 1442695040888963407)) / 8589934592) ((wrap64 ((wrap64 (s0_2 * 6364136223846793005)) + 1442695040888963407)) / 35184372088832)) 255) + (wrap64 (rd s0_0 s0_1)))) 255, wrap64 (s0_1 + 1), wrap64 ((wrap64 (s0_2 * 6364136223846793005)) + 1442695040888963407))) else (none)) else (some (Go.bits .and .i64 (Go.bits .xor .i64 ((wrap64 ((wrap64 (s0_2 * 6364136223846793005)) + 1442695040888963407)) / 8589934592) ((wrap64 ((wrap64 (s0_2 * 6364136223846793005)) + 1442695040888963407)) / 35184372088832)) 255, s0_1, wrap64 ((wrap64 (s0_2 * 6364136223846793005)) + 1442695040888963407)))
def spec_l01Below.f (s0_0 : List Int) (s0_1 : Int) (s0_2 : Int) (a1 : Int) : Option (Int × Int × Int) := if a1 ≤ 0 then (some (0, s0_1, s0_2)) else (if a1 ≤ 256 then ((spec_l01Byte.f s0_0 s0_1 s0_2).bind fun bt799 => (if a1 = 0 then (none) else (some (Int.tmod bt799.1 a1, bt799.2.1, bt799.2.2)))) else ((spec_l01Byte.f s0_0 s0_1 s0_2).bind fun bt802 => ((spec_l01Byte.f s0_0 bt802.2.1 bt802.2.2).bind fun bt805 => ((spec_l01Byte.f s0_0 bt805.2.1 bt805.2.2).bind fun bt808 => ((spec_l01Byte.f s0_0 bt808.2.1 bt808.2.2).bind fun bt811 => (if a1 = 0 then (none) else (some (Int.tmod (wrap64 ((wrap64 ((wrap64 ((wrap64 (bt802.1 * 16777216)) + (wrap64 (bt805.1 * 65536)))) + (wrap64 (bt808.1 * 256)))) + bt811.1)) a1, bt811.2.1, bt811.2.2))))))))
def spec_l01PickInt.f (s0_0 : List Int) (s0_1 : Int) (s0_2 : Int) (l1 : List Int) : Option (Int × Int × Int) := (spec_l01Below.f s0_0 s0_1 s0_2 (l1.length : Int)).bind fun bt814 => (if 0 ≤ bt814.1 then (if bt814.1 < (l1.length : Int) then (some (rd l1 bt814.1, bt814.2.1, bt814.2.2)) else (none)) else (none))
def spec_l09Rec.f (s0_0 : List Int) (s0_1 : Int) (s0_2 : Int) : Option (Int × Int × Int × Int × Int × Int) := (spec_l01PickInt.f s0_0 s0_1 s0_2 (([2, 2, 3, 4, 4, 4, 4, 4, 5] : List Int))).bind fun bt822 => ((spec_l01Below.f s0_0 bt822.2.1 bt822.2.2 3).bind fun bt825 => (if bt822.1 = 2 then ((spec_l01PickInt.f s0_0 bt825.2.1 bt825.2.2 (([0, 0, 1, 2] : List Int))).bind fun bt832 => (some (bt822.1, wrap64 (1 + bt825.1), bt832.1, 0, bt832.2.1, bt832.2.2))) else (if bt822.1 = 4 then ((spec_l01Below.f s0_0 bt825.2.1 bt825.2.2 16).bind fun bt835 => ((spec_l01Below.f s0_0 bt835.2.1 bt835.2.2 9).bind fun bt838 => (some (bt822.1, wrap64 (1 + bt825.1), bt835.1, wrap64 (1 + bt838.1), bt838.2.1, bt838.2.2)))) else (if bt822.1 = 5 then ((spec_l01Below.f s0_0 bt825.2.1 bt825.2.2 16).bind fun bt841 => (some (bt822.1, wrap64 (1 + bt825.1), bt841.1, 0, bt841.2.1, bt841.2.2))) else (some (bt822.1, wrap64 (1 + bt825.1), 0, 0, bt825.2.1, bt825.2.2))))))
def spec_l01Once.f (s0_0 : List Int) (s0_1 : Int) (s0_2 : Int) (a1 : Int) : Option (Bool × Int × Int) := (spec_l01Below.f s0_0 s0_1 s0_2 a1).bind fun bt844 => (some ((bt844.1 == 0), bt844.2.1, bt844.2.2))
def spec_l01New.l0 : Nat → List Int → Int → Int → Option (List Int × Int × Int)
  | 0, _, _, _ => none
  | k + 1, x0, x3, x4 => if x4 < (x0.length : Int) then (if x4 < 4000 then (if 0 ≤ x4 then (spec_l01New.l0 k x0 (Go.bits .and .i64 (wrap64 ((wrap64 ((wrap64 (x3 * 131)) + (wrap64 (rd x0 x4)))) + 7)) 1073741823) (wrap64 (x4 + 1))) else (none)) else (some (x0, 0, x3))) else (some (x0, 0, x3))
def spec_l01New.f (k : Nat) (l0 : List Int) : Option (List Int × Int × Int) := spec_l01New.l0 k l0 (wrap64 (36501 + (l0.length : Int))) 0
def spec_l01In.f (a0 : Int) (a1 : Int) (a2 : Int) : Option (Bool) := if a0 ≥ a1 then (some (decide (a0 ≤ a2))) else (some false)
mutual
def spec_ArenaOk.l0 : Nat → Int → List (S88) → Option (Bool)
  | 0, _, _ => none
  | k + 1, x3, x111000 => if x3 < (x111000.length : Int) then (if 0 ≤ x3 then (if (((rd_T88 x111000 x3).f1).length : Int) = 4 then (spec_ArenaOk.l1 k x3 0 x111000 ((rd_T88 x111000 x3).f0) ((rd_T88 x111000 x3).f1)) else (some false)) else (none)) else (some true)
def spec_ArenaOk.l1 : Nat → Int → Int → List (S88) → Bool → List Int → Option (Bool)
  | 0, _, _, _, _, _ => none
  | k + 1, x3, x5, x111000, x113000, x113001 => if x5 < 4 then (if 0 ≤ x5 then (if x5 < (x113001.length : Int) then (if x113000 = true then (if (rd x113001 x5) < 0 then (some false) else (spec_ArenaOk.l1 k x3 (wrap64 (x5 + 1)) x111000 x113000 x113001)) else (if (rd x113001 x5) = (-1) then (spec_ArenaOk.l1 k x3 (wrap64 (x5 + 1)) x111000 x113000 x113001) else ((spec_l01In.f (rd x113001 x5) 0 (wrap64 (x3 - 1))).bind fun t114 => (if t114 = true then (if 0 ≤ (rd x113001 x5) then (if (rd x113001 x5) < (x111000.length : Int) then (if ((rd_T88 x111000 (rd x113001 x5)).f0 = true) then (spec_ArenaOk.l1 k x3 (wrap64 (x5 + 1)) x111000 x113000 x113001) else (some false)) else (none)) else (none)) else (some false))))) else (none)) else (none)) else (spec_ArenaOk.l0 k (wrap64 (x3 + 1)) x111000)
end
def spec_ArenaOk.f (k : Nat) (l0_0 : List (S88)) : Option (Bool) := spec_ArenaOk.l0 k 0 l0_0
def spec_RecOk.j0 : Nat → Bool → Int → Int → Int → Int → Option (Bool)
  | 0, _, _, _, _, _ => none
  | k + 1, x37, x228000, x228001, x228002, x228003 => if x37 = true then (some false) else (if x228000 = 2 then (some (decide (x228002 ≤ 9))) else (if x228000 = 3 then (some (x228002 == 0)) else (if x228000 = 4 then (if x228002 < 16 then ((spec_l01In.f x228003 1 1000000000).bind fun t231 => (some t231)) else (some false)) else (some (decide (x228002 < 16))))))
def spec_RecOk.f (k : Nat) (a0_0 : Int) (a0_1 : Int) (a0_2 : Int) (a0_3 : Int) : Option (Bool) := (spec_l01In.f a0_2 0 1000000000).bind fun t228 => (if t228 = true then (if a0_0 = 1 then (if a0_1 = 0 then (some (a0_3 == 0)) else (some false)) else ((spec_l01In.f a0_0 2 5).bind fun t229 => (if t229 = true then ((spec_l01In.f a0_1 1 9).bind fun t230 => (if t230 = true then (if a0_0 = 4 then (spec_RecOk.j0 k false a0_0 a0_1 a0_2 a0_3) else (spec_RecOk.j0 k (a0_3 != 0) a0_0 a0_1 a0_2 a0_3)) else (spec_RecOk.j0 k true a0_0 a0_1 a0_2 a0_3))) else (spec_RecOk.j0 k true a0_0 a0_1 a0_2 a0_3)))) else (some false))
def spec_l11Copy.l0 : Nat → Int → List (S88) → List (S88) → Option ((List (S88)))
  | 0, _, _, _ => none
  | k + 1, x4, x125000, x127000 => if x4 < (x125000.length : Int) then (if 0 ≤ x4 then ((some (([] : List Int) : List Int)).bind fun y128 => (if y128.length + ((rd_T88 x125000 x4).f1).length < 17592186044416 then (if x127000.length < 4398046511104 then (spec_l11Copy.l0 k (wrap64 (x4 + 1)) x125000 (x127000 ++ [(⟨(rd_T88 x125000 x4).f0, (y128 ++ ((rd_T88 x125000 x4).f1))⟩ : S88)])) else (none)) else (none))) else (none)) else (some x127000)
def spec_l11Copy.f (k : Nat) (l0_0 : List (S88)) : Option ((List (S88))) := spec_l11Copy.l0 k 0 l0_0 ([] : List (S88))
def spec_l11Root.f (l0_0 : List (S88)) (a1 : Int) : Option (Bool) := if a1 = (-1) then (some true) else ((spec_l01In.f a1 0 (wrap64 ((l0_0.length : Int) - 1))).bind fun t117 => (if t117 = true then (if 0 ≤ a1 then (if a1 < (l0_0.length : Int) then (some (!((rd_T88 l0_0 a1).f0))) else (none)) else (none)) else (some false)))
def spec_l11Get.f (l0_0 : List (S88)) (a1 : Int) (a2 : Int) : Option (Int) := if a1 < 0 then (some 0) else (if 0 ≤ a1 then (if a1 < (l0_0.length : Int) then (if 0 ≤ (wrap64 (Int.tdiv a2 4)) then (if (wrap64 (Int.tdiv a2 4)) < (((rd_T88 l0_0 a1).f1).length : Int) then (if (rd ((rd_T88 l0_0 a1).f1) (wrap64 (Int.tdiv a2 4))) < 0 then (some 0) else (if 0 ≤ (rd ((rd_T88 l0_0 a1).f1) (wrap64 (Int.tdiv a2 4))) then (if (rd ((rd_T88 l0_0 a1).f1) (wrap64 (Int.tdiv a2 4))) < (l0_0.length : Int) then (if 0 ≤ (Int.tmod a2 4) then (if (Int.tmod a2 4) < (((rd_T88 l0_0 (rd ((rd_T88 l0_0 a1).f1) (wrap64 (Int.tdiv a2 4)))).f1).length : Int) then (some (rd ((rd_T88 l0_0 (rd ((rd_T88 l0_0 a1).f1) (wrap64 (Int.tdiv a2 4)))).f1) (Int.tmod a2 4))) else (none)) else (none)) else (none)) else (none))) else (none)) else (none)) else (none)) else (none))
def spec_l12At.l0 : Nat → Int → Int → List (S53) → List (S88) → Int → Option (Int)
  | 0, _, _, _, _, _ => none
  | k + 1, x1, x5, x244000, x244001, x244002 => if x5 < (x244000.length : Int) then (if 0 ≤ x5 then (if ((rd_T53 x244000 x5).f0) = x1 then (some x5) else (spec_l12At.l0 k x1 (wrap64 (x5 + 1)) x244000 x244001 x244002)) else (none)) else (some (-1))
def spec_l12At.f (k : Nat) (l0_0 : List (S53)) (l0_1 : List (S88)) (a0_2 : Int) (a1 : Int) : Option (Int) := spec_l12At.l0 k a1 0 l0_0 l0_1 a0_2
def spec_l11Has.l0 : Nat → Int → List Bool → Int → List (S88) → Option (List Bool)
  | 0, _, _, _, _ => none
  | k + 1, x1, x5, x6, x139000 => if x6 < 4 then (if 0 ≤ x1 then (if x1 < (x139000.length : Int) then (if 0 ≤ x6 then (if x6 < (((rd_T88 x139000 x1).f1).length : Int) then (if (rd ((rd_T88 x139000 x1).f1) x6) ≥ 0 then (if 0 ≤ (rd ((rd_T88 x139000 x1).f1) x6) then (if (rd ((rd_T88 x139000 x1).f1) x6) < (x5.length : Int) then (spec_l11Has.l0 k x1 (x5.set ((rd ((rd_T88 x139000 x1).f1) x6) : Int).toNat true) (wrap64 (x6 + 1)) x139000) else (none)) else (none)) else (spec_l11Has.l0 k x1 x5 (wrap64 (x6 + 1)) x139000)) else (none)) else (none)) else (none)) else (none)) else (some x5)
def spec_l11Has.f (k : Nat) (l0_0 : List (S88)) (a1 : Int) : Option (List Bool) := if 0 ≤ (l0_0.length : Int) then (if ((l0_0.length : Int) : Int).toNat ≤ 281474976710656 then ((some (List.replicate ((l0_0.length : Int) : Int).toNat false : List Bool)).bind fun y139 => (if a1 < 0 then (some y139) else (if 0 ≤ a1 then (if a1 < (y139.length : Int) then (spec_l11Has.l0 k a1 (y139.set (a1 : Int).toNat true) 0 l0_0) else (none)) else (none)))) else (none)) else (none)
mutual
def spec_SweepArena.j1 : Nat → List Int → List Int → Bool → List (S88) → Option ((List (S88)) × List Int)
  | 0, _, _, _, _ => none
  | k + 1, x1, x6, x7, x149000 => if x7 = true then (if 0 ≤ (x149000.length : Int) then (if ((x149000.length : Int) : Int).toNat ≤ 281474976710656 then (spec_SweepArena.l1 k x1 x6 (List.replicate ((x149000.length : Int) : Int).toNat false) 0 x149000) else (none)) else (none)) else ((spec_l11Copy.f k x149000).bind fun t159 => (some (t159, x6)))
def spec_SweepArena.l1 : Nat → List Int → List Int → List Bool → Int → List (S88) → Option ((List (S88)) × List Int)
  | 0, _, _, _, _, _ => none
  | k + 1, x1, x6, x9, x10, x149000 => if x10 < (x1.length : Int) then (if 0 ≤ x10 then ((spec_l11Has.f k x149000 (rd x1 x10)).bind fun t166 => (spec_SweepArena.l2 k x1 x6 x9 x10 t166 0 x149000)) else (none)) else (if 0 ≤ (x149000.length : Int) then (if ((x149000.length : Int) : Int).toNat ≤ 35184372088832 then (spec_SweepArena.l3 k x6 x9 (List.replicate ((x149000.length : Int) : Int).toNat 0) 0 x149000 ([] : List (S88))) else (none)) else (none))
def spec_SweepArena.l2 : Nat → List Int → List Int → List Bool → Int → List Bool → Int → List (S88) → Option ((List (S88)) × List Int)
  | 0, _, _, _, _, _, _, _ => none
  | k + 1, x1, x6, x9, x10, x11, x12, x149000 => if x12 < (x11.length : Int) then (if 0 ≤ x12 then (if x12 < (x9.length : Int) then (if rdOf false x9 x12 = true then (spec_SweepArena.l2 k x1 x6 (x9.set (x12 : Int).toNat true) x10 x11 (wrap64 (x12 + 1)) x149000) else (spec_SweepArena.l2 k x1 x6 (x9.set (x12 : Int).toNat (rdOf false x11 x12)) x10 x11 (wrap64 (x12 + 1)) x149000)) else (none)) else (none)) else (spec_SweepArena.l1 k x1 x6 x9 (wrap64 (x10 + 1)) x149000)
def spec_SweepArena.l3 : Nat → List Int → List Bool → List Int → Int → List (S88) → List (S88) → Option ((List (S88)) × List Int)
  | 0, _, _, _, _, _, _ => none
  | k + 1, x6, x9, x13, x15, x149000, x177000 => if x15 < (x149000.length : Int) then (if 0 ≤ x15 then (if x15 < (x9.length : Int) then (if rdOf false x9 x15 = true then ((some (([] : List Int) : List Int)).bind fun y179 => (if y179.length + ((rd_T88 x149000 x15).f1).length < 17592186044416 then (spec_SweepArena.l4 k x6 x9 x13 x15 0 x149000 x177000 ((rd_T88 x149000 x15).f0) (y179 ++ ((rd_T88 x149000 x15).f1))) else (none))) else (spec_SweepArena.l3 k x6 x9 x13 (wrap64 (x15 + 1)) x149000 x177000)) else (none)) else (none)) else (spec_SweepArena.l5 k x6 x13 0 x177000)
def spec_SweepArena.l4 : Nat → List Int → List Bool → List Int → Int → Int → List (S88) → List (S88) → Bool → List Int → Option ((List (S88)) × List Int)
  | 0, _, _, _, _, _, _, _, _, _ => none
  | k + 1, x6, x9, x13, x15, x17, x149000, x177000, x187000, x187001 => if x17 < 4 then (spec_SweepArena.j6 k x6 x9 x13 x15 x17 (!x187000) x149000 x177000 x187000 x187001) else (spec_SweepArena.j6 k x6 x9 x13 x15 x17 false x149000 x177000 x187000 x187001)
def spec_SweepArena.j6 : Nat → List Int → List Bool → List Int → Int → Int → Bool → List (S88) → List (S88) → Bool → List Int → Option ((List (S88)) × List Int)
  | 0, _, _, _, _, _, _, _, _, _, _ => none
  | k + 1, x6, x9, x13, x15, x17, x117, x149000, x177000, x187000, x187001 => if x117 = true then (if 0 ≤ x17 then (if x17 < (x187001.length : Int) then (if (rd x187001 x17) ≥ 0 then (if 0 ≤ (rd x187001 x17) then (if (rd x187001 x17) < (x13.length : Int) then (spec_SweepArena.l4 k x6 x9 x13 x15 (wrap64 (x17 + 1)) x149000 x177000 x187000 (x187001.set (x17 : Int).toNat (rd x13 (rd x187001 x17)))) else (none)) else (none)) else (spec_SweepArena.l4 k x6 x9 x13 x15 (wrap64 (x17 + 1)) x149000 x177000 x187000 x187001)) else (none)) else (none)) else (if 0 ≤ x15 then (if x15 < (x13.length : Int) then (if x177000.length < 4398046511104 then (spec_SweepArena.l3 k x6 x9 (x13.set (x15 : Int).toNat (x177000.length : Int)) (wrap64 (x15 + 1)) x149000 (x177000 ++ [(⟨x187000, x187001⟩ : S88)])) else (none)) else (none)) else (none))
def spec_SweepArena.l5 : Nat → List Int → List Int → Int → List (S88) → Option ((List (S88)) × List Int)
  | 0, _, _, _, _ => none
  | k + 1, x6, x13, x18, x177000 => if x18 < (x6.length : Int) then (if 0 ≤ x18 then (if (rd x6 x18) ≥ 0 then (if 0 ≤ (rd x6 x18) then (if (rd x6 x18) < (x13.length : Int) then (spec_SweepArena.l5 k (x6.set (x18 : Int).toNat (rd x13 (rd x6 x18))) x13 (wrap64 (x18 + 1)) x177000) else (none)) else (none)) else (spec_SweepArena.l5 k x6 x13 (wrap64 (x18 + 1)) x177000)) else (none)) else (some (x177000, x6))
def spec_SweepArena.l0 : Nat → List Int → List Int → Bool → Int → List (S88) → Option ((List (S88)) × List Int)
  | 0, _, _, _, _, _ => none
  | k + 1, x1, x6, x7, x8, x149000 => if x8 < (x1.length : Int) then (if x7 = true then (if 0 ≤ x8 then ((spec_l11Root.f x149000 (rd x1 x8)).bind fun t158 => (spec_SweepArena.l0 k x1 x6 t158 (wrap64 (x8 + 1)) x149000)) else (none)) else (spec_SweepArena.j1 k x1 x6 x7 x149000)) else (spec_SweepArena.j1 k x1 x6 x7 x149000)
end
def spec_SweepArena.f (k : Nat) (l0_0 : List (S88)) (l1 : List Int) : Option ((List (S88)) × List Int) := (some (([] : List Int) : List Int)).bind fun y150 => (if y150.length + l1.length < 17592186044416 then ((spec_ArenaOk.f k l0_0).bind fun t156 => (spec_SweepArena.l0 k l1 (y150 ++ l1) t156 0 l0_0)) else (none))
def impl_in.f (a0 : Int) (a1 : Int) (a2 : Int) : Option (Bool) := if a0 ≥ a1 then (some (decide (a0 ≤ a2))) else (some false)
def impl_isRoot.f (l0_0 : List (S88)) (a1 : Int) : Option (Bool) := (impl_in.f a1 0 (wrap64 ((l0_0.length : Int) - 1))).bind fun t502 => (if t502 = true then (if 0 ≤ a1 then (if a1 < (l0_0.length : Int) then (some (!((rd_T88 l0_0 a1).f0))) else (none)) else (none)) else (some false))
mutual
def impl_ArenaOk.l0 : Nat → List (S88) → Int → Int → List (S88) → Option (Bool)
  | 0, _, _, _, _ => none
  | k + 1, x8, x9, x10, x496000 => if x10 < x9 then (if 0 ≤ x10 then (if x10 < (x8.length : Int) then (if (((rd_T88 x8 x10).f1).length : Int) = 4 then (impl_ArenaOk.l1 k x10 x8 x9 x10 ((rd_T88 x8 x10).f1) (((rd_T88 x8 x10).f1).length : Int) 0 x496000 ((rd_T88 x8 x10).f0) ((rd_T88 x8 x10).f1)) else (some false)) else (none)) else (none)) else (some true)
def impl_ArenaOk.l1 : Nat → Int → List (S88) → Int → Int → List Int → Int → Int → List (S88) → Bool → List Int → Option (Bool)
  | 0, _, _, _, _, _, _, _, _, _, _ => none
  | k + 1, x3, x8, x9, x10, x20, x21, x22, x496000, x498000, x498001 => if x22 < x21 then (if 0 ≤ x22 then (if x22 < (x20.length : Int) then (if x498000 = true then (if (rd x20 x22) < 0 then (some false) else (impl_ArenaOk.l1 k x3 x8 x9 x10 x20 x21 (wrap64 (x22 + 1)) x496000 x498000 x498001)) else (if (rd x20 x22) = (-1) then (impl_ArenaOk.l1 k x3 x8 x9 x10 x20 x21 (wrap64 (x22 + 1)) x496000 x498000 x498001) else ((impl_in.f (rd x20 x22) 0 (wrap64 (x3 - 1))).bind fun t499 => (if t499 = true then (if 0 ≤ (rd x20 x22) then (if (rd x20 x22) < (x496000.length : Int) then (if ((rd_T88 x496000 (rd x20 x22)).f0 = true) then (impl_ArenaOk.l1 k x3 x8 x9 x10 x20 x21 (wrap64 (x22 + 1)) x496000 x498000 x498001) else (some false)) else (none)) else (none)) else (some false))))) else (none)) else (none)) else (impl_ArenaOk.l0 k x8 x9 (wrap64 (x10 + 1)) x496000)
end
def impl_ArenaOk.f (k : Nat) (l0_0 : List (S88)) : Option (Bool) := impl_ArenaOk.l0 k l0_0 (l0_0.length : Int) 0 l0_0
def impl_numberAt.f (l0_0 : List (S88)) (a1 : Int) (a2 : Int) : Option (Int) := if 0 ≤ a1 then (if a1 < (l0_0.length : Int) then (if 0 ≤ (wrap64 (Int.tdiv a2 4)) then (if (wrap64 (Int.tdiv a2 4)) < (((rd_T88 l0_0 a1).f1).length : Int) then (if (rd ((rd_T88 l0_0 a1).f1) (wrap64 (Int.tdiv a2 4))) < 0 then (some 0) else (if 0 ≤ (rd ((rd_T88 l0_0 a1).f1) (wrap64 (Int.tdiv a2 4))) then (if (rd ((rd_T88 l0_0 a1).f1) (wrap64 (Int.tdiv a2 4))) < (l0_0.length : Int) then (if 0 ≤ (Int.tmod a2 4) then (if (Int.tmod a2 4) < (((rd_T88 l0_0 (rd ((rd_T88 l0_0 a1).f1) (wrap64 (Int.tdiv a2 4)))).f1).length : Int) then (some (rd ((rd_T88 l0_0 (rd ((rd_T88 l0_0 a1).f1) (wrap64 (Int.tdiv a2 4)))).f1) (Int.tmod a2 4))) else (none)) else (none)) else (none)) else (none))) else (none)) else (none)) else (none)) else (none)
def impl_GetAt.f (k : Nat) (l0_0 : List (S88)) (a1 : Int) (a2 : Int) : Option (Int) := (impl_in.f a2 0 15).bind fun t947 => (if t947 = true then ((impl_isRoot.f l0_0 a1).bind fun t948 => (if t948 = true then ((impl_ArenaOk.f k l0_0).bind fun t949 => (if t949 = true then ((impl_numberAt.f l0_0 a1 a2).bind fun t950 => (some t950)) else (some 0))) else (some 0))) else (some 0))
def impl_AllAt.l0 : Nat → Int → List Int → Int → List (S88) → Option (List Int)
  | 0, _, _, _, _ => none
  | k + 1, x1, x5, x7, x952000 => if x7 < 16 then ((impl_GetAt.f k x952000 x1 x7).bind fun t952 => (if x5.length < 17592186044416 then (impl_AllAt.l0 k x1 (x5 ++ [t952]) (wrap64 (x7 + 1)) x952000) else (none))) else (some x5)
def impl_AllAt.f (k : Nat) (l0_0 : List (S88)) (a1 : Int) : Option (List Int) := impl_AllAt.l0 k a1 ([] : List Int) 0 l0_0
mutual
def impl_chunksOf.l0 : Nat → List Int → List (S53) → Int → Int → List (S53) → List (S88) → Int → Option (List Int)
  | 0, _, _, _, _, _, _, _ => none
  | k + 1, x3, x9, x10, x11, x957000, x957001, x957002 => if x11 < x10 then (if 0 ≤ x11 then (if x11 < (x9.length : Int) then ((impl_AllAt.f k x957001 ((rd_T53 x9 x11).f1)).bind fun t959 => (impl_chunksOf.l1 k x3 x9 x10 x11 t959 (t959.length : Int) 0 x957000 x957001 x957002)) else (none)) else (none)) else (some x3)
def impl_chunksOf.l1 : Nat → List Int → List (S53) → Int → Int → List Int → Int → Int → List (S53) → List (S88) → Int → Option (List Int)
  | 0, _, _, _, _, _, _, _, _, _, _ => none
  | k + 1, x3, x9, x10, x11, x19, x20, x21, x957000, x957001, x957002 => if x21 < x20 then (if 0 ≤ x21 then (if x21 < (x19.length : Int) then (if (rd x19 x21) > 0 then (if x3.length < 17592186044416 then (impl_chunksOf.l1 k (x3 ++ [rd x19 x21]) x9 x10 x11 x19 x20 (wrap64 (x21 + 1)) x957000 x957001 x957002) else (none)) else (impl_chunksOf.l1 k x3 x9 x10 x11 x19 x20 (wrap64 (x21 + 1)) x957000 x957001 x957002)) else (none)) else (none)) else (impl_chunksOf.l0 k x3 x9 x10 (wrap64 (x11 + 1)) x957000 x957001 x957002)
end
def impl_chunksOf.f (k : Nat) (l0_0 : List (S53)) (l0_1 : List (S88)) (a0_2 : Int) : Option (List Int) := impl_chunksOf.l0 k ([] : List Int) l0_0 (l0_0.length : Int) 0 l0_0 l0_1 a0_2
def impl_LiveOf.l0 : Nat → List Int → List Int → List Int → Int → Int → Option (List Int)
  | 0, _, _, _, _, _ => none
  | k + 1, x3, x4, x11, x12, x13 => if x13 < x12 then (if 0 ≤ x13 then (if x13 < (x11.length : Int) then (if x13 = 0 then (if x4.length < 17592186044416 then (impl_LiveOf.l0 k x3 (x4 ++ [rd x11 x13]) x11 x12 (wrap64 (x13 + 1))) else (none)) else (if 0 ≤ (wrap64 (x13 - 1)) then (if (wrap64 (x13 - 1)) < (x3.length : Int) then (if (rd x3 (wrap64 (x13 - 1))) = (rd x11 x13) then (impl_LiveOf.l0 k x3 x4 x11 x12 (wrap64 (x13 + 1))) else (if x4.length < 17592186044416 then (impl_LiveOf.l0 k x3 (x4 ++ [rd x11 x13]) x11 x12 (wrap64 (x13 + 1))) else (none))) else (none)) else (none))) else (none)) else (none)) else (some x4)
def impl_LiveOf.f (k : Nat) (l0_0 : List (S53)) (l0_1 : List (S88)) (a0_2 : Int) : Option (List Int) := (impl_chunksOf.f k l0_0 l0_1 a0_2).bind fun t1086 => ((sort_Ints.f k t1086).bind fun t1089 => (impl_LiveOf.l0 k t1089 ([] : List Int) t1089 (t1086.length : Int) 0))
def impl_RefsOf.l0 : Nat → Int → Int → List Int → Int → Int → Option (Int)
  | 0, _, _, _, _, _ => none
  | k + 1, x1, x5, x9, x10, x11 => if x11 < x10 then (if 0 ≤ x11 then (if x11 < (x9.length : Int) then (if (rd x9 x11) = x1 then (impl_RefsOf.l0 k x1 (wrap64 (x5 + 1)) x9 x10 (wrap64 (x11 + 1))) else (impl_RefsOf.l0 k x1 x5 x9 x10 (wrap64 (x11 + 1)))) else (none)) else (none)) else (some x5)
def impl_RefsOf.f (k : Nat) (l0_0 : List (S53)) (l0_1 : List (S88)) (a0_2 : Int) (a1 : Int) : Option (Int) := (impl_chunksOf.f k l0_0 l0_1 a0_2).bind fun t1099 => (impl_RefsOf.l0 k a1 0 t1099 (t1099.length : Int) 0)
def spec_GetAt.f (k : Nat) (l0_0 : List (S88)) (a1 : Int) (a2 : Int) : Option (Int) := (spec_ArenaOk.f k l0_0).bind fun t1104 => (if t1104 = true then ((spec_l11Root.f l0_0 a1).bind fun t1105 => (if t1105 = true then ((spec_l01In.f a2 0 15).bind fun t1106 => (if t1106 = true then ((spec_l11Get.f l0_0 a1 a2).bind fun t1107 => (some t1107)) else (some 0))) else (some 0))) else (some 0))
def spec_AllAt.l0 : Nat → Int → List Int → Int → List (S88) → Option (List Int)
  | 0, _, _, _, _ => none
  | k + 1, x1, x5, x6, x1109000 => if x6 < 16 then ((spec_GetAt.f k x1109000 x1 x6).bind fun t1112 => (if x5.length < 17592186044416 then (spec_AllAt.l0 k x1 (x5 ++ [t1112]) (wrap64 (x6 + 1)) x1109000) else (none))) else (some x5)
def spec_AllAt.f (k : Nat) (l0_0 : List (S88)) (a1 : Int) : Option (List Int) := spec_AllAt.l0 k a1 (([] : List Int)) 0 l0_0
mutual
def spec_RefsOf.l0 : Nat → Int → Int → Int → List (S53) → List (S88) → Int → Option (Int)
  | 0, _, _, _, _, _, _ => none
  | k + 1, x1, x5, x6, x1117000, x1117001, x1117002 => if x6 < (x1117000.length : Int) then (spec_RefsOf.j1 k x1 x5 x6 (decide (x1 > 0)) x1117000 x1117001 x1117002) else (spec_RefsOf.j1 k x1 x5 x6 false x1117000 x1117001 x1117002)
def spec_RefsOf.j1 : Nat → Int → Int → Int → Bool → List (S53) → List (S88) → Int → Option (Int)
  | 0, _, _, _, _, _, _, _ => none
  | k + 1, x1, x5, x6, x17, x1117000, x1117001, x1117002 => if x17 = true then (if 0 ≤ x6 then (if x6 < (x1117000.length : Int) then ((spec_AllAt.f k x1117001 ((rd_T53 x1117000 x6).f1)).bind fun t1118 => (spec_RefsOf.l1 k x1 x5 x6 t1118 0 x1117000 x1117001 x1117002)) else (none)) else (none)) else (some x5)
def spec_RefsOf.l1 : Nat → Int → Int → Int → List Int → Int → List (S53) → List (S88) → Int → Option (Int)
  | 0, _, _, _, _, _, _, _, _ => none
  | k + 1, x1, x5, x6, x7, x8, x1117000, x1117001, x1117002 => if x8 < (x7.length : Int) then (if 0 ≤ x8 then (if (rd x7 x8) = x1 then (spec_RefsOf.l1 k x1 (wrap64 (x5 + 1)) x6 x7 (wrap64 (x8 + 1)) x1117000 x1117001 x1117002) else (spec_RefsOf.l1 k x1 x5 x6 x7 (wrap64 (x8 + 1)) x1117000 x1117001 x1117002)) else (none)) else (spec_RefsOf.l0 k x1 x5 (wrap64 (x6 + 1)) x1117000 x1117001 x1117002)
end
def spec_RefsOf.f (k : Nat) (l0_0 : List (S53)) (l0_1 : List (S88)) (a0_2 : Int) (a1 : Int) : Option (Int) := spec_RefsOf.l0 k a1 0 0 l0_0 l0_1 a0_2
def impl_volAt.l0 : Nat → Int → List (S53) → Int → Int → Option (Int)
  | 0, _, _, _, _ => none
  | k + 1, x1, x8, x9, x10 => if x10 < x9 then (if 0 ≤ x10 then (if x10 < (x8.length : Int) then (if ((rd_T53 x8 x10).f0) = x1 then (some x10) else (impl_volAt.l0 k x1 x8 x9 (wrap64 (x10 + 1)))) else (none)) else (none)) else (some (-1))
def impl_volAt.f (k : Nat) (l0_0 : List (S53)) (l0_1 : List (S88)) (a0_2 : Int) (a1 : Int) : Option (Int) := impl_volAt.l0 k a1 l0_0 (l0_0.length : Int) 0
def impl_ChunkOf.f (k : Nat) (l0_0 : List (S53)) (l0_1 : List (S88)) (a0_2 : Int) (a1 : Int) (a2 : Int) : Option (Int) := (impl_volAt.f k l0_0 l0_1 a0_2 a1).bind fun t1123 => (if t1123 < 0 then (some 0) else (if 0 ≤ t1123 then (if t1123 < (l0_0.length : Int) then ((impl_GetAt.f k l0_1 ((rd_T53 l0_0 t1123).f1) a2).bind fun t1125 => (some t1125)) else (none)) else (none)))
def laws_sameInts.l0 : Nat → List Int → List Int → Int → Option (Bool)
  | 0, _, _, _ => none
  | k + 1, x0, x1, x5 => if x5 < (x0.length : Int) then (if 0 ≤ x5 then (if x5 < (x1.length : Int) then (if (rd x0 x5) = (rd x1 x5) then (laws_sameInts.l0 k x0 x1 (wrap64 (x5 + 1))) else (some false)) else (none)) else (none)) else (some true)
def laws_sameInts.f (k : Nat) (l0 : List Int) (l1 : List Int) : Option (Bool) := if (l0.length : Int) = (l1.length : Int) then (laws_sameInts.l0 k l0 l1 0) else (some false)
mutual
def spec_l12Insert.l0 : Nat → List Int → Int → List Int → Int → Option (List Int)
  | 0, _, _, _, _ => none
  | k + 1, x0, x1, x5, x6 => if x6 < (x0.length : Int) then (if 0 ≤ x6 then (if (rd x0 x6) < x1 then (if x5.length < 17592186044416 then (spec_l12Insert.l0 k x0 x1 (x5 ++ [rd x0 x6]) (wrap64 (x6 + 1))) else (none)) else (spec_l12Insert.l0 k x0 x1 x5 (wrap64 (x6 + 1)))) else (none)) else (if x1 > 0 then (if x5.length < 17592186044416 then (spec_l12Insert.j1 k x0 x1 (x5 ++ [x1])) else (none)) else (spec_l12Insert.j1 k x0 x1 x5))
def spec_l12Insert.j1 : Nat → List Int → Int → List Int → Option (List Int)
  | 0, _, _, _ => none
  | k + 1, x0, x1, x5 => spec_l12Insert.l1 k x0 x1 x5 0
def spec_l12Insert.l1 : Nat → List Int → Int → List Int → Int → Option (List Int)
  | 0, _, _, _, _ => none
  | k + 1, x0, x1, x5, x7 => if x7 < (x0.length : Int) then (if 0 ≤ x7 then (if (rd x0 x7) > x1 then (if x5.length < 17592186044416 then (spec_l12Insert.l1 k x0 x1 (x5 ++ [rd x0 x7]) (wrap64 (x7 + 1))) else (none)) else (spec_l12Insert.l1 k x0 x1 x5 (wrap64 (x7 + 1)))) else (none)) else (some x5)
end
def spec_l12Insert.f (k : Nat) (l0 : List Int) (a1 : Int) : Option (List Int) := spec_l12Insert.l0 k l0 a1 (([] : List Int)) 0
mutual
def spec_LiveOf.l0 : Nat → List Int → Int → List (S53) → List (S88) → Int → Option (List Int)
  | 0, _, _, _, _, _ => none
  | k + 1, x3, x4, x1145000, x1145001, x1145002 => if x4 < (x1145000.length : Int) then (if 0 ≤ x4 then ((spec_AllAt.f k x1145001 ((rd_T53 x1145000 x4).f1)).bind fun t1149 => (spec_LiveOf.l1 k x3 x4 t1149 0 x1145000 x1145001 x1145002)) else (none)) else (some x3)
def spec_LiveOf.l1 : Nat → List Int → Int → List Int → Int → List (S53) → List (S88) → Int → Option (List Int)
  | 0, _, _, _, _, _, _, _ => none
  | k + 1, x3, x4, x5, x6, x1145000, x1145001, x1145002 => if x6 < (x5.length : Int) then (if 0 ≤ x6 then ((spec_l12Insert.f k x3 (rd x5 x6)).bind fun t1153 => (spec_LiveOf.l1 k t1153 x4 x5 (wrap64 (x6 + 1)) x1145000 x1145001 x1145002)) else (none)) else (spec_LiveOf.l0 k x3 (wrap64 (x4 + 1)) x1145000 x1145001 x1145002)
end
def spec_LiveOf.f (k : Nat) (l0_0 : List (S53)) (l0_1 : List (S88)) (a0_2 : Int) : Option (List Int) := spec_LiveOf.l0 k (([] : List Int)) 0 l0_0 l0_1 a0_2
def spec_l12Roots.l0 : Nat → List Int → Int → List (S53) → List (S88) → Int → Option (List Int)
  | 0, _, _, _, _, _ => none
  | k + 1, x3, x4, x200000, x200001, x200002 => if x4 < (x200000.length : Int) then (if 0 ≤ x4 then (if x3.length < 17592186044416 then (spec_l12Roots.l0 k (x3 ++ [(rd_T53 x200000 x4).f1]) (wrap64 (x4 + 1)) x200000 x200001 x200002) else (none)) else (none)) else (some x3)
def spec_l12Roots.f (k : Nat) (l0_0 : List (S53)) (l0_1 : List (S88)) (a0_2 : Int) : Option (List Int) := spec_l12Roots.l0 k (([] : List Int)) 0 l0_0 l0_1 a0_2
end Go.Proofs.Yteideicglgpfiaa.PK

/- From the print's plain functions to the own ones: small words. -/
namespace Go.Proofs.Yteideicglgpfiaa.M2
open Go Go.RowKit Go.Proofs.YteideicglgpfiaaW.PrintWords Go.Proofs.Yteideicglgpfiaa.PK
theorem w64_eq (n : Int) : w64 n = wrap64 n := IntWalk.i64_left n
theorem wu8_eq (n : Int) : Go.IntKind.wrap .u8 n = n % 256 := by simp [IntKind.wrap, IntKind.signed, IntKind.bits]
theorem int_beq (a b : Int) : (a == b) = decide (a = b) := rfl
theorem emp_eq : (⟨#[]⟩ : ByteArray).toList = [] := by kernel_rfl
theorem itE {α : Type} {c : Prop} [Decidable c] {a b : Option α} {r : α} {G : Prop} (h : (if c then a else b) = some r) (x : c → a = some r → G) (y : ¬ c → b = some r → G) : G := by
  by_cases hc : c
  · rw [if_pos hc] at h; exact x hc h
  · rw [if_neg hc] at h; exact y hc h
theorem bnE {α β : Type} {o : Option α} {f : α → Option β} {r : β} {G : Prop} (h : o.bind f = some r) (x : ∀ t, o = some t → f t = some r → G) : G := by
  obtain ⟨t, h1, h2⟩ := Option.bind_eq_some_iff.1 h; exact x t h1 h2
theorem bsE {α β : Type} {a : α} {f : α → Option β} {r : β} {G : Prop} (h : (some a).bind f = some r) (x : f a = some r → G) : G := x h
theorem noE {α : Type} {r : α} {G : Prop} (h : none = some r) : G := by cases h
theorem ite_inv {α : Type} {c : Prop} [Decidable c] {a b : Option α} {r : α} (h : (if c then a else b) = some r) : (c ∧ a = some r) ∨ (¬ c ∧ b = some r) := by
  by_cases hc : c
  · rw [if_pos hc] at h; exact .inl ⟨hc, h⟩
  · rw [if_neg hc] at h; exact .inr ⟨hc, h⟩
theorem sort_Ints.rel (k : Nat) (l : List Int) (r : List Int) (h : PK.sort_Ints.f k l = some r) (m : Nat) (_ : k ≤ m) : sort_Ints.f m l = some r := h
theorem sort_Ints.len {k : Nat} {l r : List Int} (h : sort_Ints.f k l = some r) : r.length = l.length := by
  unfold sort_Ints.f at h; split at h
  · injection h with h; rw [← h]; exact List.length_mergeSort l
  · cases h
theorem fdiv33 (a : Int) : Int.fdiv a 8589934592 = a / 8589934592 := Int.fdiv_eq_ediv_of_nonneg a (by decide)
theorem fdiv45 (a : Int) : Int.fdiv a 35184372088832 = a / 35184372088832 := Int.fdiv_eq_ediv_of_nonneg a (by decide)
theorem shlR (x y : Int) : w64 (x * 2 ^ (min y.toNat 64)) = Go.Proofs.YteideicglgpfiaaW.PrintWords.shl .i64 x y := rfl
theorem bt_eq (s : ByteArray) (i : Int) : bt s i = Go.Proofs.YteideicglgpfiaaW.PrintWords.bt s i := rfl
theorem tmodN (n : Nat) (k : Int) : Int.tmod (n : Int) k = (n : Int) % k := Int.tmod_eq_emod_of_nonneg (Int.natCast_nonneg n)
theorem rdOfB (a b : Int) : (a - b < 0) = (a < b) := by simp only [eq_iff_iff]; omega
theorem rdOfL (l : List Bool) (i : Int) : rdOf false l i = rd_T4 l i := rfl
theorem rdT3_eq (l : List Int) (i : Int) : rd_T3 l i = rd l i := rfl
theorem rdT5_eq (l : List Int) (i : Int) : rd_T5 l i = rd l i := rfl
theorem rdn3 (l : List Int) (i : Int) : rd_T3 l ((i.toNat : Nat) : Int) = rd_T3 l i := rfl
theorem rdset3 (l : List Int) (i : Int) (y : Int) (h : i < (l.length : Int)) (h0 : 0 ≤ i) : rd_T3 (l.set i.toNat y) i = y := by
  unfold rd_T3; rw [List.getD_eq_getElem?_getD, List.getElem?_set_self (by omega)]; rfl
theorem rdn5 (l : List Int) (i : Int) : rd_T5 l ((i.toNat : Nat) : Int) = rd_T5 l i := rfl
theorem rdset5 (l : List Int) (i : Int) (y : Int) (h : i < (l.length : Int)) (h0 : 0 ≤ i) : rd_T5 (l.set i.toNat y) i = y := by
  unfold rd_T5; rw [List.getD_eq_getElem?_getD, List.getElem?_set_self (by omega)]; rfl
theorem rdn88 (l : List S88) (i : Int) : rd_T88 l ((i.toNat : Nat) : Int) = rd_T88 l i := rfl
theorem rdset88 (l : List S88) (i : Int) (y : S88) (h : i < (l.length : Int)) (h0 : 0 ≤ i) : rd_T88 (l.set i.toNat y) i = y := by
  unfold rd_T88; rw [List.getD_eq_getElem?_getD, List.getElem?_set_self (by omega)]; rfl
theorem rdn4 (l : List Bool) (i : Int) : rd_T4 l ((i.toNat : Nat) : Int) = rd_T4 l i := rfl
theorem rdset4 (l : List Bool) (i : Int) (y : Bool) (h : i < (l.length : Int)) (h0 : 0 ≤ i) : rd_T4 (l.set i.toNat y) i = y := by
  unfold rd_T4; rw [List.getD_eq_getElem?_getD, List.getElem?_set_self (by omega)]; rfl
theorem rdn53 (l : List S53) (i : Int) : rd_T53 l ((i.toNat : Nat) : Int) = rd_T53 l i := rfl
theorem rdset53 (l : List S53) (i : Int) (y : S53) (h : i < (l.length : Int)) (h0 : 0 ≤ i) : rd_T53 (l.set i.toNat y) i = y := by
  unfold rd_T53; rw [List.getD_eq_getElem?_getD, List.getElem?_set_self (by omega)]; rfl
end Go.Proofs.Yteideicglgpfiaa.M2

/- What the print's plain functions answer, the own ones answer. Written by a program of this session. -/
namespace Go.Proofs.Yteideicglgpfiaa.M2
open Go Go.RowKit Go.Proofs.YteideicglgpfiaaW.PrintWords Go.Proofs.Yteideicglgpfiaa.PK
set_option linter.unusedVariables false
set_option linter.unusedSimpArgs false
theorem laws_big.rel (k : Nat) (l0 : List Int) (r) (h : PK.laws_big.f l0 = some r) (m : Nat) (hm : k ≤ m) : laws_big.f m l0 = some r := by
  rw [PK.laws_big.f] at h
  rw [laws_big.f]
  try simp only [w64_eq, wu8_eq, gt_iff_lt, ge_iff_le, int_beq, fdiv33, fdiv45, bt_eq, tmodN, rdOfB, rdOfL] at h
  try simp only [shlR]
  try simp only [w64_eq, wu8_eq, gt_iff_lt, ge_iff_le, int_beq, fdiv33, fdiv45, bt_eq, tmodN, rdOfB, rdOfL, rdT3_eq, rdT5_eq, seq, maxI, minI, emp_eq, rdn3, rdn5, rdn88, rdn4, rdn53]
  refine ?_
  all_goals (try cases h)
  all_goals (try simp only [*, if_true, if_false, ↓reduceIte, Option.bind_some, List.length_cons, List.length_nil, List.length_append, Bool.not_true, Bool.not_false, Bool.true_eq_false, Bool.false_eq_true])
  all_goals (repeat first | rw [if_pos (by omega)] | rw [if_neg (by omega)])
  all_goals first | exact h | exact h _ | exact h _ _ | exact h _ _ _ | exact h _ _ _ _ | exact h _ _ _ _ _ | exact h _ _ _ _ _ _ | exact h _ _ _ _ _ _ _ | exact h _ _ _ _ _ _ _ _ | rfl | (simp_all [-Bool.forall_bool]; done) | (simp_all [-Bool.forall_bool]; first | exact h | exact h _ | exact h _ _ | exact h _ _ _ | exact h _ _ _ _ | exact h _ _ _ _ _ | exact h _ _ _ _ _ _ | exact h _ _ _ _ _ _ _ | exact h _ _ _ _ _ _ _ _) | (simp_all [-Bool.forall_bool, emp_eq, int_beq]; done) | (simp_all [-Bool.forall_bool]; (intros; simp_all; done)) | (simp_all [-Bool.forall_bool, rdset3, rdset5, rdset88, rdset4, rdset53]; done) | grind

theorem spec_l01Byte.rel (k : Nat) (s0_0 : List Int) (s0_1 : Int) (s0_2 : Int) (r) (h : PK.spec_l01Byte.f s0_0 s0_1 s0_2 = some r) (m : Nat) (hm : k ≤ m) : spec_l01Byte.f m s0_0 s0_1 s0_2 = some (r.1, s0_0, r.2.1, r.2.2) := by
  rw [PK.spec_l01Byte.f] at h
  rw [spec_l01Byte.f]
  try simp only [w64_eq, wu8_eq, gt_iff_lt, ge_iff_le, int_beq, fdiv33, fdiv45, bt_eq, tmodN, rdOfB, rdOfL] at h
  try simp only [shlR]
  try simp only [w64_eq, wu8_eq, gt_iff_lt, ge_iff_le, int_beq, fdiv33, fdiv45, bt_eq, tmodN, rdOfB, rdOfL, rdT3_eq, rdT5_eq, seq, maxI, minI, emp_eq, rdn3, rdn5, rdn88, rdn4, rdn53]
  refine (itE h (fun q h => (itE h (fun q h => ?_) (fun q h => (noE h)))) (fun q h => ?_))
  all_goals (try cases h)
  all_goals (try simp only [*, if_true, if_false, ↓reduceIte, Option.bind_some, List.length_cons, List.length_nil, List.length_append, Bool.not_true, Bool.not_false, Bool.true_eq_false, Bool.false_eq_true])
  all_goals (repeat first | rw [if_pos (by omega)] | rw [if_neg (by omega)])
  all_goals first | exact h | exact h _ | exact h _ _ | exact h _ _ _ | exact h _ _ _ _ | exact h _ _ _ _ _ | exact h _ _ _ _ _ _ | exact h _ _ _ _ _ _ _ | exact h _ _ _ _ _ _ _ _ | rfl | (simp_all [-Bool.forall_bool]; done) | (simp_all [-Bool.forall_bool]; first | exact h | exact h _ | exact h _ _ | exact h _ _ _ | exact h _ _ _ _ | exact h _ _ _ _ _ | exact h _ _ _ _ _ _ | exact h _ _ _ _ _ _ _ | exact h _ _ _ _ _ _ _ _) | (simp_all [-Bool.forall_bool, emp_eq, int_beq]; done) | (simp_all [-Bool.forall_bool]; (intros; simp_all; done)) | (simp_all [-Bool.forall_bool, rdset3, rdset5, rdset88, rdset4, rdset53]; done) | grind

theorem spec_l01Below.rel (k : Nat) (s0_0 : List Int) (s0_1 : Int) (s0_2 : Int) (a1 : Int) (r) (h : PK.spec_l01Below.f s0_0 s0_1 s0_2 a1 = some r) (m : Nat) (hm : k ≤ m) : spec_l01Below.f m a1 s0_0 s0_1 s0_2 = some (r.1, s0_0, r.2.1, r.2.2) := by
  rw [PK.spec_l01Below.f] at h
  rw [spec_l01Below.f]
  try simp only [w64_eq, wu8_eq, gt_iff_lt, ge_iff_le, int_beq, fdiv33, fdiv45, bt_eq, tmodN, rdOfB, rdOfL] at h
  try simp only [shlR]
  try simp only [w64_eq, wu8_eq, gt_iff_lt, ge_iff_le, int_beq, fdiv33, fdiv45, bt_eq, tmodN, rdOfB, rdOfL, rdT3_eq, rdT5_eq, seq, maxI, minI, emp_eq, rdn3, rdn5, rdn88, rdn4, rdn53]
  refine (itE h (fun q h => ?_) (fun q h => (itE h (fun q h => (bnE h (fun _ g h => (fun g => (itE h (fun q h => (noE h)) (fun q h => ?_))) (spec_l01Byte.rel m _ _ _ _ g m (by omega))))) (fun q h => (bnE h (fun _ g h => (fun g => (bnE h (fun _ g h => (fun g => (bnE h (fun _ g h => (fun g => (bnE h (fun _ g h => (fun g => (itE h (fun q h => (noE h)) (fun q h => ?_))) (spec_l01Byte.rel m _ _ _ _ g m (by omega))))) (spec_l01Byte.rel m _ _ _ _ g m (by omega))))) (spec_l01Byte.rel m _ _ _ _ g m (by omega))))) (spec_l01Byte.rel m _ _ _ _ g m (by omega))))))))
  all_goals (try cases h)
  all_goals (try simp only [*, if_true, if_false, ↓reduceIte, Option.bind_some, List.length_cons, List.length_nil, List.length_append, Bool.not_true, Bool.not_false, Bool.true_eq_false, Bool.false_eq_true])
  all_goals (repeat first | rw [if_pos (by omega)] | rw [if_neg (by omega)])
  all_goals first | exact h | exact h _ | exact h _ _ | exact h _ _ _ | exact h _ _ _ _ | exact h _ _ _ _ _ | exact h _ _ _ _ _ _ | exact h _ _ _ _ _ _ _ | exact h _ _ _ _ _ _ _ _ | rfl | (simp_all [-Bool.forall_bool]; done) | (simp_all [-Bool.forall_bool]; first | exact h | exact h _ | exact h _ _ | exact h _ _ _ | exact h _ _ _ _ | exact h _ _ _ _ _ | exact h _ _ _ _ _ _ | exact h _ _ _ _ _ _ _ | exact h _ _ _ _ _ _ _ _) | (simp_all [-Bool.forall_bool, emp_eq, int_beq]; done) | (simp_all [-Bool.forall_bool]; (intros; simp_all; done)) | (simp_all [-Bool.forall_bool, rdset3, rdset5, rdset88, rdset4, rdset53]; done) | grind

theorem spec_l01PickInt.rel (k : Nat) (s0_0 : List Int) (s0_1 : Int) (s0_2 : Int) (l1 : List Int) (r) (h : PK.spec_l01PickInt.f s0_0 s0_1 s0_2 l1 = some r) (m : Nat) (hm : k ≤ m) : spec_l01PickInt.f m l1 s0_0 s0_1 s0_2 = some (r.1, s0_0, r.2.1, r.2.2) := by
  rw [PK.spec_l01PickInt.f] at h
  rw [spec_l01PickInt.f]
  try simp only [w64_eq, wu8_eq, gt_iff_lt, ge_iff_le, int_beq, fdiv33, fdiv45, bt_eq, tmodN, rdOfB, rdOfL] at h
  try simp only [shlR]
  try simp only [w64_eq, wu8_eq, gt_iff_lt, ge_iff_le, int_beq, fdiv33, fdiv45, bt_eq, tmodN, rdOfB, rdOfL, rdT3_eq, rdT5_eq, seq, maxI, minI, emp_eq, rdn3, rdn5, rdn88, rdn4, rdn53]
  refine (bnE h (fun _ g h => (fun g => (itE h (fun q h => (itE h (fun q h => ?_) (fun q h => (noE h)))) (fun q h => (noE h)))) (spec_l01Below.rel m _ _ _ _ _ g m (by omega))))
  all_goals (try cases h)
  all_goals (try simp only [*, if_true, if_false, ↓reduceIte, Option.bind_some, List.length_cons, List.length_nil, List.length_append, Bool.not_true, Bool.not_false, Bool.true_eq_false, Bool.false_eq_true])
  all_goals (repeat first | rw [if_pos (by omega)] | rw [if_neg (by omega)])
  all_goals first | exact h | exact h _ | exact h _ _ | exact h _ _ _ | exact h _ _ _ _ | exact h _ _ _ _ _ | exact h _ _ _ _ _ _ | exact h _ _ _ _ _ _ _ | exact h _ _ _ _ _ _ _ _ | rfl | (simp_all [-Bool.forall_bool]; done) | (simp_all [-Bool.forall_bool]; first | exact h | exact h _ | exact h _ _ | exact h _ _ _ | exact h _ _ _ _ | exact h _ _ _ _ _ | exact h _ _ _ _ _ _ | exact h _ _ _ _ _ _ _ | exact h _ _ _ _ _ _ _ _) | (simp_all [-Bool.forall_bool, emp_eq, int_beq]; done) | (simp_all [-Bool.forall_bool]; (intros; simp_all; done)) | (simp_all [-Bool.forall_bool, rdset3, rdset5, rdset88, rdset4, rdset53]; done) | grind
end Go.Proofs.Yteideicglgpfiaa.M2

/- What the print's plain functions answer, the own ones answer. Written by a program of this session. -/
namespace Go.Proofs.Yteideicglgpfiaa.M2
open Go Go.RowKit Go.Proofs.YteideicglgpfiaaW.PrintWords Go.Proofs.Yteideicglgpfiaa.PK
set_option linter.unusedVariables false
set_option linter.unusedSimpArgs false
theorem spec_l09Rec.rel (k : Nat) (s0_0 : List Int) (s0_1 : Int) (s0_2 : Int) (r) (h : PK.spec_l09Rec.f s0_0 s0_1 s0_2 = some r) (m : Nat) (hm : k ≤ m) : spec_l09Rec.f m s0_0 s0_1 s0_2 = some (r.1, r.2.1, r.2.2.1, r.2.2.2.1, s0_0, r.2.2.2.2.1, r.2.2.2.2.2) := by
  rw [PK.spec_l09Rec.f] at h
  rw [spec_l09Rec.f]
  try simp only [w64_eq, wu8_eq, gt_iff_lt, ge_iff_le, int_beq, fdiv33, fdiv45, bt_eq, tmodN, rdOfB, rdOfL] at h
  try simp only [shlR]
  try simp only [w64_eq, wu8_eq, gt_iff_lt, ge_iff_le, int_beq, fdiv33, fdiv45, bt_eq, tmodN, rdOfB, rdOfL, rdT3_eq, rdT5_eq, seq, maxI, minI, emp_eq, rdn3, rdn5, rdn88, rdn4, rdn53]
  refine (bnE h (fun _ g h => (fun g => (bnE h (fun _ g h => (fun g => (itE h (fun q h => (bnE h (fun _ g h => (fun g => ?_) (spec_l01PickInt.rel m _ _ _ _ _ g m (by omega))))) (fun q h => (itE h (fun q h => (bnE h (fun _ g h => (fun g => (bnE h (fun _ g h => (fun g => ?_) (spec_l01Below.rel m _ _ _ _ _ g m (by omega))))) (spec_l01Below.rel m _ _ _ _ _ g m (by omega))))) (fun q h => (itE h (fun q h => (bnE h (fun _ g h => (fun g => ?_) (spec_l01Below.rel m _ _ _ _ _ g m (by omega))))) (fun q h => ?_))))))) (spec_l01Below.rel m _ _ _ _ _ g m (by omega))))) (spec_l01PickInt.rel m _ _ _ _ _ g m (by omega))))
  all_goals (try cases h)
  all_goals (try simp only [*, if_true, if_false, ↓reduceIte, Option.bind_some, List.length_cons, List.length_nil, List.length_append, Bool.not_true, Bool.not_false, Bool.true_eq_false, Bool.false_eq_true])
  all_goals (repeat first | rw [if_pos (by omega)] | rw [if_neg (by omega)])
  all_goals first | exact h | exact h _ | exact h _ _ | exact h _ _ _ | exact h _ _ _ _ | exact h _ _ _ _ _ | exact h _ _ _ _ _ _ | exact h _ _ _ _ _ _ _ | exact h _ _ _ _ _ _ _ _ | rfl | (simp_all [-Bool.forall_bool]; done) | (simp_all [-Bool.forall_bool]; first | exact h | exact h _ | exact h _ _ | exact h _ _ _ | exact h _ _ _ _ | exact h _ _ _ _ _ | exact h _ _ _ _ _ _ | exact h _ _ _ _ _ _ _ | exact h _ _ _ _ _ _ _ _) | (simp_all [-Bool.forall_bool, emp_eq, int_beq]; done) | (simp_all [-Bool.forall_bool]; (intros; simp_all; done)) | (simp_all [-Bool.forall_bool, rdset3, rdset5, rdset88, rdset4, rdset53]; done) | grind

theorem spec_l01Once.rel (k : Nat) (s0_0 : List Int) (s0_1 : Int) (s0_2 : Int) (a1 : Int) (r) (h : PK.spec_l01Once.f s0_0 s0_1 s0_2 a1 = some r) (m : Nat) (hm : k ≤ m) : spec_l01Once.f m a1 s0_0 s0_1 s0_2 = some (r.1, s0_0, r.2.1, r.2.2) := by
  rw [PK.spec_l01Once.f] at h
  rw [spec_l01Once.f]
  try simp only [w64_eq, wu8_eq, gt_iff_lt, ge_iff_le, int_beq, fdiv33, fdiv45, bt_eq, tmodN, rdOfB, rdOfL] at h
  try simp only [shlR]
  try simp only [w64_eq, wu8_eq, gt_iff_lt, ge_iff_le, int_beq, fdiv33, fdiv45, bt_eq, tmodN, rdOfB, rdOfL, rdT3_eq, rdT5_eq, seq, maxI, minI, emp_eq, rdn3, rdn5, rdn88, rdn4, rdn53]
  refine (bnE h (fun _ g h => (fun g => ?_) (spec_l01Below.rel m _ _ _ _ _ g m (by omega))))
  all_goals (try cases h)
  all_goals (try simp only [*, if_true, if_false, ↓reduceIte, Option.bind_some, List.length_cons, List.length_nil, List.length_append, Bool.not_true, Bool.not_false, Bool.true_eq_false, Bool.false_eq_true])
  all_goals (repeat first | rw [if_pos (by omega)] | rw [if_neg (by omega)])
  all_goals first | exact h | exact h _ | exact h _ _ | exact h _ _ _ | exact h _ _ _ _ | exact h _ _ _ _ _ | exact h _ _ _ _ _ _ | exact h _ _ _ _ _ _ _ | exact h _ _ _ _ _ _ _ _ | rfl | (simp_all [-Bool.forall_bool]; done) | (simp_all [-Bool.forall_bool]; first | exact h | exact h _ | exact h _ _ | exact h _ _ _ | exact h _ _ _ _ | exact h _ _ _ _ _ | exact h _ _ _ _ _ _ | exact h _ _ _ _ _ _ _ | exact h _ _ _ _ _ _ _ _) | (simp_all [-Bool.forall_bool, emp_eq, int_beq]; done) | (simp_all [-Bool.forall_bool]; (intros; simp_all; done)) | (simp_all [-Bool.forall_bool, rdset3, rdset5, rdset88, rdset4, rdset53]; done) | grind

theorem spec_l01New.rel_l (k : Nat) : (∀ x0 x3 x4 r, PK.spec_l01New.l0 k x0 x3 x4 = some r → ∀ m, k ≤ m → spec_l01New.c3 m x0 x3 x4 = some (r.1, r.2.1, r.2.2)) := by
  induction k using Nat.strongRecOn with
  | _ k ih =>
  have il0 := fun k' hk' => (ih k' hk')
  clear ih
  intro x0 x3 x4 r h m hm
  cases k with
  | zero => simp only [PK.spec_l01New.l0] at h; cases h
  | succ k =>
    obtain ⟨m, rfl⟩ : ∃ m', m = m' + 1 := ⟨m - 1, by omega⟩
    rw [PK.spec_l01New.l0] at h
    rw [spec_l01New.c3]
    try simp only [w64_eq, wu8_eq, gt_iff_lt, ge_iff_le, int_beq, fdiv33, fdiv45, bt_eq, tmodN, rdOfB, rdOfL] at h
    try simp only [shlR]
    try simp only [w64_eq, wu8_eq, gt_iff_lt, ge_iff_le, int_beq, fdiv33, fdiv45, bt_eq, tmodN, rdOfB, rdOfL, rdT3_eq, rdT5_eq, seq, maxI, minI, emp_eq, rdn3, rdn5, rdn88, rdn4, rdn53]
    refine (itE h (fun q h => (itE h (fun q h => (itE h (fun q h => ((fun h => ?_) (il0 _ (by omega) _ _ _ _ h m (by omega)))) (fun q h => (noE h)))) (fun q h => ?_))) (fun q h => ?_))
    all_goals clear il0
    all_goals (try cases h)
    all_goals (try simp only [*, if_true, if_false, ↓reduceIte, Option.bind_some, List.length_cons, List.length_nil, List.length_append, Bool.not_true, Bool.not_false, Bool.true_eq_false, Bool.false_eq_true])
    all_goals (repeat first | rw [if_pos (by omega)] | rw [if_neg (by omega)])
    all_goals first | exact h | exact h _ | exact h _ _ | exact h _ _ _ | exact h _ _ _ _ | exact h _ _ _ _ _ | exact h _ _ _ _ _ _ | exact h _ _ _ _ _ _ _ | exact h _ _ _ _ _ _ _ _ | rfl | (simp_all [-Bool.forall_bool]; done) | (simp_all [-Bool.forall_bool]; first | exact h | exact h _ | exact h _ _ | exact h _ _ _ | exact h _ _ _ _ | exact h _ _ _ _ _ | exact h _ _ _ _ _ _ | exact h _ _ _ _ _ _ _ | exact h _ _ _ _ _ _ _ _) | (simp_all [-Bool.forall_bool, emp_eq, int_beq]; done) | (simp_all [-Bool.forall_bool]; (intros; simp_all; done)) | (simp_all [-Bool.forall_bool, rdset3, rdset5, rdset88, rdset4, rdset53]; done) | grind
theorem spec_l01New.rel (k : Nat) (l0 : List Int) (r) (h : PK.spec_l01New.f k l0 = some r) (m : Nat) (hm : k ≤ m) : spec_l01New.f m l0 = some (r.1, r.2.1, r.2.2) := by
  have il0 := fun k' (_ : k' < k + 1) => (spec_l01New.rel_l k')
  rw [PK.spec_l01New.f] at h
  rw [spec_l01New.f]
  try simp only [w64_eq, wu8_eq, gt_iff_lt, ge_iff_le, int_beq, fdiv33, fdiv45, bt_eq, tmodN, rdOfB, rdOfL] at h
  try simp only [shlR]
  try simp only [w64_eq, wu8_eq, gt_iff_lt, ge_iff_le, int_beq, fdiv33, fdiv45, bt_eq, tmodN, rdOfB, rdOfL, rdT3_eq, rdT5_eq, seq, maxI, minI, emp_eq, rdn3, rdn5, rdn88, rdn4, rdn53]
  refine ((fun h => ?_) (il0 _ (by omega) _ _ _ _ h m (by omega)))
  all_goals clear il0
  all_goals (try cases h)
  all_goals (try simp only [*, if_true, if_false, ↓reduceIte, Option.bind_some, List.length_cons, List.length_nil, List.length_append, Bool.not_true, Bool.not_false, Bool.true_eq_false, Bool.false_eq_true])
  all_goals (repeat first | rw [if_pos (by omega)] | rw [if_neg (by omega)])
  all_goals first | exact h | exact h _ | exact h _ _ | exact h _ _ _ | exact h _ _ _ _ | exact h _ _ _ _ _ | exact h _ _ _ _ _ _ | exact h _ _ _ _ _ _ _ | exact h _ _ _ _ _ _ _ _ | rfl | (simp_all [-Bool.forall_bool]; done) | (simp_all [-Bool.forall_bool]; first | exact h | exact h _ | exact h _ _ | exact h _ _ _ | exact h _ _ _ _ | exact h _ _ _ _ _ | exact h _ _ _ _ _ _ | exact h _ _ _ _ _ _ _ | exact h _ _ _ _ _ _ _ _) | (simp_all [-Bool.forall_bool, emp_eq, int_beq]; done) | (simp_all [-Bool.forall_bool]; (intros; simp_all; done)) | (simp_all [-Bool.forall_bool, rdset3, rdset5, rdset88, rdset4, rdset53]; done) | grind
end Go.Proofs.Yteideicglgpfiaa.M2

/- What the print's plain functions answer, the own ones answer. Written by a program of this session. -/
namespace Go.Proofs.Yteideicglgpfiaa.M2
open Go Go.RowKit Go.Proofs.YteideicglgpfiaaW.PrintWords Go.Proofs.Yteideicglgpfiaa.PK
set_option linter.unusedVariables false
set_option linter.unusedSimpArgs false
theorem impl_in.rel (k : Nat) (a0 : Int) (a1 : Int) (a2 : Int) (r) (h : PK.impl_in.f a0 a1 a2 = some r) (m : Nat) (hm : k ≤ m) : impl_in.f m a0 a1 a2 = some r := by
  rw [PK.impl_in.f] at h
  rw [impl_in.f]
  try simp only [w64_eq, wu8_eq, gt_iff_lt, ge_iff_le, int_beq, fdiv33, fdiv45, bt_eq, tmodN, rdOfB, rdOfL] at h
  try simp only [shlR]
  try simp only [w64_eq, wu8_eq, gt_iff_lt, ge_iff_le, int_beq, fdiv33, fdiv45, bt_eq, tmodN, rdOfB, rdOfL, rdT3_eq, rdT5_eq, seq, maxI, minI, emp_eq, rdn3, rdn5, rdn88, rdn4, rdn53]
  refine (itE h (fun q h => ?_) (fun q h => ?_))
  all_goals (try cases h)
  all_goals (try simp only [*, if_true, if_false, ↓reduceIte, Option.bind_some, List.length_cons, List.length_nil, List.length_append, Bool.not_true, Bool.not_false, Bool.true_eq_false, Bool.false_eq_true])
  all_goals (repeat first | rw [if_pos (by omega)] | rw [if_neg (by omega)])
  all_goals first | exact h | exact h _ | exact h _ _ | exact h _ _ _ | exact h _ _ _ _ | exact h _ _ _ _ _ | exact h _ _ _ _ _ _ | exact h _ _ _ _ _ _ _ | exact h _ _ _ _ _ _ _ _ | rfl | (simp_all [-Bool.forall_bool]; done) | (simp_all [-Bool.forall_bool]; first | exact h | exact h _ | exact h _ _ | exact h _ _ _ | exact h _ _ _ _ | exact h _ _ _ _ _ | exact h _ _ _ _ _ _ | exact h _ _ _ _ _ _ _ | exact h _ _ _ _ _ _ _ _) | (simp_all [-Bool.forall_bool, emp_eq, int_beq]; done) | (simp_all [-Bool.forall_bool]; (intros; simp_all; done)) | (simp_all [-Bool.forall_bool, rdset3, rdset5, rdset88, rdset4, rdset53]; done) | grind

theorem impl_isRoot.rel (k : Nat) (l0_0 : List (S88)) (a1 : Int) (r) (h : PK.impl_isRoot.f l0_0 a1 = some r) (m : Nat) (hm : k ≤ m) : impl_isRoot.f m l0_0 a1 = some r := by
  rw [PK.impl_isRoot.f] at h
  rw [impl_isRoot.f]
  try simp only [w64_eq, wu8_eq, gt_iff_lt, ge_iff_le, int_beq, fdiv33, fdiv45, bt_eq, tmodN, rdOfB, rdOfL] at h
  try simp only [shlR]
  try simp only [w64_eq, wu8_eq, gt_iff_lt, ge_iff_le, int_beq, fdiv33, fdiv45, bt_eq, tmodN, rdOfB, rdOfL, rdT3_eq, rdT5_eq, seq, maxI, minI, emp_eq, rdn3, rdn5, rdn88, rdn4, rdn53]
  refine (bnE h (fun _ g h => (fun g => (itE h (fun q h => (itE h (fun q h => (itE h (fun q h => ?_) (fun q h => (noE h)))) (fun q h => (noE h)))) (fun q h => ?_))) (impl_in.rel m _ _ _ _ g m (by omega))))
  all_goals (try cases h)
  all_goals (try simp only [*, if_true, if_false, ↓reduceIte, Option.bind_some, List.length_cons, List.length_nil, List.length_append, Bool.not_true, Bool.not_false, Bool.true_eq_false, Bool.false_eq_true])
  all_goals (repeat first | rw [if_pos (by omega)] | rw [if_neg (by omega)])
  all_goals first | exact h | exact h _ | exact h _ _ | exact h _ _ _ | exact h _ _ _ _ | exact h _ _ _ _ _ | exact h _ _ _ _ _ _ | exact h _ _ _ _ _ _ _ | exact h _ _ _ _ _ _ _ _ | rfl | (simp_all [-Bool.forall_bool]; done) | (simp_all [-Bool.forall_bool]; first | exact h | exact h _ | exact h _ _ | exact h _ _ _ | exact h _ _ _ _ | exact h _ _ _ _ _ | exact h _ _ _ _ _ _ | exact h _ _ _ _ _ _ _ | exact h _ _ _ _ _ _ _ _) | (simp_all [-Bool.forall_bool, emp_eq, int_beq]; done) | (simp_all [-Bool.forall_bool]; (intros; simp_all; done)) | (simp_all [-Bool.forall_bool, rdset3, rdset5, rdset88, rdset4, rdset53]; done) | grind

theorem impl_ArenaOk.rel_l (k : Nat) : (∀ x8 x9 x10 x496000 r, PK.impl_ArenaOk.l0 k x8 x9 x10 x496000 = some r → ∀ m, k ≤ m → impl_ArenaOk.c2 m x8 x9 x10 x496000 = some r) ∧ (∀ x3 x8 x9 x10 x20 x21 x22 x496000 x498000 x498001 r, PK.impl_ArenaOk.l1 k x3 x8 x9 x10 x20 x21 x22 x496000 x498000 x498001 = some r → ∀ m, k ≤ m → impl_ArenaOk.c7 m x3 x8 x9 x10 x20 x21 x22 x496000 x498000 x498001 = some r) := by
  induction k using Nat.strongRecOn with
  | _ k ih =>
  have il0 := fun k' hk' => (ih k' hk').1
  have il1 := fun k' hk' => (ih k' hk').2
  clear ih
  refine ⟨?_, ?_⟩
  · intro x8 x9 x10 x496000 r h m hm
    cases k with
    | zero => simp only [PK.impl_ArenaOk.l0] at h; cases h
    | succ k =>
      obtain ⟨m, rfl⟩ : ∃ m', m = m' + 1 := ⟨m - 1, by omega⟩
      rw [PK.impl_ArenaOk.l0] at h
      rw [impl_ArenaOk.c2]
      try simp only [w64_eq, wu8_eq, gt_iff_lt, ge_iff_le, int_beq, fdiv33, fdiv45, bt_eq, tmodN, rdOfB, rdOfL] at h
      try simp only [shlR]
      try simp only [w64_eq, wu8_eq, gt_iff_lt, ge_iff_le, int_beq, fdiv33, fdiv45, bt_eq, tmodN, rdOfB, rdOfL, rdT3_eq, rdT5_eq, seq, maxI, minI, emp_eq, rdn3, rdn5, rdn88, rdn4, rdn53]
      refine (itE h (fun q h => (itE h (fun q h => (itE h (fun q h => (itE h (fun q h => ((fun h => ?_) (il1 _ (by omega) _ _ _ _ _ _ _ _ _ _ _ h m (by omega)))) (fun q h => ?_))) (fun q h => (noE h)))) (fun q h => (noE h)))) (fun q h => ?_))
      all_goals clear il0 il1
      all_goals (try cases h)
      all_goals (try simp only [*, if_true, if_false, ↓reduceIte, Option.bind_some, List.length_cons, List.length_nil, List.length_append, Bool.not_true, Bool.not_false, Bool.true_eq_false, Bool.false_eq_true])
      all_goals (repeat first | rw [if_pos (by omega)] | rw [if_neg (by omega)])
      all_goals first | exact h | exact h _ | exact h _ _ | exact h _ _ _ | exact h _ _ _ _ | exact h _ _ _ _ _ | exact h _ _ _ _ _ _ | exact h _ _ _ _ _ _ _ | exact h _ _ _ _ _ _ _ _ | rfl | (simp_all [-Bool.forall_bool]; done) | (simp_all [-Bool.forall_bool]; first | exact h | exact h _ | exact h _ _ | exact h _ _ _ | exact h _ _ _ _ | exact h _ _ _ _ _ | exact h _ _ _ _ _ _ | exact h _ _ _ _ _ _ _ | exact h _ _ _ _ _ _ _ _) | (simp_all [-Bool.forall_bool, emp_eq, int_beq]; done) | (simp_all [-Bool.forall_bool]; (intros; simp_all; done)) | (simp_all [-Bool.forall_bool, rdset3, rdset5, rdset88, rdset4, rdset53]; done) | grind
  · intro x3 x8 x9 x10 x20 x21 x22 x496000 x498000 x498001 r h m hm
    cases k with
    | zero => simp only [PK.impl_ArenaOk.l1] at h; cases h
    | succ k =>
      obtain ⟨m, rfl⟩ : ∃ m', m = m' + 1 := ⟨m - 1, by omega⟩
      rw [PK.impl_ArenaOk.l1] at h
      rw [impl_ArenaOk.c7]
      try simp only [w64_eq, wu8_eq, gt_iff_lt, ge_iff_le, int_beq, fdiv33, fdiv45, bt_eq, tmodN, rdOfB, rdOfL] at h
      try simp only [shlR]
      try simp only [w64_eq, wu8_eq, gt_iff_lt, ge_iff_le, int_beq, fdiv33, fdiv45, bt_eq, tmodN, rdOfB, rdOfL, rdT3_eq, rdT5_eq, seq, maxI, minI, emp_eq, rdn3, rdn5, rdn88, rdn4, rdn53]
      refine (itE h (fun q h => (itE h (fun q h => (itE h (fun q h => (itE h (fun q h => (itE h (fun q h => ?_) (fun q h => ((fun h => ?_) (il1 _ (by omega) _ _ _ _ _ _ _ _ _ _ _ h m (by omega)))))) (fun q h => (itE h (fun q h => ((fun h => ?_) (il1 _ (by omega) _ _ _ _ _ _ _ _ _ _ _ h m (by omega)))) (fun q h => (bnE h (fun _ g h => (fun g => (itE h (fun q h => (itE h (fun q h => (itE h (fun q h => (itE h (fun q h => ((fun h => ?_) (il1 _ (by omega) _ _ _ _ _ _ _ _ _ _ _ h m (by omega)))) (fun q h => ?_))) (fun q h => (noE h)))) (fun q h => (noE h)))) (fun q h => ?_))) (impl_in.rel m _ _ _ _ g m (by omega))))))))) (fun q h => (noE h)))) (fun q h => (noE h)))) (fun q h => ((fun h => ?_) (il0 _ (by omega) _ _ _ _ _ h m (by omega)))))
      all_goals clear il0 il1
      all_goals (try cases h)
      all_goals (try simp only [*, if_true, if_false, ↓reduceIte, Option.bind_some, List.length_cons, List.length_nil, List.length_append, Bool.not_true, Bool.not_false, Bool.true_eq_false, Bool.false_eq_true])
      all_goals (repeat first | rw [if_pos (by omega)] | rw [if_neg (by omega)])
      all_goals first | exact h | exact h _ | exact h _ _ | exact h _ _ _ | exact h _ _ _ _ | exact h _ _ _ _ _ | exact h _ _ _ _ _ _ | exact h _ _ _ _ _ _ _ | exact h _ _ _ _ _ _ _ _ | rfl | (simp_all [-Bool.forall_bool]; done) | (simp_all [-Bool.forall_bool]; first | exact h | exact h _ | exact h _ _ | exact h _ _ _ | exact h _ _ _ _ | exact h _ _ _ _ _ | exact h _ _ _ _ _ _ | exact h _ _ _ _ _ _ _ | exact h _ _ _ _ _ _ _ _) | (simp_all [-Bool.forall_bool, emp_eq, int_beq]; done) | (simp_all [-Bool.forall_bool]; (intros; simp_all; done)) | (simp_all [-Bool.forall_bool, rdset3, rdset5, rdset88, rdset4, rdset53]; done) | grind
theorem impl_ArenaOk.rel (k : Nat) (l0_0 : List (S88)) (r) (h : PK.impl_ArenaOk.f k l0_0 = some r) (m : Nat) (hm : k ≤ m) : impl_ArenaOk.f m l0_0 = some r := by
  have il0 := fun k' (_ : k' < k + 1) => (impl_ArenaOk.rel_l k').1
  have il1 := fun k' (_ : k' < k + 1) => (impl_ArenaOk.rel_l k').2
  rw [PK.impl_ArenaOk.f] at h
  rw [impl_ArenaOk.f]
  try simp only [w64_eq, wu8_eq, gt_iff_lt, ge_iff_le, int_beq, fdiv33, fdiv45, bt_eq, tmodN, rdOfB, rdOfL] at h
  try simp only [shlR]
  try simp only [w64_eq, wu8_eq, gt_iff_lt, ge_iff_le, int_beq, fdiv33, fdiv45, bt_eq, tmodN, rdOfB, rdOfL, rdT3_eq, rdT5_eq, seq, maxI, minI, emp_eq, rdn3, rdn5, rdn88, rdn4, rdn53]
  refine ((fun h => ?_) (il0 _ (by omega) _ _ _ _ _ h m (by omega)))
  all_goals clear il0 il1
  all_goals (try cases h)
  all_goals (try simp only [*, if_true, if_false, ↓reduceIte, Option.bind_some, List.length_cons, List.length_nil, List.length_append, Bool.not_true, Bool.not_false, Bool.true_eq_false, Bool.false_eq_true])
  all_goals (repeat first | rw [if_pos (by omega)] | rw [if_neg (by omega)])
  all_goals first | exact h | exact h _ | exact h _ _ | exact h _ _ _ | exact h _ _ _ _ | exact h _ _ _ _ _ | exact h _ _ _ _ _ _ | exact h _ _ _ _ _ _ _ | exact h _ _ _ _ _ _ _ _ | rfl | (simp_all [-Bool.forall_bool]; done) | (simp_all [-Bool.forall_bool]; first | exact h | exact h _ | exact h _ _ | exact h _ _ _ | exact h _ _ _ _ | exact h _ _ _ _ _ | exact h _ _ _ _ _ _ | exact h _ _ _ _ _ _ _ | exact h _ _ _ _ _ _ _ _) | (simp_all [-Bool.forall_bool, emp_eq, int_beq]; done) | (simp_all [-Bool.forall_bool]; (intros; simp_all; done)) | (simp_all [-Bool.forall_bool, rdset3, rdset5, rdset88, rdset4, rdset53]; done) | grind
end Go.Proofs.Yteideicglgpfiaa.M2

/- What the print's plain functions answer, the own ones answer. Written by a program of this session. -/
namespace Go.Proofs.Yteideicglgpfiaa.M2
open Go Go.RowKit Go.Proofs.YteideicglgpfiaaW.PrintWords Go.Proofs.Yteideicglgpfiaa.PK
set_option linter.unusedVariables false
set_option linter.unusedSimpArgs false
theorem impl_numberAt.rel (k : Nat) (l0_0 : List (S88)) (a1 : Int) (a2 : Int) (r) (h : PK.impl_numberAt.f l0_0 a1 a2 = some r) (m : Nat) (hm : k ≤ m) : impl_numberAt.f m l0_0 a1 a2 = some r := by
  rw [PK.impl_numberAt.f] at h
  rw [impl_numberAt.f]
  try simp only [w64_eq, wu8_eq, gt_iff_lt, ge_iff_le, int_beq, fdiv33, fdiv45, bt_eq, tmodN, rdOfB, rdOfL] at h
  try simp only [shlR]
  try simp only [w64_eq, wu8_eq, gt_iff_lt, ge_iff_le, int_beq, fdiv33, fdiv45, bt_eq, tmodN, rdOfB, rdOfL, rdT3_eq, rdT5_eq, seq, maxI, minI, emp_eq, rdn3, rdn5, rdn88, rdn4, rdn53]
  refine (itE h (fun q h => (itE h (fun q h => (itE h (fun q h => (itE h (fun q h => (itE h (fun q h => ?_) (fun q h => (itE h (fun q h => (itE h (fun q h => (itE h (fun q h => (itE h (fun q h => ?_) (fun q h => (noE h)))) (fun q h => (noE h)))) (fun q h => (noE h)))) (fun q h => (noE h)))))) (fun q h => (noE h)))) (fun q h => (noE h)))) (fun q h => (noE h)))) (fun q h => (noE h)))
  all_goals (try cases h)
  all_goals (try simp only [*, if_true, if_false, ↓reduceIte, Option.bind_some, List.length_cons, List.length_nil, List.length_append, Bool.not_true, Bool.not_false, Bool.true_eq_false, Bool.false_eq_true])
  all_goals (repeat first | rw [if_pos (by omega)] | rw [if_neg (by omega)])
  all_goals first | exact h | exact h _ | exact h _ _ | exact h _ _ _ | exact h _ _ _ _ | exact h _ _ _ _ _ | exact h _ _ _ _ _ _ | exact h _ _ _ _ _ _ _ | exact h _ _ _ _ _ _ _ _ | rfl | (simp_all [-Bool.forall_bool]; done) | (simp_all [-Bool.forall_bool]; first | exact h | exact h _ | exact h _ _ | exact h _ _ _ | exact h _ _ _ _ | exact h _ _ _ _ _ | exact h _ _ _ _ _ _ | exact h _ _ _ _ _ _ _ | exact h _ _ _ _ _ _ _ _) | (simp_all [-Bool.forall_bool, emp_eq, int_beq]; done) | (simp_all [-Bool.forall_bool]; (intros; simp_all; done)) | (simp_all [-Bool.forall_bool, rdset3, rdset5, rdset88, rdset4, rdset53]; done) | grind

theorem impl_GetAt.rel (k : Nat) (l0_0 : List (S88)) (a1 : Int) (a2 : Int) (r) (h : PK.impl_GetAt.f k l0_0 a1 a2 = some r) (m : Nat) (hm : k ≤ m) : impl_GetAt.f m l0_0 a1 a2 = some r := by
  rw [PK.impl_GetAt.f] at h
  rw [impl_GetAt.f]
  try simp only [w64_eq, wu8_eq, gt_iff_lt, ge_iff_le, int_beq, fdiv33, fdiv45, bt_eq, tmodN, rdOfB, rdOfL] at h
  try simp only [shlR]
  try simp only [w64_eq, wu8_eq, gt_iff_lt, ge_iff_le, int_beq, fdiv33, fdiv45, bt_eq, tmodN, rdOfB, rdOfL, rdT3_eq, rdT5_eq, seq, maxI, minI, emp_eq, rdn3, rdn5, rdn88, rdn4, rdn53]
  refine (bnE h (fun _ g h => (fun g => (itE h (fun q h => (bnE h (fun _ g h => (fun g => (itE h (fun q h => (bnE h (fun _ g h => (fun g => (itE h (fun q h => (bnE h (fun _ g h => (fun g => ?_) (impl_numberAt.rel m _ _ _ _ g m (by omega))))) (fun q h => ?_))) (impl_ArenaOk.rel _ _ _ g m (by omega))))) (fun q h => ?_))) (impl_isRoot.rel m _ _ _ g m (by omega))))) (fun q h => ?_))) (impl_in.rel m _ _ _ _ g m (by omega))))
  all_goals (try cases h)
  all_goals (try simp only [*, if_true, if_false, ↓reduceIte, Option.bind_some, List.length_cons, List.length_nil, List.length_append, Bool.not_true, Bool.not_false, Bool.true_eq_false, Bool.false_eq_true])
  all_goals (repeat first | rw [if_pos (by omega)] | rw [if_neg (by omega)])
  all_goals first | exact h | exact h _ | exact h _ _ | exact h _ _ _ | exact h _ _ _ _ | exact h _ _ _ _ _ | exact h _ _ _ _ _ _ | exact h _ _ _ _ _ _ _ | exact h _ _ _ _ _ _ _ _ | rfl | (simp_all [-Bool.forall_bool]; done) | (simp_all [-Bool.forall_bool]; first | exact h | exact h _ | exact h _ _ | exact h _ _ _ | exact h _ _ _ _ | exact h _ _ _ _ _ | exact h _ _ _ _ _ _ | exact h _ _ _ _ _ _ _ | exact h _ _ _ _ _ _ _ _) | (simp_all [-Bool.forall_bool, emp_eq, int_beq]; done) | (simp_all [-Bool.forall_bool]; (intros; simp_all; done)) | (simp_all [-Bool.forall_bool, rdset3, rdset5, rdset88, rdset4, rdset53]; done) | grind

theorem impl_AllAt.rel_l (k : Nat) : (∀ x1 x5 x7 x952000 r, PK.impl_AllAt.l0 k x1 x5 x7 x952000 = some r → ∀ m, k ≤ m → impl_AllAt.c3 m x1 x7 x952000 x5 = some r) := by
  induction k using Nat.strongRecOn with
  | _ k ih =>
  have il0 := fun k' hk' => (ih k' hk')
  clear ih
  intro x1 x5 x7 x952000 r h m hm
  cases k with
  | zero => simp only [PK.impl_AllAt.l0] at h; cases h
  | succ k =>
    obtain ⟨m, rfl⟩ : ∃ m', m = m' + 1 := ⟨m - 1, by omega⟩
    rw [PK.impl_AllAt.l0] at h
    rw [impl_AllAt.c3]
    try simp only [w64_eq, wu8_eq, gt_iff_lt, ge_iff_le, int_beq, fdiv33, fdiv45, bt_eq, tmodN, rdOfB, rdOfL] at h
    try simp only [shlR]
    try simp only [w64_eq, wu8_eq, gt_iff_lt, ge_iff_le, int_beq, fdiv33, fdiv45, bt_eq, tmodN, rdOfB, rdOfL, rdT3_eq, rdT5_eq, seq, maxI, minI, emp_eq, rdn3, rdn5, rdn88, rdn4, rdn53]
    refine (itE h (fun q h => (bnE h (fun _ g h => (fun g => (itE h (fun q h => ((fun h => ?_) (il0 _ (by omega) _ _ _ _ _ h m (by omega)))) (fun q h => (noE h)))) (impl_GetAt.rel _ _ _ _ _ g m (by omega))))) (fun q h => ?_))
    all_goals clear il0
    all_goals (try cases h)
    all_goals (try simp only [*, if_true, if_false, ↓reduceIte, Option.bind_some, List.length_cons, List.length_nil, List.length_append, Bool.not_true, Bool.not_false, Bool.true_eq_false, Bool.false_eq_true])
    all_goals (repeat first | rw [if_pos (by omega)] | rw [if_neg (by omega)])
    all_goals first | exact h | exact h _ | exact h _ _ | exact h _ _ _ | exact h _ _ _ _ | exact h _ _ _ _ _ | exact h _ _ _ _ _ _ | exact h _ _ _ _ _ _ _ | exact h _ _ _ _ _ _ _ _ | rfl | (simp_all [-Bool.forall_bool]; done) | (simp_all [-Bool.forall_bool]; first | exact h | exact h _ | exact h _ _ | exact h _ _ _ | exact h _ _ _ _ | exact h _ _ _ _ _ | exact h _ _ _ _ _ _ | exact h _ _ _ _ _ _ _ | exact h _ _ _ _ _ _ _ _) | (simp_all [-Bool.forall_bool, emp_eq, int_beq]; done) | (simp_all [-Bool.forall_bool]; (intros; simp_all; done)) | (simp_all [-Bool.forall_bool, rdset3, rdset5, rdset88, rdset4, rdset53]; done) | grind
theorem impl_AllAt.rel (k : Nat) (l0_0 : List (S88)) (a1 : Int) (r) (h : PK.impl_AllAt.f k l0_0 a1 = some r) (m : Nat) (hm : k ≤ m) : impl_AllAt.f m l0_0 a1 = some r := by
  have il0 := fun k' (_ : k' < k + 1) => (impl_AllAt.rel_l k')
  rw [PK.impl_AllAt.f] at h
  rw [impl_AllAt.f]
  try simp only [w64_eq, wu8_eq, gt_iff_lt, ge_iff_le, int_beq, fdiv33, fdiv45, bt_eq, tmodN, rdOfB, rdOfL] at h
  try simp only [shlR]
  try simp only [w64_eq, wu8_eq, gt_iff_lt, ge_iff_le, int_beq, fdiv33, fdiv45, bt_eq, tmodN, rdOfB, rdOfL, rdT3_eq, rdT5_eq, seq, maxI, minI, emp_eq, rdn3, rdn5, rdn88, rdn4, rdn53]
  refine ((fun h => ?_) (il0 _ (by omega) _ _ _ _ _ h m (by omega)))
  all_goals clear il0
  all_goals (try cases h)
  all_goals (try simp only [*, if_true, if_false, ↓reduceIte, Option.bind_some, List.length_cons, List.length_nil, List.length_append, Bool.not_true, Bool.not_false, Bool.true_eq_false, Bool.false_eq_true])
  all_goals (repeat first | rw [if_pos (by omega)] | rw [if_neg (by omega)])
  all_goals first | exact h | exact h _ | exact h _ _ | exact h _ _ _ | exact h _ _ _ _ | exact h _ _ _ _ _ | exact h _ _ _ _ _ _ | exact h _ _ _ _ _ _ _ | exact h _ _ _ _ _ _ _ _ | rfl | (simp_all [-Bool.forall_bool]; done) | (simp_all [-Bool.forall_bool]; first | exact h | exact h _ | exact h _ _ | exact h _ _ _ | exact h _ _ _ _ | exact h _ _ _ _ _ | exact h _ _ _ _ _ _ | exact h _ _ _ _ _ _ _ | exact h _ _ _ _ _ _ _ _) | (simp_all [-Bool.forall_bool, emp_eq, int_beq]; done) | (simp_all [-Bool.forall_bool]; (intros; simp_all; done)) | (simp_all [-Bool.forall_bool, rdset3, rdset5, rdset88, rdset4, rdset53]; done) | grind
end Go.Proofs.Yteideicglgpfiaa.M2

/- What the print's plain functions answer, the own ones answer. Written by a program of this session. -/
namespace Go.Proofs.Yteideicglgpfiaa.M2
open Go Go.RowKit Go.Proofs.YteideicglgpfiaaW.PrintWords Go.Proofs.Yteideicglgpfiaa.PK
set_option linter.unusedVariables false
set_option linter.unusedSimpArgs false
theorem impl_chunksOf.rel_l (k : Nat) : (∀ x3 x9 x10 x11 x957000 x957001 x957002 r, PK.impl_chunksOf.l0 k x3 x9 x10 x11 x957000 x957001 x957002 = some r → ∀ m, k ≤ m → impl_chunksOf.c3 m x9 x10 x11 x957000 x957001 x957002 x3 = some r) ∧ (∀ x3 x9 x10 x11 x19 x20 x21 x957000 x957001 x957002 r, PK.impl_chunksOf.l1 k x3 x9 x10 x11 x19 x20 x21 x957000 x957001 x957002 = some r → ∀ m, k ≤ m → impl_chunksOf.c6 m x9 x10 x11 x20 x21 x957000 x957001 x957002 x3 x19 = some r) := by
  induction k using Nat.strongRecOn with
  | _ k ih =>
  have il0 := fun k' hk' => (ih k' hk').1
  have il1 := fun k' hk' => (ih k' hk').2
  clear ih
  refine ⟨?_, ?_⟩
  · intro x3 x9 x10 x11 x957000 x957001 x957002 r h m hm
    cases k with
    | zero => simp only [PK.impl_chunksOf.l0] at h; cases h
    | succ k =>
      obtain ⟨m, rfl⟩ : ∃ m', m = m' + 1 := ⟨m - 1, by omega⟩
      rw [PK.impl_chunksOf.l0] at h
      rw [impl_chunksOf.c3]
      try simp only [w64_eq, wu8_eq, gt_iff_lt, ge_iff_le, int_beq, fdiv33, fdiv45, bt_eq, tmodN, rdOfB, rdOfL] at h
      try simp only [shlR]
      try simp only [w64_eq, wu8_eq, gt_iff_lt, ge_iff_le, int_beq, fdiv33, fdiv45, bt_eq, tmodN, rdOfB, rdOfL, rdT3_eq, rdT5_eq, seq, maxI, minI, emp_eq, rdn3, rdn5, rdn88, rdn4, rdn53]
      refine (itE h (fun q h => (itE h (fun q h => (itE h (fun q h => (bnE h (fun _ g h => (fun g => ((fun h => ?_) (il1 _ (by omega) _ _ _ _ _ _ _ _ _ _ _ h m (by omega)))) (impl_AllAt.rel _ _ _ _ g m (by omega))))) (fun q h => (noE h)))) (fun q h => (noE h)))) (fun q h => ?_))
      all_goals clear il0 il1
      all_goals (try cases h)
      all_goals (try simp only [*, if_true, if_false, ↓reduceIte, Option.bind_some, List.length_cons, List.length_nil, List.length_append, Bool.not_true, Bool.not_false, Bool.true_eq_false, Bool.false_eq_true])
      all_goals (repeat first | rw [if_pos (by omega)] | rw [if_neg (by omega)])
      all_goals first | exact h | exact h _ | exact h _ _ | exact h _ _ _ | exact h _ _ _ _ | exact h _ _ _ _ _ | exact h _ _ _ _ _ _ | exact h _ _ _ _ _ _ _ | exact h _ _ _ _ _ _ _ _ | rfl | (simp_all [-Bool.forall_bool]; done) | (simp_all [-Bool.forall_bool]; first | exact h | exact h _ | exact h _ _ | exact h _ _ _ | exact h _ _ _ _ | exact h _ _ _ _ _ | exact h _ _ _ _ _ _ | exact h _ _ _ _ _ _ _ | exact h _ _ _ _ _ _ _ _) | (simp_all [-Bool.forall_bool, emp_eq, int_beq]; done) | (simp_all [-Bool.forall_bool]; (intros; simp_all; done)) | (simp_all [-Bool.forall_bool, rdset3, rdset5, rdset88, rdset4, rdset53]; done) | grind
  · intro x3 x9 x10 x11 x19 x20 x21 x957000 x957001 x957002 r h m hm
    cases k with
    | zero => simp only [PK.impl_chunksOf.l1] at h; cases h
    | succ k =>
      obtain ⟨m, rfl⟩ : ∃ m', m = m' + 1 := ⟨m - 1, by omega⟩
      rw [PK.impl_chunksOf.l1] at h
      rw [impl_chunksOf.c6]
      try simp only [w64_eq, wu8_eq, gt_iff_lt, ge_iff_le, int_beq, fdiv33, fdiv45, bt_eq, tmodN, rdOfB, rdOfL] at h
      try simp only [shlR]
      try simp only [w64_eq, wu8_eq, gt_iff_lt, ge_iff_le, int_beq, fdiv33, fdiv45, bt_eq, tmodN, rdOfB, rdOfL, rdT3_eq, rdT5_eq, seq, maxI, minI, emp_eq, rdn3, rdn5, rdn88, rdn4, rdn53]
      refine (itE h (fun q h => (itE h (fun q h => (itE h (fun q h => (itE h (fun q h => (itE h (fun q h => ((fun h => ?_) (il1 _ (by omega) _ _ _ _ _ _ _ _ _ _ _ h m (by omega)))) (fun q h => (noE h)))) (fun q h => ((fun h => ?_) (il1 _ (by omega) _ _ _ _ _ _ _ _ _ _ _ h m (by omega)))))) (fun q h => (noE h)))) (fun q h => (noE h)))) (fun q h => ((fun h => ?_) (il0 _ (by omega) _ _ _ _ _ _ _ _ h m (by omega)))))
      all_goals clear il0 il1
      all_goals (try cases h)
      all_goals (try simp only [*, if_true, if_false, ↓reduceIte, Option.bind_some, List.length_cons, List.length_nil, List.length_append, Bool.not_true, Bool.not_false, Bool.true_eq_false, Bool.false_eq_true])
      all_goals (repeat first | rw [if_pos (by omega)] | rw [if_neg (by omega)])
      all_goals first | exact h | exact h _ | exact h _ _ | exact h _ _ _ | exact h _ _ _ _ | exact h _ _ _ _ _ | exact h _ _ _ _ _ _ | exact h _ _ _ _ _ _ _ | exact h _ _ _ _ _ _ _ _ | rfl | (simp_all [-Bool.forall_bool]; done) | (simp_all [-Bool.forall_bool]; first | exact h | exact h _ | exact h _ _ | exact h _ _ _ | exact h _ _ _ _ | exact h _ _ _ _ _ | exact h _ _ _ _ _ _ | exact h _ _ _ _ _ _ _ | exact h _ _ _ _ _ _ _ _) | (simp_all [-Bool.forall_bool, emp_eq, int_beq]; done) | (simp_all [-Bool.forall_bool]; (intros; simp_all; done)) | (simp_all [-Bool.forall_bool, rdset3, rdset5, rdset88, rdset4, rdset53]; done) | grind
theorem impl_chunksOf.rel (k : Nat) (l0_0 : List (S53)) (l0_1 : List (S88)) (a0_2 : Int) (r) (h : PK.impl_chunksOf.f k l0_0 l0_1 a0_2 = some r) (m : Nat) (hm : k ≤ m) : impl_chunksOf.f m l0_0 l0_1 a0_2 = some r := by
  have il0 := fun k' (_ : k' < k + 1) => (impl_chunksOf.rel_l k').1
  have il1 := fun k' (_ : k' < k + 1) => (impl_chunksOf.rel_l k').2
  rw [PK.impl_chunksOf.f] at h
  rw [impl_chunksOf.f]
  try simp only [w64_eq, wu8_eq, gt_iff_lt, ge_iff_le, int_beq, fdiv33, fdiv45, bt_eq, tmodN, rdOfB, rdOfL] at h
  try simp only [shlR]
  try simp only [w64_eq, wu8_eq, gt_iff_lt, ge_iff_le, int_beq, fdiv33, fdiv45, bt_eq, tmodN, rdOfB, rdOfL, rdT3_eq, rdT5_eq, seq, maxI, minI, emp_eq, rdn3, rdn5, rdn88, rdn4, rdn53]
  refine ((fun h => ?_) (il0 _ (by omega) _ _ _ _ _ _ _ _ h m (by omega)))
  all_goals clear il0 il1
  all_goals (try cases h)
  all_goals (try simp only [*, if_true, if_false, ↓reduceIte, Option.bind_some, List.length_cons, List.length_nil, List.length_append, Bool.not_true, Bool.not_false, Bool.true_eq_false, Bool.false_eq_true])
  all_goals (repeat first | rw [if_pos (by omega)] | rw [if_neg (by omega)])
  all_goals first | exact h | exact h _ | exact h _ _ | exact h _ _ _ | exact h _ _ _ _ | exact h _ _ _ _ _ | exact h _ _ _ _ _ _ | exact h _ _ _ _ _ _ _ | exact h _ _ _ _ _ _ _ _ | rfl | (simp_all [-Bool.forall_bool]; done) | (simp_all [-Bool.forall_bool]; first | exact h | exact h _ | exact h _ _ | exact h _ _ _ | exact h _ _ _ _ | exact h _ _ _ _ _ | exact h _ _ _ _ _ _ | exact h _ _ _ _ _ _ _ | exact h _ _ _ _ _ _ _ _) | (simp_all [-Bool.forall_bool, emp_eq, int_beq]; done) | (simp_all [-Bool.forall_bool]; (intros; simp_all; done)) | (simp_all [-Bool.forall_bool, rdset3, rdset5, rdset88, rdset4, rdset53]; done) | grind
end Go.Proofs.Yteideicglgpfiaa.M2

/- What the print's plain functions answer, the own ones answer. Written by a program of this session. -/
namespace Go.Proofs.Yteideicglgpfiaa.M2
open Go Go.RowKit Go.Proofs.YteideicglgpfiaaW.PrintWords Go.Proofs.Yteideicglgpfiaa.PK
set_option linter.unusedVariables false
set_option linter.unusedSimpArgs false
theorem impl_LiveOf.rel_l (k : Nat) : (∀ x4 x11 x12 x13 r, PK.impl_LiveOf.l0 k x11 x4 x11 x12 x13 = some r → ∀ m, k ≤ m → impl_LiveOf.c5 m x12 x13 x11 x4 = some r) := by
  induction k using Nat.strongRecOn with
  | _ k ih =>
  have il0 := fun k' hk' => (ih k' hk')
  clear ih
  intro x4 x11 x12 x13 r h m hm
  cases k with
  | zero => simp only [PK.impl_LiveOf.l0] at h; cases h
  | succ k =>
    obtain ⟨m, rfl⟩ : ∃ m', m = m' + 1 := ⟨m - 1, by omega⟩
    rw [PK.impl_LiveOf.l0] at h
    rw [impl_LiveOf.c5]
    try simp only [w64_eq, wu8_eq, gt_iff_lt, ge_iff_le, int_beq, fdiv33, fdiv45, bt_eq, tmodN, rdOfB, rdOfL] at h
    try simp only [shlR]
    try simp only [w64_eq, wu8_eq, gt_iff_lt, ge_iff_le, int_beq, fdiv33, fdiv45, bt_eq, tmodN, rdOfB, rdOfL, rdT3_eq, rdT5_eq, seq, maxI, minI, emp_eq, rdn3, rdn5, rdn88, rdn4, rdn53]
    refine (itE h (fun q h => (itE h (fun q h => (itE h (fun q h => (itE h (fun q h => (itE h (fun q h => ((fun h => ?_) (il0 _ (by omega) _ _ _ _ _ h m (by omega)))) (fun q h => (noE h)))) (fun q h => (itE h (fun q h => (itE h (fun q h => (itE h (fun q h => ((fun h => ?_) (il0 _ (by omega) _ _ _ _ _ h m (by omega)))) (fun q h => (itE h (fun q h => ((fun h => ?_) (il0 _ (by omega) _ _ _ _ _ h m (by omega)))) (fun q h => (noE h)))))) (fun q h => (noE h)))) (fun q h => (noE h)))))) (fun q h => (noE h)))) (fun q h => (noE h)))) (fun q h => ?_))
    all_goals clear il0
    all_goals (try cases h)
    all_goals (try simp only [*, if_true, if_false, ↓reduceIte, Option.bind_some, List.length_cons, List.length_nil, List.length_append, Bool.not_true, Bool.not_false, Bool.true_eq_false, Bool.false_eq_true])
    all_goals (repeat first | rw [if_pos (by omega)] | rw [if_neg (by omega)])
    all_goals first | exact h | exact h _ | exact h _ _ | exact h _ _ _ | exact h _ _ _ _ | exact h _ _ _ _ _ | exact h _ _ _ _ _ _ | exact h _ _ _ _ _ _ _ | exact h _ _ _ _ _ _ _ _ | rfl | (simp_all [-Bool.forall_bool]; done) | (simp_all [-Bool.forall_bool]; first | exact h | exact h _ | exact h _ _ | exact h _ _ _ | exact h _ _ _ _ | exact h _ _ _ _ _ | exact h _ _ _ _ _ _ | exact h _ _ _ _ _ _ _ | exact h _ _ _ _ _ _ _ _) | (simp_all [-Bool.forall_bool, emp_eq, int_beq]; done) | (simp_all [-Bool.forall_bool]; (intros; simp_all; done)) | (simp_all [-Bool.forall_bool, rdset3, rdset5, rdset88, rdset4, rdset53]; done) | grind
theorem impl_LiveOf.rel (k : Nat) (l0_0 : List (S53)) (l0_1 : List (S88)) (a0_2 : Int) (r) (h : PK.impl_LiveOf.f k l0_0 l0_1 a0_2 = some r) (m : Nat) (hm : k ≤ m) : impl_LiveOf.f m l0_0 l0_1 a0_2 = some r := by
  have il0 := fun k' (_ : k' < k + 1) => (impl_LiveOf.rel_l k')
  rw [PK.impl_LiveOf.f] at h
  rw [impl_LiveOf.f]
  try simp only [w64_eq, wu8_eq, gt_iff_lt, ge_iff_le, int_beq, fdiv33, fdiv45, bt_eq, tmodN, rdOfB, rdOfL] at h
  try simp only [shlR]
  try simp only [w64_eq, wu8_eq, gt_iff_lt, ge_iff_le, int_beq, fdiv33, fdiv45, bt_eq, tmodN, rdOfB, rdOfL, rdT3_eq, rdT5_eq, seq, maxI, minI, emp_eq, rdn3, rdn5, rdn88, rdn4, rdn53]
  refine (bnE h (fun _ g h => (fun g => (bnE h (fun _ g h => (fun g => (fun eL => ((fun h => ?_) (il0 _ (by omega) _ _ _ _ _ h m (by omega)))) (sort_Ints.len g)) (sort_Ints.rel _ _ _ g m (by omega))))) (impl_chunksOf.rel _ _ _ _ _ g m (by omega))))
  all_goals clear il0
  all_goals (try cases h)
  all_goals (try simp only [*, if_true, if_false, ↓reduceIte, Option.bind_some, List.length_cons, List.length_nil, List.length_append, Bool.not_true, Bool.not_false, Bool.true_eq_false, Bool.false_eq_true])
  all_goals (repeat first | rw [if_pos (by omega)] | rw [if_neg (by omega)])
  all_goals first | exact h | exact h _ | exact h _ _ | exact h _ _ _ | exact h _ _ _ _ | exact h _ _ _ _ _ | exact h _ _ _ _ _ _ | exact h _ _ _ _ _ _ _ | exact h _ _ _ _ _ _ _ _ | rfl | (simp_all [-Bool.forall_bool]; done) | (simp_all [-Bool.forall_bool]; first | exact h | exact h _ | exact h _ _ | exact h _ _ _ | exact h _ _ _ _ | exact h _ _ _ _ _ | exact h _ _ _ _ _ _ | exact h _ _ _ _ _ _ _ | exact h _ _ _ _ _ _ _ _) | (simp_all [-Bool.forall_bool, emp_eq, int_beq]; done) | (simp_all [-Bool.forall_bool]; (intros; simp_all; done)) | (simp_all [-Bool.forall_bool, rdset3, rdset5, rdset88, rdset4, rdset53]; done) | grind

theorem impl_RefsOf.rel_l (k : Nat) : (∀ x1 x5 x9 x10 x11 r, PK.impl_RefsOf.l0 k x1 x5 x9 x10 x11 = some r → ∀ m, k ≤ m → impl_RefsOf.c3 m x1 x5 x10 x11 x9 = some r) := by
  induction k using Nat.strongRecOn with
  | _ k ih =>
  have il0 := fun k' hk' => (ih k' hk')
  clear ih
  intro x1 x5 x9 x10 x11 r h m hm
  cases k with
  | zero => simp only [PK.impl_RefsOf.l0] at h; cases h
  | succ k =>
    obtain ⟨m, rfl⟩ : ∃ m', m = m' + 1 := ⟨m - 1, by omega⟩
    rw [PK.impl_RefsOf.l0] at h
    rw [impl_RefsOf.c3]
    try simp only [w64_eq, wu8_eq, gt_iff_lt, ge_iff_le, int_beq, fdiv33, fdiv45, bt_eq, tmodN, rdOfB, rdOfL] at h
    try simp only [shlR]
    try simp only [w64_eq, wu8_eq, gt_iff_lt, ge_iff_le, int_beq, fdiv33, fdiv45, bt_eq, tmodN, rdOfB, rdOfL, rdT3_eq, rdT5_eq, seq, maxI, minI, emp_eq, rdn3, rdn5, rdn88, rdn4, rdn53]
    refine (itE h (fun q h => (itE h (fun q h => (itE h (fun q h => (itE h (fun q h => ((fun h => ?_) (il0 _ (by omega) _ _ _ _ _ _ h m (by omega)))) (fun q h => ((fun h => ?_) (il0 _ (by omega) _ _ _ _ _ _ h m (by omega)))))) (fun q h => (noE h)))) (fun q h => (noE h)))) (fun q h => ?_))
    all_goals clear il0
    all_goals (try cases h)
    all_goals (try simp only [*, if_true, if_false, ↓reduceIte, Option.bind_some, List.length_cons, List.length_nil, List.length_append, Bool.not_true, Bool.not_false, Bool.true_eq_false, Bool.false_eq_true])
    all_goals (repeat first | rw [if_pos (by omega)] | rw [if_neg (by omega)])
    all_goals first | exact h | exact h _ | exact h _ _ | exact h _ _ _ | exact h _ _ _ _ | exact h _ _ _ _ _ | exact h _ _ _ _ _ _ | exact h _ _ _ _ _ _ _ | exact h _ _ _ _ _ _ _ _ | rfl | (simp_all [-Bool.forall_bool]; done) | (simp_all [-Bool.forall_bool]; first | exact h | exact h _ | exact h _ _ | exact h _ _ _ | exact h _ _ _ _ | exact h _ _ _ _ _ | exact h _ _ _ _ _ _ | exact h _ _ _ _ _ _ _ | exact h _ _ _ _ _ _ _ _) | (simp_all [-Bool.forall_bool, emp_eq, int_beq]; done) | (simp_all [-Bool.forall_bool]; (intros; simp_all; done)) | (simp_all [-Bool.forall_bool, rdset3, rdset5, rdset88, rdset4, rdset53]; done) | grind
theorem impl_RefsOf.rel (k : Nat) (l0_0 : List (S53)) (l0_1 : List (S88)) (a0_2 : Int) (a1 : Int) (r) (h : PK.impl_RefsOf.f k l0_0 l0_1 a0_2 a1 = some r) (m : Nat) (hm : k ≤ m) : impl_RefsOf.f m l0_0 l0_1 a0_2 a1 = some r := by
  have il0 := fun k' (_ : k' < k + 1) => (impl_RefsOf.rel_l k')
  rw [PK.impl_RefsOf.f] at h
  rw [impl_RefsOf.f]
  try simp only [w64_eq, wu8_eq, gt_iff_lt, ge_iff_le, int_beq, fdiv33, fdiv45, bt_eq, tmodN, rdOfB, rdOfL] at h
  try simp only [shlR]
  try simp only [w64_eq, wu8_eq, gt_iff_lt, ge_iff_le, int_beq, fdiv33, fdiv45, bt_eq, tmodN, rdOfB, rdOfL, rdT3_eq, rdT5_eq, seq, maxI, minI, emp_eq, rdn3, rdn5, rdn88, rdn4, rdn53]
  refine (bnE h (fun _ g h => (fun g => ((fun h => ?_) (il0 _ (by omega) _ _ _ _ _ _ h m (by omega)))) (impl_chunksOf.rel _ _ _ _ _ g m (by omega))))
  all_goals clear il0
  all_goals (try cases h)
  all_goals (try simp only [*, if_true, if_false, ↓reduceIte, Option.bind_some, List.length_cons, List.length_nil, List.length_append, Bool.not_true, Bool.not_false, Bool.true_eq_false, Bool.false_eq_true])
  all_goals (repeat first | rw [if_pos (by omega)] | rw [if_neg (by omega)])
  all_goals first | exact h | exact h _ | exact h _ _ | exact h _ _ _ | exact h _ _ _ _ | exact h _ _ _ _ _ | exact h _ _ _ _ _ _ | exact h _ _ _ _ _ _ _ | exact h _ _ _ _ _ _ _ _ | rfl | (simp_all [-Bool.forall_bool]; done) | (simp_all [-Bool.forall_bool]; first | exact h | exact h _ | exact h _ _ | exact h _ _ _ | exact h _ _ _ _ | exact h _ _ _ _ _ | exact h _ _ _ _ _ _ | exact h _ _ _ _ _ _ _ | exact h _ _ _ _ _ _ _ _) | (simp_all [-Bool.forall_bool, emp_eq, int_beq]; done) | (simp_all [-Bool.forall_bool]; (intros; simp_all; done)) | (simp_all [-Bool.forall_bool, rdset3, rdset5, rdset88, rdset4, rdset53]; done) | grind
end Go.Proofs.Yteideicglgpfiaa.M2

/- What the print's plain functions answer, the own ones answer. Written by a program of this session. -/
namespace Go.Proofs.Yteideicglgpfiaa.M2
open Go Go.RowKit Go.Proofs.YteideicglgpfiaaW.PrintWords Go.Proofs.Yteideicglgpfiaa.PK
set_option linter.unusedVariables false
set_option linter.unusedSimpArgs false
theorem spec_l01In.rel (k : Nat) (a0 : Int) (a1 : Int) (a2 : Int) (r) (h : PK.spec_l01In.f a0 a1 a2 = some r) (m : Nat) (hm : k ≤ m) : spec_l01In.f m a0 a1 a2 = some r := by
  rw [PK.spec_l01In.f] at h
  rw [spec_l01In.f]
  try simp only [w64_eq, wu8_eq, gt_iff_lt, ge_iff_le, int_beq, fdiv33, fdiv45, bt_eq, tmodN, rdOfB, rdOfL] at h
  try simp only [shlR]
  try simp only [w64_eq, wu8_eq, gt_iff_lt, ge_iff_le, int_beq, fdiv33, fdiv45, bt_eq, tmodN, rdOfB, rdOfL, rdT3_eq, rdT5_eq, seq, maxI, minI, emp_eq, rdn3, rdn5, rdn88, rdn4, rdn53]
  refine (itE h (fun q h => ?_) (fun q h => ?_))
  all_goals (try cases h)
  all_goals (try simp only [*, if_true, if_false, ↓reduceIte, Option.bind_some, List.length_cons, List.length_nil, List.length_append, Bool.not_true, Bool.not_false, Bool.true_eq_false, Bool.false_eq_true])
  all_goals (repeat first | rw [if_pos (by omega)] | rw [if_neg (by omega)])
  all_goals first | exact h | exact h _ | exact h _ _ | exact h _ _ _ | exact h _ _ _ _ | exact h _ _ _ _ _ | exact h _ _ _ _ _ _ | exact h _ _ _ _ _ _ _ | exact h _ _ _ _ _ _ _ _ | rfl | (simp_all [-Bool.forall_bool]; done) | (simp_all [-Bool.forall_bool]; first | exact h | exact h _ | exact h _ _ | exact h _ _ _ | exact h _ _ _ _ | exact h _ _ _ _ _ | exact h _ _ _ _ _ _ | exact h _ _ _ _ _ _ _ | exact h _ _ _ _ _ _ _ _) | (simp_all [-Bool.forall_bool, emp_eq, int_beq]; done) | (simp_all [-Bool.forall_bool]; (intros; simp_all; done)) | (simp_all [-Bool.forall_bool, rdset3, rdset5, rdset88, rdset4, rdset53]; done) | grind

theorem spec_ArenaOk.rel_l (k : Nat) : (∀ x3 x111000 r, PK.spec_ArenaOk.l0 k x3 x111000 = some r → ∀ m, k ≤ m → spec_ArenaOk.c2 m x3 x111000 = some r) ∧ (∀ x3 x5 x111000 x113000 x113001 r, PK.spec_ArenaOk.l1 k x3 x5 x111000 x113000 x113001 = some r → ∀ m, k ≤ m → spec_ArenaOk.c8 m x3 x5 x111000 x113000 x113001 = some r) := by
  induction k using Nat.strongRecOn with
  | _ k ih =>
  have il0 := fun k' hk' => (ih k' hk').1
  have il1 := fun k' hk' => (ih k' hk').2
  clear ih
  refine ⟨?_, ?_⟩
  · intro x3 x111000 r h m hm
    cases k with
    | zero => simp only [PK.spec_ArenaOk.l0] at h; cases h
    | succ k =>
      obtain ⟨m, rfl⟩ : ∃ m', m = m' + 1 := ⟨m - 1, by omega⟩
      rw [PK.spec_ArenaOk.l0] at h
      rw [spec_ArenaOk.c2]
      try simp only [w64_eq, wu8_eq, gt_iff_lt, ge_iff_le, int_beq, fdiv33, fdiv45, bt_eq, tmodN, rdOfB, rdOfL] at h
      try simp only [shlR]
      try simp only [w64_eq, wu8_eq, gt_iff_lt, ge_iff_le, int_beq, fdiv33, fdiv45, bt_eq, tmodN, rdOfB, rdOfL, rdT3_eq, rdT5_eq, seq, maxI, minI, emp_eq, rdn3, rdn5, rdn88, rdn4, rdn53]
      refine (itE h (fun q h => (itE h (fun q h => (itE h (fun q h => ((fun h => ?_) (il1 _ (by omega) _ _ _ _ _ _ h m (by omega)))) (fun q h => ?_))) (fun q h => (noE h)))) (fun q h => ?_))
      all_goals clear il0 il1
      all_goals (try cases h)
      all_goals (try simp only [*, if_true, if_false, ↓reduceIte, Option.bind_some, List.length_cons, List.length_nil, List.length_append, Bool.not_true, Bool.not_false, Bool.true_eq_false, Bool.false_eq_true])
      all_goals (repeat first | rw [if_pos (by omega)] | rw [if_neg (by omega)])
      all_goals first | exact h | exact h _ | exact h _ _ | exact h _ _ _ | exact h _ _ _ _ | exact h _ _ _ _ _ | exact h _ _ _ _ _ _ | exact h _ _ _ _ _ _ _ | exact h _ _ _ _ _ _ _ _ | rfl | (simp_all [-Bool.forall_bool]; done) | (simp_all [-Bool.forall_bool]; first | exact h | exact h _ | exact h _ _ | exact h _ _ _ | exact h _ _ _ _ | exact h _ _ _ _ _ | exact h _ _ _ _ _ _ | exact h _ _ _ _ _ _ _ | exact h _ _ _ _ _ _ _ _) | (simp_all [-Bool.forall_bool, emp_eq, int_beq]; done) | (simp_all [-Bool.forall_bool]; (intros; simp_all; done)) | (simp_all [-Bool.forall_bool, rdset3, rdset5, rdset88, rdset4, rdset53]; done) | grind
  · intro x3 x5 x111000 x113000 x113001 r h m hm
    cases k with
    | zero => simp only [PK.spec_ArenaOk.l1] at h; cases h
    | succ k =>
      obtain ⟨m, rfl⟩ : ∃ m', m = m' + 1 := ⟨m - 1, by omega⟩
      rw [PK.spec_ArenaOk.l1] at h
      rw [spec_ArenaOk.c8]
      try simp only [w64_eq, wu8_eq, gt_iff_lt, ge_iff_le, int_beq, fdiv33, fdiv45, bt_eq, tmodN, rdOfB, rdOfL] at h
      try simp only [shlR]
      try simp only [w64_eq, wu8_eq, gt_iff_lt, ge_iff_le, int_beq, fdiv33, fdiv45, bt_eq, tmodN, rdOfB, rdOfL, rdT3_eq, rdT5_eq, seq, maxI, minI, emp_eq, rdn3, rdn5, rdn88, rdn4, rdn53]
      refine (itE h (fun q h => (itE h (fun q h => (itE h (fun q h => (itE h (fun q h => (itE h (fun q h => ?_) (fun q h => ((fun h => ?_) (il1 _ (by omega) _ _ _ _ _ _ h m (by omega)))))) (fun q h => (itE h (fun q h => ((fun h => ?_) (il1 _ (by omega) _ _ _ _ _ _ h m (by omega)))) (fun q h => (bnE h (fun _ g h => (fun g => (itE h (fun q h => (itE h (fun q h => (itE h (fun q h => (itE h (fun q h => ((fun h => ?_) (il1 _ (by omega) _ _ _ _ _ _ h m (by omega)))) (fun q h => ?_))) (fun q h => (noE h)))) (fun q h => (noE h)))) (fun q h => ?_))) (spec_l01In.rel m _ _ _ _ g m (by omega))))))))) (fun q h => (noE h)))) (fun q h => (noE h)))) (fun q h => ((fun h => ?_) (il0 _ (by omega) _ _ _ h m (by omega)))))
      all_goals clear il0 il1
      all_goals (try cases h)
      all_goals (try simp only [*, if_true, if_false, ↓reduceIte, Option.bind_some, List.length_cons, List.length_nil, List.length_append, Bool.not_true, Bool.not_false, Bool.true_eq_false, Bool.false_eq_true])
      all_goals (repeat first | rw [if_pos (by omega)] | rw [if_neg (by omega)])
      all_goals first | exact h | exact h _ | exact h _ _ | exact h _ _ _ | exact h _ _ _ _ | exact h _ _ _ _ _ | exact h _ _ _ _ _ _ | exact h _ _ _ _ _ _ _ | exact h _ _ _ _ _ _ _ _ | rfl | (simp_all [-Bool.forall_bool]; done) | (simp_all [-Bool.forall_bool]; first | exact h | exact h _ | exact h _ _ | exact h _ _ _ | exact h _ _ _ _ | exact h _ _ _ _ _ | exact h _ _ _ _ _ _ | exact h _ _ _ _ _ _ _ | exact h _ _ _ _ _ _ _ _) | (simp_all [-Bool.forall_bool, emp_eq, int_beq]; done) | (simp_all [-Bool.forall_bool]; (intros; simp_all; done)) | (simp_all [-Bool.forall_bool, rdset3, rdset5, rdset88, rdset4, rdset53]; done) | grind
theorem spec_ArenaOk.rel (k : Nat) (l0_0 : List (S88)) (r) (h : PK.spec_ArenaOk.f k l0_0 = some r) (m : Nat) (hm : k ≤ m) : spec_ArenaOk.f m l0_0 = some r := by
  have il0 := fun k' (_ : k' < k + 1) => (spec_ArenaOk.rel_l k').1
  have il1 := fun k' (_ : k' < k + 1) => (spec_ArenaOk.rel_l k').2
  rw [PK.spec_ArenaOk.f] at h
  rw [spec_ArenaOk.f]
  try simp only [w64_eq, wu8_eq, gt_iff_lt, ge_iff_le, int_beq, fdiv33, fdiv45, bt_eq, tmodN, rdOfB, rdOfL] at h
  try simp only [shlR]
  try simp only [w64_eq, wu8_eq, gt_iff_lt, ge_iff_le, int_beq, fdiv33, fdiv45, bt_eq, tmodN, rdOfB, rdOfL, rdT3_eq, rdT5_eq, seq, maxI, minI, emp_eq, rdn3, rdn5, rdn88, rdn4, rdn53]
  refine ((fun h => ?_) (il0 _ (by omega) _ _ _ h m (by omega)))
  all_goals clear il0 il1
  all_goals (try cases h)
  all_goals (try simp only [*, if_true, if_false, ↓reduceIte, Option.bind_some, List.length_cons, List.length_nil, List.length_append, Bool.not_true, Bool.not_false, Bool.true_eq_false, Bool.false_eq_true])
  all_goals (repeat first | rw [if_pos (by omega)] | rw [if_neg (by omega)])
  all_goals first | exact h | exact h _ | exact h _ _ | exact h _ _ _ | exact h _ _ _ _ | exact h _ _ _ _ _ | exact h _ _ _ _ _ _ | exact h _ _ _ _ _ _ _ | exact h _ _ _ _ _ _ _ _ | rfl | (simp_all [-Bool.forall_bool]; done) | (simp_all [-Bool.forall_bool]; first | exact h | exact h _ | exact h _ _ | exact h _ _ _ | exact h _ _ _ _ | exact h _ _ _ _ _ | exact h _ _ _ _ _ _ | exact h _ _ _ _ _ _ _ | exact h _ _ _ _ _ _ _ _) | (simp_all [-Bool.forall_bool, emp_eq, int_beq]; done) | (simp_all [-Bool.forall_bool]; (intros; simp_all; done)) | (simp_all [-Bool.forall_bool, rdset3, rdset5, rdset88, rdset4, rdset53]; done) | grind
end Go.Proofs.Yteideicglgpfiaa.M2

/- What the print's plain functions answer, the own ones answer. Written by a program of this session. -/
namespace Go.Proofs.Yteideicglgpfiaa.M2
open Go Go.RowKit Go.Proofs.YteideicglgpfiaaW.PrintWords Go.Proofs.Yteideicglgpfiaa.PK
set_option linter.unusedVariables false
set_option linter.unusedSimpArgs false
theorem spec_l11Copy.rel_l (k : Nat) : (∀ x4 x125000 x127000 r, PK.spec_l11Copy.l0 k x4 x125000 x127000 = some r → ∀ m, k ≤ m → ∀ (h66 : List S88), spec_l11Copy.c3 m x4 x125000 h66 x127000 = some r) := by
  induction k using Nat.strongRecOn with
  | _ k ih =>
  have il0 := fun k' hk' => (ih k' hk')
  clear ih
  intro x4 x125000 x127000 r h m hm h66
  cases k with
  | zero => simp only [PK.spec_l11Copy.l0] at h; cases h
  | succ k =>
    obtain ⟨m, rfl⟩ : ∃ m', m = m' + 1 := ⟨m - 1, by omega⟩
    rw [PK.spec_l11Copy.l0] at h
    rw [spec_l11Copy.c3]
    try simp only [w64_eq, wu8_eq, gt_iff_lt, ge_iff_le, int_beq, fdiv33, fdiv45, bt_eq, tmodN, rdOfB, rdOfL] at h
    try simp only [shlR]
    try simp only [w64_eq, wu8_eq, gt_iff_lt, ge_iff_le, int_beq, fdiv33, fdiv45, bt_eq, tmodN, rdOfB, rdOfL, rdT3_eq, rdT5_eq, seq, maxI, minI, emp_eq, rdn3, rdn5, rdn88, rdn4, rdn53]
    refine (itE h (fun q h => (itE h (fun q h => (bsE h (fun h => (itE h (fun q h => (itE h (fun q h => ((fun h => ?_) (il0 _ (by omega) _ _ _ _ h m (by omega)))) (fun q h => (noE h)))) (fun q h => (noE h)))))) (fun q h => (noE h)))) (fun q h => ?_))
    all_goals clear il0
    all_goals (try cases h)
    all_goals (try simp only [*, if_true, if_false, ↓reduceIte, Option.bind_some, List.length_cons, List.length_nil, List.length_append, Bool.not_true, Bool.not_false, Bool.true_eq_false, Bool.false_eq_true])
    all_goals (repeat first | rw [if_pos (by omega)] | rw [if_neg (by omega)])
    all_goals first | exact h | exact h _ | exact h _ _ | exact h _ _ _ | exact h _ _ _ _ | exact h _ _ _ _ _ | exact h _ _ _ _ _ _ | exact h _ _ _ _ _ _ _ | exact h _ _ _ _ _ _ _ _ | rfl | (simp_all [-Bool.forall_bool]; done) | (simp_all [-Bool.forall_bool]; first | exact h | exact h _ | exact h _ _ | exact h _ _ _ | exact h _ _ _ _ | exact h _ _ _ _ _ | exact h _ _ _ _ _ _ | exact h _ _ _ _ _ _ _ | exact h _ _ _ _ _ _ _ _) | (simp_all [-Bool.forall_bool, emp_eq, int_beq]; done) | (simp_all [-Bool.forall_bool]; (intros; simp_all; done)) | (simp_all [-Bool.forall_bool, rdset3, rdset5, rdset88, rdset4, rdset53]; done) | grind
theorem spec_l11Copy.rel (k : Nat) (l0_0 : List (S88)) (r) (h : PK.spec_l11Copy.f k l0_0 = some r) (m : Nat) (hm : k ≤ m) : spec_l11Copy.f m l0_0 = some r := by
  have il0 := fun k' (_ : k' < k + 1) => (spec_l11Copy.rel_l k')
  rw [PK.spec_l11Copy.f] at h
  rw [spec_l11Copy.f]
  try simp only [w64_eq, wu8_eq, gt_iff_lt, ge_iff_le, int_beq, fdiv33, fdiv45, bt_eq, tmodN, rdOfB, rdOfL] at h
  try simp only [shlR]
  try simp only [w64_eq, wu8_eq, gt_iff_lt, ge_iff_le, int_beq, fdiv33, fdiv45, bt_eq, tmodN, rdOfB, rdOfL, rdT3_eq, rdT5_eq, seq, maxI, minI, emp_eq, rdn3, rdn5, rdn88, rdn4, rdn53]
  refine ((fun h => ?_) (il0 _ (by omega) _ _ _ _ h m (by omega)))
  all_goals clear il0
  all_goals (try cases h)
  all_goals (try simp only [*, if_true, if_false, ↓reduceIte, Option.bind_some, List.length_cons, List.length_nil, List.length_append, Bool.not_true, Bool.not_false, Bool.true_eq_false, Bool.false_eq_true])
  all_goals (repeat first | rw [if_pos (by omega)] | rw [if_neg (by omega)])
  all_goals first | exact h | exact h _ | exact h _ _ | exact h _ _ _ | exact h _ _ _ _ | exact h _ _ _ _ _ | exact h _ _ _ _ _ _ | exact h _ _ _ _ _ _ _ | exact h _ _ _ _ _ _ _ _ | rfl | (simp_all [-Bool.forall_bool]; done) | (simp_all [-Bool.forall_bool]; first | exact h | exact h _ | exact h _ _ | exact h _ _ _ | exact h _ _ _ _ | exact h _ _ _ _ _ | exact h _ _ _ _ _ _ | exact h _ _ _ _ _ _ _ | exact h _ _ _ _ _ _ _ _) | (simp_all [-Bool.forall_bool, emp_eq, int_beq]; done) | (simp_all [-Bool.forall_bool]; (intros; simp_all; done)) | (simp_all [-Bool.forall_bool, rdset3, rdset5, rdset88, rdset4, rdset53]; done) | grind

theorem spec_l11Root.rel (k : Nat) (l0_0 : List (S88)) (a1 : Int) (r) (h : PK.spec_l11Root.f l0_0 a1 = some r) (m : Nat) (hm : k ≤ m) : spec_l11Root.f m l0_0 a1 = some r := by
  rw [PK.spec_l11Root.f] at h
  rw [spec_l11Root.f]
  try simp only [w64_eq, wu8_eq, gt_iff_lt, ge_iff_le, int_beq, fdiv33, fdiv45, bt_eq, tmodN, rdOfB, rdOfL] at h
  try simp only [shlR]
  try simp only [w64_eq, wu8_eq, gt_iff_lt, ge_iff_le, int_beq, fdiv33, fdiv45, bt_eq, tmodN, rdOfB, rdOfL, rdT3_eq, rdT5_eq, seq, maxI, minI, emp_eq, rdn3, rdn5, rdn88, rdn4, rdn53]
  refine (itE h (fun q h => ?_) (fun q h => (bnE h (fun _ g h => (fun g => (itE h (fun q h => (itE h (fun q h => (itE h (fun q h => ?_) (fun q h => (noE h)))) (fun q h => (noE h)))) (fun q h => ?_))) (spec_l01In.rel m _ _ _ _ g m (by omega))))))
  all_goals (try cases h)
  all_goals (try simp only [*, if_true, if_false, ↓reduceIte, Option.bind_some, List.length_cons, List.length_nil, List.length_append, Bool.not_true, Bool.not_false, Bool.true_eq_false, Bool.false_eq_true])
  all_goals (repeat first | rw [if_pos (by omega)] | rw [if_neg (by omega)])
  all_goals first | exact h | exact h _ | exact h _ _ | exact h _ _ _ | exact h _ _ _ _ | exact h _ _ _ _ _ | exact h _ _ _ _ _ _ | exact h _ _ _ _ _ _ _ | exact h _ _ _ _ _ _ _ _ | rfl | (simp_all [-Bool.forall_bool]; done) | (simp_all [-Bool.forall_bool]; first | exact h | exact h _ | exact h _ _ | exact h _ _ _ | exact h _ _ _ _ | exact h _ _ _ _ _ | exact h _ _ _ _ _ _ | exact h _ _ _ _ _ _ _ | exact h _ _ _ _ _ _ _ _) | (simp_all [-Bool.forall_bool, emp_eq, int_beq]; done) | (simp_all [-Bool.forall_bool]; (intros; simp_all; done)) | (simp_all [-Bool.forall_bool, rdset3, rdset5, rdset88, rdset4, rdset53]; done) | grind

theorem spec_l11Get.rel (k : Nat) (l0_0 : List (S88)) (a1 : Int) (a2 : Int) (r) (h : PK.spec_l11Get.f l0_0 a1 a2 = some r) (m : Nat) (hm : k ≤ m) : spec_l11Get.f m l0_0 a1 a2 = some r := by
  rw [PK.spec_l11Get.f] at h
  rw [spec_l11Get.f]
  try simp only [w64_eq, wu8_eq, gt_iff_lt, ge_iff_le, int_beq, fdiv33, fdiv45, bt_eq, tmodN, rdOfB, rdOfL] at h
  try simp only [shlR]
  try simp only [w64_eq, wu8_eq, gt_iff_lt, ge_iff_le, int_beq, fdiv33, fdiv45, bt_eq, tmodN, rdOfB, rdOfL, rdT3_eq, rdT5_eq, seq, maxI, minI, emp_eq, rdn3, rdn5, rdn88, rdn4, rdn53]
  refine (itE h (fun q h => ?_) (fun q h => (itE h (fun q h => (itE h (fun q h => (itE h (fun q h => (itE h (fun q h => (itE h (fun q h => ?_) (fun q h => (itE h (fun q h => (itE h (fun q h => (itE h (fun q h => (itE h (fun q h => ?_) (fun q h => (noE h)))) (fun q h => (noE h)))) (fun q h => (noE h)))) (fun q h => (noE h)))))) (fun q h => (noE h)))) (fun q h => (noE h)))) (fun q h => (noE h)))) (fun q h => (noE h)))))
  all_goals (try cases h)
  all_goals (try simp only [*, if_true, if_false, ↓reduceIte, Option.bind_some, List.length_cons, List.length_nil, List.length_append, Bool.not_true, Bool.not_false, Bool.true_eq_false, Bool.false_eq_true])
  all_goals (repeat first | rw [if_pos (by omega)] | rw [if_neg (by omega)])
  all_goals first | exact h | exact h _ | exact h _ _ | exact h _ _ _ | exact h _ _ _ _ | exact h _ _ _ _ _ | exact h _ _ _ _ _ _ | exact h _ _ _ _ _ _ _ | exact h _ _ _ _ _ _ _ _ | rfl | (simp_all [-Bool.forall_bool]; done) | (simp_all [-Bool.forall_bool]; first | exact h | exact h _ | exact h _ _ | exact h _ _ _ | exact h _ _ _ _ | exact h _ _ _ _ _ | exact h _ _ _ _ _ _ | exact h _ _ _ _ _ _ _ | exact h _ _ _ _ _ _ _ _) | (simp_all [-Bool.forall_bool, emp_eq, int_beq]; done) | (simp_all [-Bool.forall_bool]; (intros; simp_all; done)) | (simp_all [-Bool.forall_bool, rdset3, rdset5, rdset88, rdset4, rdset53]; done) | grind
end Go.Proofs.Yteideicglgpfiaa.M2

/- What the print's plain functions answer, the own ones answer. Written by a program of this session. -/
namespace Go.Proofs.Yteideicglgpfiaa.M2
open Go Go.RowKit Go.Proofs.YteideicglgpfiaaW.PrintWords Go.Proofs.Yteideicglgpfiaa.PK
set_option linter.unusedVariables false
set_option linter.unusedSimpArgs false
theorem spec_GetAt.rel (k : Nat) (l0_0 : List (S88)) (a1 : Int) (a2 : Int) (r) (h : PK.spec_GetAt.f k l0_0 a1 a2 = some r) (m : Nat) (hm : k ≤ m) : spec_GetAt.f m l0_0 a1 a2 = some r := by
  rw [PK.spec_GetAt.f] at h
  rw [spec_GetAt.f]
  try simp only [w64_eq, wu8_eq, gt_iff_lt, ge_iff_le, int_beq, fdiv33, fdiv45, bt_eq, tmodN, rdOfB, rdOfL] at h
  try simp only [shlR]
  try simp only [w64_eq, wu8_eq, gt_iff_lt, ge_iff_le, int_beq, fdiv33, fdiv45, bt_eq, tmodN, rdOfB, rdOfL, rdT3_eq, rdT5_eq, seq, maxI, minI, emp_eq, rdn3, rdn5, rdn88, rdn4, rdn53]
  refine (bnE h (fun _ g h => (fun g => (itE h (fun q h => (bnE h (fun _ g h => (fun g => (itE h (fun q h => (bnE h (fun _ g h => (fun g => (itE h (fun q h => (bnE h (fun _ g h => (fun g => ?_) (spec_l11Get.rel m _ _ _ _ g m (by omega))))) (fun q h => ?_))) (spec_l01In.rel m _ _ _ _ g m (by omega))))) (fun q h => ?_))) (spec_l11Root.rel m _ _ _ g m (by omega))))) (fun q h => ?_))) (spec_ArenaOk.rel _ _ _ g m (by omega))))
  all_goals (try cases h)
  all_goals (try simp only [*, if_true, if_false, ↓reduceIte, Option.bind_some, List.length_cons, List.length_nil, List.length_append, Bool.not_true, Bool.not_false, Bool.true_eq_false, Bool.false_eq_true])
  all_goals (repeat first | rw [if_pos (by omega)] | rw [if_neg (by omega)])
  all_goals first | exact h | exact h _ | exact h _ _ | exact h _ _ _ | exact h _ _ _ _ | exact h _ _ _ _ _ | exact h _ _ _ _ _ _ | exact h _ _ _ _ _ _ _ | exact h _ _ _ _ _ _ _ _ | rfl | (simp_all [-Bool.forall_bool]; done) | (simp_all [-Bool.forall_bool]; first | exact h | exact h _ | exact h _ _ | exact h _ _ _ | exact h _ _ _ _ | exact h _ _ _ _ _ | exact h _ _ _ _ _ _ | exact h _ _ _ _ _ _ _ | exact h _ _ _ _ _ _ _ _) | (simp_all [-Bool.forall_bool, emp_eq, int_beq]; done) | (simp_all [-Bool.forall_bool]; (intros; simp_all; done)) | (simp_all [-Bool.forall_bool, rdset3, rdset5, rdset88, rdset4, rdset53]; done) | grind

theorem spec_AllAt.rel_l (k : Nat) : (∀ x1 x5 x6 x1109000 r, PK.spec_AllAt.l0 k x1 x5 x6 x1109000 = some r → ∀ m, k ≤ m → spec_AllAt.c3 m x1 x6 x1109000 x5 = some r) := by
  induction k using Nat.strongRecOn with
  | _ k ih =>
  have il0 := fun k' hk' => (ih k' hk')
  clear ih
  intro x1 x5 x6 x1109000 r h m hm
  cases k with
  | zero => simp only [PK.spec_AllAt.l0] at h; cases h
  | succ k =>
    obtain ⟨m, rfl⟩ : ∃ m', m = m' + 1 := ⟨m - 1, by omega⟩
    rw [PK.spec_AllAt.l0] at h
    rw [spec_AllAt.c3]
    try simp only [w64_eq, wu8_eq, gt_iff_lt, ge_iff_le, int_beq, fdiv33, fdiv45, bt_eq, tmodN, rdOfB, rdOfL] at h
    try simp only [shlR]
    try simp only [w64_eq, wu8_eq, gt_iff_lt, ge_iff_le, int_beq, fdiv33, fdiv45, bt_eq, tmodN, rdOfB, rdOfL, rdT3_eq, rdT5_eq, seq, maxI, minI, emp_eq, rdn3, rdn5, rdn88, rdn4, rdn53]
    refine (itE h (fun q h => (bnE h (fun _ g h => (fun g => (itE h (fun q h => ((fun h => ?_) (il0 _ (by omega) _ _ _ _ _ h m (by omega)))) (fun q h => (noE h)))) (spec_GetAt.rel _ _ _ _ _ g m (by omega))))) (fun q h => ?_))
    all_goals clear il0
    all_goals (try cases h)
    all_goals (try simp only [*, if_true, if_false, ↓reduceIte, Option.bind_some, List.length_cons, List.length_nil, List.length_append, Bool.not_true, Bool.not_false, Bool.true_eq_false, Bool.false_eq_true])
    all_goals (repeat first | rw [if_pos (by omega)] | rw [if_neg (by omega)])
    all_goals first | exact h | exact h _ | exact h _ _ | exact h _ _ _ | exact h _ _ _ _ | exact h _ _ _ _ _ | exact h _ _ _ _ _ _ | exact h _ _ _ _ _ _ _ | exact h _ _ _ _ _ _ _ _ | rfl | (simp_all [-Bool.forall_bool]; done) | (simp_all [-Bool.forall_bool]; first | exact h | exact h _ | exact h _ _ | exact h _ _ _ | exact h _ _ _ _ | exact h _ _ _ _ _ | exact h _ _ _ _ _ _ | exact h _ _ _ _ _ _ _ | exact h _ _ _ _ _ _ _ _) | (simp_all [-Bool.forall_bool, emp_eq, int_beq]; done) | (simp_all [-Bool.forall_bool]; (intros; simp_all; done)) | (simp_all [-Bool.forall_bool, rdset3, rdset5, rdset88, rdset4, rdset53]; done) | grind
theorem spec_AllAt.rel (k : Nat) (l0_0 : List (S88)) (a1 : Int) (r) (h : PK.spec_AllAt.f k l0_0 a1 = some r) (m : Nat) (hm : k ≤ m) : spec_AllAt.f m l0_0 a1 = some r := by
  have il0 := fun k' (_ : k' < k + 1) => (spec_AllAt.rel_l k')
  rw [PK.spec_AllAt.f] at h
  rw [spec_AllAt.f]
  try simp only [w64_eq, wu8_eq, gt_iff_lt, ge_iff_le, int_beq, fdiv33, fdiv45, bt_eq, tmodN, rdOfB, rdOfL] at h
  try simp only [shlR]
  try simp only [w64_eq, wu8_eq, gt_iff_lt, ge_iff_le, int_beq, fdiv33, fdiv45, bt_eq, tmodN, rdOfB, rdOfL, rdT3_eq, rdT5_eq, seq, maxI, minI, emp_eq, rdn3, rdn5, rdn88, rdn4, rdn53]
  refine ((fun h => ?_) (il0 _ (by omega) _ _ _ _ _ h m (by omega)))
  all_goals clear il0
  all_goals (try cases h)
  all_goals (try simp only [*, if_true, if_false, ↓reduceIte, Option.bind_some, List.length_cons, List.length_nil, List.length_append, Bool.not_true, Bool.not_false, Bool.true_eq_false, Bool.false_eq_true])
  all_goals (repeat first | rw [if_pos (by omega)] | rw [if_neg (by omega)])
  all_goals first | exact h | exact h _ | exact h _ _ | exact h _ _ _ | exact h _ _ _ _ | exact h _ _ _ _ _ | exact h _ _ _ _ _ _ | exact h _ _ _ _ _ _ _ | exact h _ _ _ _ _ _ _ _ | rfl | (simp_all [-Bool.forall_bool]; done) | (simp_all [-Bool.forall_bool]; first | exact h | exact h _ | exact h _ _ | exact h _ _ _ | exact h _ _ _ _ | exact h _ _ _ _ _ | exact h _ _ _ _ _ _ | exact h _ _ _ _ _ _ _ | exact h _ _ _ _ _ _ _ _) | (simp_all [-Bool.forall_bool, emp_eq, int_beq]; done) | (simp_all [-Bool.forall_bool]; (intros; simp_all; done)) | (simp_all [-Bool.forall_bool, rdset3, rdset5, rdset88, rdset4, rdset53]; done) | grind

theorem spec_RefsOf.rel_l (k : Nat) : (∀ x1 x5 x6 x1117000 x1117001 x1117002 r, PK.spec_RefsOf.l0 k x1 x5 x6 x1117000 x1117001 x1117002 = some r → ∀ m, k ≤ m → spec_RefsOf.c3 m x1 x5 x6 x1117000 x1117001 x1117002 = some r) ∧ (∀ x1 x5 x6 x7 x8 x1117000 x1117001 x1117002 r, PK.spec_RefsOf.l1 k x1 x5 x6 x7 x8 x1117000 x1117001 x1117002 = some r → ∀ m, k ≤ m → ∀ (x15 : Int), ∀ (x16 : Bool), spec_RefsOf.c7 m x1 x5 x6 x8 x15 x16 x1117000 x1117001 x1117002 x7 = some r) := by
  induction k using Nat.strongRecOn with
  | _ k ih =>
  have il0 := fun k' hk' => (ih k' hk').1
  have il1 := fun k' hk' => (ih k' hk').2
  clear ih
  refine ⟨?_, ?_⟩
  · intro x1 x5 x6 x1117000 x1117001 x1117002 r h m hm
    cases k with
    | zero => simp only [PK.spec_RefsOf.l0] at h; cases h
    | succ k =>
      obtain ⟨m, rfl⟩ : ∃ m', m = m' + 1 := ⟨m - 1, by omega⟩
      rw [PK.spec_RefsOf.l0] at h
      rw [spec_RefsOf.c3]
      try simp only [w64_eq, wu8_eq, gt_iff_lt, ge_iff_le, int_beq, fdiv33, fdiv45, bt_eq, tmodN, rdOfB, rdOfL] at h
      try simp only [shlR]
      try simp only [w64_eq, wu8_eq, gt_iff_lt, ge_iff_le, int_beq, fdiv33, fdiv45, bt_eq, tmodN, rdOfB, rdOfL, rdT3_eq, rdT5_eq, seq, maxI, minI, emp_eq, rdn3, rdn5, rdn88, rdn4, rdn53]
      refine (itE h (fun q h => (by cases k with | zero => (simp only [PK.spec_RefsOf.j1] at h; cases h) | succ k => (rw [PK.spec_RefsOf.j1] at h; (try simp only [w64_eq, wu8_eq, gt_iff_lt, ge_iff_le, int_beq, fdiv33, fdiv45, bt_eq, tmodN, rdOfB, rdOfL] at h); refine (itE h (fun q h => (itE h (fun q h => (itE h (fun q h => (bnE h (fun _ g h => (fun g => ((fun h => ?_) (il1 _ (by omega) _ _ _ _ _ _ _ _ _ h m (by omega)))) (spec_AllAt.rel _ _ _ _ g m (by omega))))) (fun q h => (noE h)))) (fun q h => (noE h)))) (fun q h => ?_)) <;> ((try cases h); (try simp only [*, if_true, if_false, ↓reduceIte, Option.bind_some, List.length_cons, List.length_nil, List.length_append, Bool.not_true, Bool.not_false, Bool.true_eq_false, Bool.false_eq_true]); all_goals (repeat first | rw [if_pos (by omega)] | rw [if_neg (by omega)]); all_goals (first | exact h | exact h _ | exact h _ _ | exact h _ _ _ | exact h _ _ _ _ | exact h _ _ _ _ _ | exact h _ _ _ _ _ _ | exact h _ _ _ _ _ _ _ | exact h _ _ _ _ _ _ _ _ | rfl | (simp_all [-Bool.forall_bool]; done) | (simp_all [-Bool.forall_bool]; first | exact h | exact h _ | exact h _ _ | exact h _ _ _ | exact h _ _ _ _ | exact h _ _ _ _ _ | exact h _ _ _ _ _ _ | exact h _ _ _ _ _ _ _ | exact h _ _ _ _ _ _ _ _) | (simp_all [-Bool.forall_bool, emp_eq, int_beq]; done) | (simp_all [-Bool.forall_bool]; (intros; simp_all; done)) | (simp_all [-Bool.forall_bool, rdset3, rdset5, rdset88, rdset4, rdset53]; done) | grind))))) (fun q h => (by cases k with | zero => (simp only [PK.spec_RefsOf.j1] at h; cases h) | succ k => (rw [PK.spec_RefsOf.j1] at h; (try simp only [w64_eq, wu8_eq, gt_iff_lt, ge_iff_le, int_beq, fdiv33, fdiv45, bt_eq, tmodN, rdOfB, rdOfL] at h); refine (itE h (fun q h => (itE h (fun q h => (itE h (fun q h => (bnE h (fun _ g h => (fun g => ((fun h => ?_) (il1 _ (by omega) _ _ _ _ _ _ _ _ _ h m (by omega)))) (spec_AllAt.rel _ _ _ _ g m (by omega))))) (fun q h => (noE h)))) (fun q h => (noE h)))) (fun q h => ?_)) <;> ((try cases h); (try simp only [*, if_true, if_false, ↓reduceIte, Option.bind_some, List.length_cons, List.length_nil, List.length_append, Bool.not_true, Bool.not_false, Bool.true_eq_false, Bool.false_eq_true]); all_goals (repeat first | rw [if_pos (by omega)] | rw [if_neg (by omega)]); all_goals (first | exact h | exact h _ | exact h _ _ | exact h _ _ _ | exact h _ _ _ _ | exact h _ _ _ _ _ | exact h _ _ _ _ _ _ | exact h _ _ _ _ _ _ _ | exact h _ _ _ _ _ _ _ _ | rfl | (simp_all [-Bool.forall_bool]; done) | (simp_all [-Bool.forall_bool]; first | exact h | exact h _ | exact h _ _ | exact h _ _ _ | exact h _ _ _ _ | exact h _ _ _ _ _ | exact h _ _ _ _ _ _ | exact h _ _ _ _ _ _ _ | exact h _ _ _ _ _ _ _ _) | (simp_all [-Bool.forall_bool, emp_eq, int_beq]; done) | (simp_all [-Bool.forall_bool]; (intros; simp_all; done)) | (simp_all [-Bool.forall_bool, rdset3, rdset5, rdset88, rdset4, rdset53]; done) | grind))))))
      all_goals clear il0 il1
      all_goals (try cases h)
      all_goals (try simp only [*, if_true, if_false, ↓reduceIte, Option.bind_some, List.length_cons, List.length_nil, List.length_append, Bool.not_true, Bool.not_false, Bool.true_eq_false, Bool.false_eq_true])
      all_goals (repeat first | rw [if_pos (by omega)] | rw [if_neg (by omega)])
      all_goals first | exact h | exact h _ | exact h _ _ | exact h _ _ _ | exact h _ _ _ _ | exact h _ _ _ _ _ | exact h _ _ _ _ _ _ | exact h _ _ _ _ _ _ _ | exact h _ _ _ _ _ _ _ _ | rfl | (simp_all [-Bool.forall_bool]; done) | (simp_all [-Bool.forall_bool]; first | exact h | exact h _ | exact h _ _ | exact h _ _ _ | exact h _ _ _ _ | exact h _ _ _ _ _ | exact h _ _ _ _ _ _ | exact h _ _ _ _ _ _ _ | exact h _ _ _ _ _ _ _ _) | (simp_all [-Bool.forall_bool, emp_eq, int_beq]; done) | (simp_all [-Bool.forall_bool]; (intros; simp_all; done)) | (simp_all [-Bool.forall_bool, rdset3, rdset5, rdset88, rdset4, rdset53]; done) | grind
  · intro x1 x5 x6 x7 x8 x1117000 x1117001 x1117002 r h m hm x15 x16
    cases k with
    | zero => simp only [PK.spec_RefsOf.l1] at h; cases h
    | succ k =>
      obtain ⟨m, rfl⟩ : ∃ m', m = m' + 1 := ⟨m - 1, by omega⟩
      rw [PK.spec_RefsOf.l1] at h
      rw [spec_RefsOf.c7]
      try simp only [w64_eq, wu8_eq, gt_iff_lt, ge_iff_le, int_beq, fdiv33, fdiv45, bt_eq, tmodN, rdOfB, rdOfL] at h
      try simp only [shlR]
      try simp only [w64_eq, wu8_eq, gt_iff_lt, ge_iff_le, int_beq, fdiv33, fdiv45, bt_eq, tmodN, rdOfB, rdOfL, rdT3_eq, rdT5_eq, seq, maxI, minI, emp_eq, rdn3, rdn5, rdn88, rdn4, rdn53]
      refine (itE h (fun q h => (itE h (fun q h => (itE h (fun q h => ((fun h => ?_) (il1 _ (by omega) _ _ _ _ _ _ _ _ _ h m (by omega)))) (fun q h => ((fun h => ?_) (il1 _ (by omega) _ _ _ _ _ _ _ _ _ h m (by omega)))))) (fun q h => (noE h)))) (fun q h => ((fun h => ?_) (il0 _ (by omega) _ _ _ _ _ _ _ h m (by omega)))))
      all_goals clear il0 il1
      all_goals (try cases h)
      all_goals (try simp only [*, if_true, if_false, ↓reduceIte, Option.bind_some, List.length_cons, List.length_nil, List.length_append, Bool.not_true, Bool.not_false, Bool.true_eq_false, Bool.false_eq_true])
      all_goals (repeat first | rw [if_pos (by omega)] | rw [if_neg (by omega)])
      all_goals first | exact h | exact h _ | exact h _ _ | exact h _ _ _ | exact h _ _ _ _ | exact h _ _ _ _ _ | exact h _ _ _ _ _ _ | exact h _ _ _ _ _ _ _ | exact h _ _ _ _ _ _ _ _ | rfl | (simp_all [-Bool.forall_bool]; done) | (simp_all [-Bool.forall_bool]; first | exact h | exact h _ | exact h _ _ | exact h _ _ _ | exact h _ _ _ _ | exact h _ _ _ _ _ | exact h _ _ _ _ _ _ | exact h _ _ _ _ _ _ _ | exact h _ _ _ _ _ _ _ _) | (simp_all [-Bool.forall_bool, emp_eq, int_beq]; done) | (simp_all [-Bool.forall_bool]; (intros; simp_all; done)) | (simp_all [-Bool.forall_bool, rdset3, rdset5, rdset88, rdset4, rdset53]; done) | grind
theorem spec_RefsOf.rel (k : Nat) (l0_0 : List (S53)) (l0_1 : List (S88)) (a0_2 : Int) (a1 : Int) (r) (h : PK.spec_RefsOf.f k l0_0 l0_1 a0_2 a1 = some r) (m : Nat) (hm : k ≤ m) : spec_RefsOf.f m l0_0 l0_1 a0_2 a1 = some r := by
  have il0 := fun k' (_ : k' < k + 1) => (spec_RefsOf.rel_l k').1
  have il1 := fun k' (_ : k' < k + 1) => (spec_RefsOf.rel_l k').2
  rw [PK.spec_RefsOf.f] at h
  rw [spec_RefsOf.f]
  try simp only [w64_eq, wu8_eq, gt_iff_lt, ge_iff_le, int_beq, fdiv33, fdiv45, bt_eq, tmodN, rdOfB, rdOfL] at h
  try simp only [shlR]
  try simp only [w64_eq, wu8_eq, gt_iff_lt, ge_iff_le, int_beq, fdiv33, fdiv45, bt_eq, tmodN, rdOfB, rdOfL, rdT3_eq, rdT5_eq, seq, maxI, minI, emp_eq, rdn3, rdn5, rdn88, rdn4, rdn53]
  refine ((fun h => ?_) (il0 _ (by omega) _ _ _ _ _ _ _ h m (by omega)))
  all_goals clear il0 il1
  all_goals (try cases h)
  all_goals (try simp only [*, if_true, if_false, ↓reduceIte, Option.bind_some, List.length_cons, List.length_nil, List.length_append, Bool.not_true, Bool.not_false, Bool.true_eq_false, Bool.false_eq_true])
  all_goals (repeat first | rw [if_pos (by omega)] | rw [if_neg (by omega)])
  all_goals first | exact h | exact h _ | exact h _ _ | exact h _ _ _ | exact h _ _ _ _ | exact h _ _ _ _ _ | exact h _ _ _ _ _ _ | exact h _ _ _ _ _ _ _ | exact h _ _ _ _ _ _ _ _ | rfl | (simp_all [-Bool.forall_bool]; done) | (simp_all [-Bool.forall_bool]; first | exact h | exact h _ | exact h _ _ | exact h _ _ _ | exact h _ _ _ _ | exact h _ _ _ _ _ | exact h _ _ _ _ _ _ | exact h _ _ _ _ _ _ _ | exact h _ _ _ _ _ _ _ _) | (simp_all [-Bool.forall_bool, emp_eq, int_beq]; done) | (simp_all [-Bool.forall_bool]; (intros; simp_all; done)) | (simp_all [-Bool.forall_bool, rdset3, rdset5, rdset88, rdset4, rdset53]; done) | grind
end Go.Proofs.Yteideicglgpfiaa.M2

/- What the print's plain functions answer, the own ones answer. Written by a program of this session. -/
namespace Go.Proofs.Yteideicglgpfiaa.M2
open Go Go.RowKit Go.Proofs.YteideicglgpfiaaW.PrintWords Go.Proofs.Yteideicglgpfiaa.PK
set_option linter.unusedVariables false
set_option linter.unusedSimpArgs false
theorem impl_volAt.rel_l (k : Nat) : (∀ x1 x8 x9 x10 r, PK.impl_volAt.l0 k x1 x8 x9 x10 = some r → ∀ m, k ≤ m → impl_volAt.c2 m x1 x8 x9 x10 = some r) := by
  induction k using Nat.strongRecOn with
  | _ k ih =>
  have il0 := fun k' hk' => (ih k' hk')
  clear ih
  intro x1 x8 x9 x10 r h m hm
  cases k with
  | zero => simp only [PK.impl_volAt.l0] at h; cases h
  | succ k =>
    obtain ⟨m, rfl⟩ : ∃ m', m = m' + 1 := ⟨m - 1, by omega⟩
    rw [PK.impl_volAt.l0] at h
    rw [impl_volAt.c2]
    try simp only [w64_eq, wu8_eq, gt_iff_lt, ge_iff_le, int_beq, fdiv33, fdiv45, bt_eq, tmodN, rdOfB, rdOfL] at h
    try simp only [shlR]
    try simp only [w64_eq, wu8_eq, gt_iff_lt, ge_iff_le, int_beq, fdiv33, fdiv45, bt_eq, tmodN, rdOfB, rdOfL, rdT3_eq, rdT5_eq, seq, maxI, minI, emp_eq, rdn3, rdn5, rdn88, rdn4, rdn53]
    refine (itE h (fun q h => (itE h (fun q h => (itE h (fun q h => (itE h (fun q h => ?_) (fun q h => ((fun h => ?_) (il0 _ (by omega) _ _ _ _ _ h m (by omega)))))) (fun q h => (noE h)))) (fun q h => (noE h)))) (fun q h => ?_))
    all_goals clear il0
    all_goals (try cases h)
    all_goals (try simp only [*, if_true, if_false, ↓reduceIte, Option.bind_some, List.length_cons, List.length_nil, List.length_append, Bool.not_true, Bool.not_false, Bool.true_eq_false, Bool.false_eq_true])
    all_goals (repeat first | rw [if_pos (by omega)] | rw [if_neg (by omega)])
    all_goals first | exact h | exact h _ | exact h _ _ | exact h _ _ _ | exact h _ _ _ _ | exact h _ _ _ _ _ | exact h _ _ _ _ _ _ | exact h _ _ _ _ _ _ _ | exact h _ _ _ _ _ _ _ _ | rfl | (simp_all [-Bool.forall_bool]; done) | (simp_all [-Bool.forall_bool]; first | exact h | exact h _ | exact h _ _ | exact h _ _ _ | exact h _ _ _ _ | exact h _ _ _ _ _ | exact h _ _ _ _ _ _ | exact h _ _ _ _ _ _ _ | exact h _ _ _ _ _ _ _ _) | (simp_all [-Bool.forall_bool, emp_eq, int_beq]; done) | (simp_all [-Bool.forall_bool]; (intros; simp_all; done)) | (simp_all [-Bool.forall_bool, rdset3, rdset5, rdset88, rdset4, rdset53]; done) | grind
theorem impl_volAt.rel (k : Nat) (l0_0 : List (S53)) (l0_1 : List (S88)) (a0_2 : Int) (a1 : Int) (r) (h : PK.impl_volAt.f k l0_0 l0_1 a0_2 a1 = some r) (m : Nat) (hm : k ≤ m) : impl_volAt.f m l0_0 l0_1 a0_2 a1 = some r := by
  have il0 := fun k' (_ : k' < k + 1) => (impl_volAt.rel_l k')
  rw [PK.impl_volAt.f] at h
  rw [impl_volAt.f]
  try simp only [w64_eq, wu8_eq, gt_iff_lt, ge_iff_le, int_beq, fdiv33, fdiv45, bt_eq, tmodN, rdOfB, rdOfL] at h
  try simp only [shlR]
  try simp only [w64_eq, wu8_eq, gt_iff_lt, ge_iff_le, int_beq, fdiv33, fdiv45, bt_eq, tmodN, rdOfB, rdOfL, rdT3_eq, rdT5_eq, seq, maxI, minI, emp_eq, rdn3, rdn5, rdn88, rdn4, rdn53]
  refine ((fun h => ?_) (il0 _ (by omega) _ _ _ _ _ h m (by omega)))
  all_goals clear il0
  all_goals (try cases h)
  all_goals (try simp only [*, if_true, if_false, ↓reduceIte, Option.bind_some, List.length_cons, List.length_nil, List.length_append, Bool.not_true, Bool.not_false, Bool.true_eq_false, Bool.false_eq_true])
  all_goals (repeat first | rw [if_pos (by omega)] | rw [if_neg (by omega)])
  all_goals first | exact h | exact h _ | exact h _ _ | exact h _ _ _ | exact h _ _ _ _ | exact h _ _ _ _ _ | exact h _ _ _ _ _ _ | exact h _ _ _ _ _ _ _ | exact h _ _ _ _ _ _ _ _ | rfl | (simp_all [-Bool.forall_bool]; done) | (simp_all [-Bool.forall_bool]; first | exact h | exact h _ | exact h _ _ | exact h _ _ _ | exact h _ _ _ _ | exact h _ _ _ _ _ | exact h _ _ _ _ _ _ | exact h _ _ _ _ _ _ _ | exact h _ _ _ _ _ _ _ _) | (simp_all [-Bool.forall_bool, emp_eq, int_beq]; done) | (simp_all [-Bool.forall_bool]; (intros; simp_all; done)) | (simp_all [-Bool.forall_bool, rdset3, rdset5, rdset88, rdset4, rdset53]; done) | grind

theorem impl_ChunkOf.rel (k : Nat) (l0_0 : List (S53)) (l0_1 : List (S88)) (a0_2 : Int) (a1 : Int) (a2 : Int) (r) (h : PK.impl_ChunkOf.f k l0_0 l0_1 a0_2 a1 a2 = some r) (m : Nat) (hm : k ≤ m) : impl_ChunkOf.f m l0_0 l0_1 a0_2 a1 a2 = some r := by
  rw [PK.impl_ChunkOf.f] at h
  rw [impl_ChunkOf.f]
  try simp only [w64_eq, wu8_eq, gt_iff_lt, ge_iff_le, int_beq, fdiv33, fdiv45, bt_eq, tmodN, rdOfB, rdOfL] at h
  try simp only [shlR]
  try simp only [w64_eq, wu8_eq, gt_iff_lt, ge_iff_le, int_beq, fdiv33, fdiv45, bt_eq, tmodN, rdOfB, rdOfL, rdT3_eq, rdT5_eq, seq, maxI, minI, emp_eq, rdn3, rdn5, rdn88, rdn4, rdn53]
  refine (bnE h (fun _ g h => (fun g => (itE h (fun q h => ?_) (fun q h => (itE h (fun q h => (itE h (fun q h => (bnE h (fun _ g h => (fun g => ?_) (impl_GetAt.rel _ _ _ _ _ g m (by omega))))) (fun q h => (noE h)))) (fun q h => (noE h)))))) (impl_volAt.rel _ _ _ _ _ _ g m (by omega))))
  all_goals (try cases h)
  all_goals (try simp only [*, if_true, if_false, ↓reduceIte, Option.bind_some, List.length_cons, List.length_nil, List.length_append, Bool.not_true, Bool.not_false, Bool.true_eq_false, Bool.false_eq_true])
  all_goals (repeat first | rw [if_pos (by omega)] | rw [if_neg (by omega)])
  all_goals first | exact h | exact h _ | exact h _ _ | exact h _ _ _ | exact h _ _ _ _ | exact h _ _ _ _ _ | exact h _ _ _ _ _ _ | exact h _ _ _ _ _ _ _ | exact h _ _ _ _ _ _ _ _ | rfl | (simp_all [-Bool.forall_bool]; done) | (simp_all [-Bool.forall_bool]; first | exact h | exact h _ | exact h _ _ | exact h _ _ _ | exact h _ _ _ _ | exact h _ _ _ _ _ | exact h _ _ _ _ _ _ | exact h _ _ _ _ _ _ _ | exact h _ _ _ _ _ _ _ _) | (simp_all [-Bool.forall_bool, emp_eq, int_beq]; done) | (simp_all [-Bool.forall_bool]; (intros; simp_all; done)) | (simp_all [-Bool.forall_bool, rdset3, rdset5, rdset88, rdset4, rdset53]; done) | grind

theorem laws_sameInts.rel_l (k : Nat) : (∀ x0 x1 x5 r, PK.laws_sameInts.l0 k x0 x1 x5 = some r → ∀ m, k ≤ m → laws_sameInts.c4 m x0 x1 x5 = some r) := by
  induction k using Nat.strongRecOn with
  | _ k ih =>
  have il0 := fun k' hk' => (ih k' hk')
  clear ih
  intro x0 x1 x5 r h m hm
  cases k with
  | zero => simp only [PK.laws_sameInts.l0] at h; cases h
  | succ k =>
    obtain ⟨m, rfl⟩ : ∃ m', m = m' + 1 := ⟨m - 1, by omega⟩
    rw [PK.laws_sameInts.l0] at h
    rw [laws_sameInts.c4]
    try simp only [w64_eq, wu8_eq, gt_iff_lt, ge_iff_le, int_beq, fdiv33, fdiv45, bt_eq, tmodN, rdOfB, rdOfL] at h
    try simp only [shlR]
    try simp only [w64_eq, wu8_eq, gt_iff_lt, ge_iff_le, int_beq, fdiv33, fdiv45, bt_eq, tmodN, rdOfB, rdOfL, rdT3_eq, rdT5_eq, seq, maxI, minI, emp_eq, rdn3, rdn5, rdn88, rdn4, rdn53]
    refine (itE h (fun q h => (itE h (fun q h => (itE h (fun q h => (itE h (fun q h => ((fun h => ?_) (il0 _ (by omega) _ _ _ _ h m (by omega)))) (fun q h => ?_))) (fun q h => (noE h)))) (fun q h => (noE h)))) (fun q h => ?_))
    all_goals clear il0
    all_goals (try cases h)
    all_goals (try simp only [*, if_true, if_false, ↓reduceIte, Option.bind_some, List.length_cons, List.length_nil, List.length_append, Bool.not_true, Bool.not_false, Bool.true_eq_false, Bool.false_eq_true])
    all_goals (repeat first | rw [if_pos (by omega)] | rw [if_neg (by omega)])
    all_goals first | exact h | exact h _ | exact h _ _ | exact h _ _ _ | exact h _ _ _ _ | exact h _ _ _ _ _ | exact h _ _ _ _ _ _ | exact h _ _ _ _ _ _ _ | exact h _ _ _ _ _ _ _ _ | rfl | (simp_all [-Bool.forall_bool]; done) | (simp_all [-Bool.forall_bool]; first | exact h | exact h _ | exact h _ _ | exact h _ _ _ | exact h _ _ _ _ | exact h _ _ _ _ _ | exact h _ _ _ _ _ _ | exact h _ _ _ _ _ _ _ | exact h _ _ _ _ _ _ _ _) | (simp_all [-Bool.forall_bool, emp_eq, int_beq]; done) | (simp_all [-Bool.forall_bool]; (intros; simp_all; done)) | (simp_all [-Bool.forall_bool, rdset3, rdset5, rdset88, rdset4, rdset53]; done) | grind
theorem laws_sameInts.rel (k : Nat) (l0 : List Int) (l1 : List Int) (r) (h : PK.laws_sameInts.f k l0 l1 = some r) (m : Nat) (hm : k ≤ m) : laws_sameInts.f m l0 l1 = some r := by
  have il0 := fun k' (_ : k' < k + 1) => (laws_sameInts.rel_l k')
  rw [PK.laws_sameInts.f] at h
  rw [laws_sameInts.f]
  try simp only [w64_eq, wu8_eq, gt_iff_lt, ge_iff_le, int_beq, fdiv33, fdiv45, bt_eq, tmodN, rdOfB, rdOfL] at h
  try simp only [shlR]
  try simp only [w64_eq, wu8_eq, gt_iff_lt, ge_iff_le, int_beq, fdiv33, fdiv45, bt_eq, tmodN, rdOfB, rdOfL, rdT3_eq, rdT5_eq, seq, maxI, minI, emp_eq, rdn3, rdn5, rdn88, rdn4, rdn53]
  refine (itE h (fun q h => ((fun h => ?_) (il0 _ (by omega) _ _ _ _ h m (by omega)))) (fun q h => ?_))
  all_goals clear il0
  all_goals (try cases h)
  all_goals (try simp only [*, if_true, if_false, ↓reduceIte, Option.bind_some, List.length_cons, List.length_nil, List.length_append, Bool.not_true, Bool.not_false, Bool.true_eq_false, Bool.false_eq_true])
  all_goals (repeat first | rw [if_pos (by omega)] | rw [if_neg (by omega)])
  all_goals first | exact h | exact h _ | exact h _ _ | exact h _ _ _ | exact h _ _ _ _ | exact h _ _ _ _ _ | exact h _ _ _ _ _ _ | exact h _ _ _ _ _ _ _ | exact h _ _ _ _ _ _ _ _ | rfl | (simp_all [-Bool.forall_bool]; done) | (simp_all [-Bool.forall_bool]; first | exact h | exact h _ | exact h _ _ | exact h _ _ _ | exact h _ _ _ _ | exact h _ _ _ _ _ | exact h _ _ _ _ _ _ | exact h _ _ _ _ _ _ _ | exact h _ _ _ _ _ _ _ _) | (simp_all [-Bool.forall_bool, emp_eq, int_beq]; done) | (simp_all [-Bool.forall_bool]; (intros; simp_all; done)) | (simp_all [-Bool.forall_bool, rdset3, rdset5, rdset88, rdset4, rdset53]; done) | grind
end Go.Proofs.Yteideicglgpfiaa.M2

/- What the print's plain functions answer, the own ones answer. Written by a program of this session. -/
namespace Go.Proofs.Yteideicglgpfiaa.M2
open Go Go.RowKit Go.Proofs.YteideicglgpfiaaW.PrintWords Go.Proofs.Yteideicglgpfiaa.PK
set_option linter.unusedVariables false
set_option linter.unusedSimpArgs false
theorem spec_l12Insert.rel_l (k : Nat) : (∀ x0 x1 x5 x6 r, PK.spec_l12Insert.l0 k x0 x1 x5 x6 = some r → ∀ m, k ≤ m → spec_l12Insert.c3 m x0 x1 x6 x5 = some r) ∧ (∀ x0 x1 x5 x7 r, PK.spec_l12Insert.l1 k x0 x1 x5 x7 = some r → ∀ m, k ≤ m → spec_l12Insert.c10 m x0 x1 x7 x5 = some r) := by
  induction k using Nat.strongRecOn with
  | _ k ih =>
  have il0 := fun k' hk' => (ih k' hk').1
  have il1 := fun k' hk' => (ih k' hk').2
  clear ih
  refine ⟨?_, ?_⟩
  · intro x0 x1 x5 x6 r h m hm
    cases k with
    | zero => simp only [PK.spec_l12Insert.l0] at h; cases h
    | succ k =>
      obtain ⟨m, rfl⟩ : ∃ m', m = m' + 1 := ⟨m - 1, by omega⟩
      rw [PK.spec_l12Insert.l0] at h
      rw [spec_l12Insert.c3]
      try simp only [w64_eq, wu8_eq, gt_iff_lt, ge_iff_le, int_beq, fdiv33, fdiv45, bt_eq, tmodN, rdOfB, rdOfL] at h
      try simp only [shlR]
      try simp only [w64_eq, wu8_eq, gt_iff_lt, ge_iff_le, int_beq, fdiv33, fdiv45, bt_eq, tmodN, rdOfB, rdOfL, rdT3_eq, rdT5_eq, seq, maxI, minI, emp_eq, rdn3, rdn5, rdn88, rdn4, rdn53]
      refine (itE h (fun q h => (itE h (fun q h => (itE h (fun q h => (itE h (fun q h => ((fun h => ?_) (il0 _ (by omega) _ _ _ _ _ h m (by omega)))) (fun q h => (noE h)))) (fun q h => ((fun h => ?_) (il0 _ (by omega) _ _ _ _ _ h m (by omega)))))) (fun q h => (noE h)))) (fun q h => (itE h (fun q h => (itE h (fun q h => (by cases k with | zero => (simp only [PK.spec_l12Insert.j1] at h; cases h) | succ k => (rw [PK.spec_l12Insert.j1] at h; (try simp only [w64_eq, wu8_eq, gt_iff_lt, ge_iff_le, int_beq, fdiv33, fdiv45, bt_eq, tmodN, rdOfB, rdOfL] at h); refine ((fun h => ?_) (il1 _ (by omega) _ _ _ _ _ h m (by omega))) <;> ((try cases h); (try simp only [*, if_true, if_false, ↓reduceIte, Option.bind_some, List.length_cons, List.length_nil, List.length_append, Bool.not_true, Bool.not_false, Bool.true_eq_false, Bool.false_eq_true]); all_goals (repeat first | rw [if_pos (by omega)] | rw [if_neg (by omega)]); all_goals (first | exact h | exact h _ | exact h _ _ | exact h _ _ _ | exact h _ _ _ _ | exact h _ _ _ _ _ | exact h _ _ _ _ _ _ | exact h _ _ _ _ _ _ _ | exact h _ _ _ _ _ _ _ _ | rfl | (simp_all [-Bool.forall_bool]; done) | (simp_all [-Bool.forall_bool]; first | exact h | exact h _ | exact h _ _ | exact h _ _ _ | exact h _ _ _ _ | exact h _ _ _ _ _ | exact h _ _ _ _ _ _ | exact h _ _ _ _ _ _ _ | exact h _ _ _ _ _ _ _ _) | (simp_all [-Bool.forall_bool, emp_eq, int_beq]; done) | (simp_all [-Bool.forall_bool]; (intros; simp_all; done)) | (simp_all [-Bool.forall_bool, rdset3, rdset5, rdset88, rdset4, rdset53]; done) | grind))))) (fun q h => (noE h)))) (fun q h => (by cases k with | zero => (simp only [PK.spec_l12Insert.j1] at h; cases h) | succ k => (rw [PK.spec_l12Insert.j1] at h; (try simp only [w64_eq, wu8_eq, gt_iff_lt, ge_iff_le, int_beq, fdiv33, fdiv45, bt_eq, tmodN, rdOfB, rdOfL] at h); refine ((fun h => ?_) (il1 _ (by omega) _ _ _ _ _ h m (by omega))) <;> ((try cases h); (try simp only [*, if_true, if_false, ↓reduceIte, Option.bind_some, List.length_cons, List.length_nil, List.length_append, Bool.not_true, Bool.not_false, Bool.true_eq_false, Bool.false_eq_true]); all_goals (repeat first | rw [if_pos (by omega)] | rw [if_neg (by omega)]); all_goals (first | exact h | exact h _ | exact h _ _ | exact h _ _ _ | exact h _ _ _ _ | exact h _ _ _ _ _ | exact h _ _ _ _ _ _ | exact h _ _ _ _ _ _ _ | exact h _ _ _ _ _ _ _ _ | rfl | (simp_all [-Bool.forall_bool]; done) | (simp_all [-Bool.forall_bool]; first | exact h | exact h _ | exact h _ _ | exact h _ _ _ | exact h _ _ _ _ | exact h _ _ _ _ _ | exact h _ _ _ _ _ _ | exact h _ _ _ _ _ _ _ | exact h _ _ _ _ _ _ _ _) | (simp_all [-Bool.forall_bool, emp_eq, int_beq]; done) | (simp_all [-Bool.forall_bool]; (intros; simp_all; done)) | (simp_all [-Bool.forall_bool, rdset3, rdset5, rdset88, rdset4, rdset53]; done) | grind))))))))
      all_goals clear il0 il1
      all_goals (try cases h)
      all_goals (try simp only [*, if_true, if_false, ↓reduceIte, Option.bind_some, List.length_cons, List.length_nil, List.length_append, Bool.not_true, Bool.not_false, Bool.true_eq_false, Bool.false_eq_true])
      all_goals (repeat first | rw [if_pos (by omega)] | rw [if_neg (by omega)])
      all_goals first | exact h | exact h _ | exact h _ _ | exact h _ _ _ | exact h _ _ _ _ | exact h _ _ _ _ _ | exact h _ _ _ _ _ _ | exact h _ _ _ _ _ _ _ | exact h _ _ _ _ _ _ _ _ | rfl | (simp_all [-Bool.forall_bool]; done) | (simp_all [-Bool.forall_bool]; first | exact h | exact h _ | exact h _ _ | exact h _ _ _ | exact h _ _ _ _ | exact h _ _ _ _ _ | exact h _ _ _ _ _ _ | exact h _ _ _ _ _ _ _ | exact h _ _ _ _ _ _ _ _) | (simp_all [-Bool.forall_bool, emp_eq, int_beq]; done) | (simp_all [-Bool.forall_bool]; (intros; simp_all; done)) | (simp_all [-Bool.forall_bool, rdset3, rdset5, rdset88, rdset4, rdset53]; done) | grind
  · intro x0 x1 x5 x7 r h m hm
    cases k with
    | zero => simp only [PK.spec_l12Insert.l1] at h; cases h
    | succ k =>
      obtain ⟨m, rfl⟩ : ∃ m', m = m' + 1 := ⟨m - 1, by omega⟩
      rw [PK.spec_l12Insert.l1] at h
      rw [spec_l12Insert.c10]
      try simp only [w64_eq, wu8_eq, gt_iff_lt, ge_iff_le, int_beq, fdiv33, fdiv45, bt_eq, tmodN, rdOfB, rdOfL] at h
      try simp only [shlR]
      try simp only [w64_eq, wu8_eq, gt_iff_lt, ge_iff_le, int_beq, fdiv33, fdiv45, bt_eq, tmodN, rdOfB, rdOfL, rdT3_eq, rdT5_eq, seq, maxI, minI, emp_eq, rdn3, rdn5, rdn88, rdn4, rdn53]
      refine (itE h (fun q h => (itE h (fun q h => (itE h (fun q h => (itE h (fun q h => ((fun h => ?_) (il1 _ (by omega) _ _ _ _ _ h m (by omega)))) (fun q h => (noE h)))) (fun q h => ((fun h => ?_) (il1 _ (by omega) _ _ _ _ _ h m (by omega)))))) (fun q h => (noE h)))) (fun q h => ?_))
      all_goals clear il0 il1
      all_goals (try cases h)
      all_goals (try simp only [*, if_true, if_false, ↓reduceIte, Option.bind_some, List.length_cons, List.length_nil, List.length_append, Bool.not_true, Bool.not_false, Bool.true_eq_false, Bool.false_eq_true])
      all_goals (repeat first | rw [if_pos (by omega)] | rw [if_neg (by omega)])
      all_goals first | exact h | exact h _ | exact h _ _ | exact h _ _ _ | exact h _ _ _ _ | exact h _ _ _ _ _ | exact h _ _ _ _ _ _ | exact h _ _ _ _ _ _ _ | exact h _ _ _ _ _ _ _ _ | rfl | (simp_all [-Bool.forall_bool]; done) | (simp_all [-Bool.forall_bool]; first | exact h | exact h _ | exact h _ _ | exact h _ _ _ | exact h _ _ _ _ | exact h _ _ _ _ _ | exact h _ _ _ _ _ _ | exact h _ _ _ _ _ _ _ | exact h _ _ _ _ _ _ _ _) | (simp_all [-Bool.forall_bool, emp_eq, int_beq]; done) | (simp_all [-Bool.forall_bool]; (intros; simp_all; done)) | (simp_all [-Bool.forall_bool, rdset3, rdset5, rdset88, rdset4, rdset53]; done) | grind
theorem spec_l12Insert.rel (k : Nat) (l0 : List Int) (a1 : Int) (r) (h : PK.spec_l12Insert.f k l0 a1 = some r) (m : Nat) (hm : k ≤ m) : spec_l12Insert.f m l0 a1 = some r := by
  have il0 := fun k' (_ : k' < k + 1) => (spec_l12Insert.rel_l k').1
  have il1 := fun k' (_ : k' < k + 1) => (spec_l12Insert.rel_l k').2
  rw [PK.spec_l12Insert.f] at h
  rw [spec_l12Insert.f]
  try simp only [w64_eq, wu8_eq, gt_iff_lt, ge_iff_le, int_beq, fdiv33, fdiv45, bt_eq, tmodN, rdOfB, rdOfL] at h
  try simp only [shlR]
  try simp only [w64_eq, wu8_eq, gt_iff_lt, ge_iff_le, int_beq, fdiv33, fdiv45, bt_eq, tmodN, rdOfB, rdOfL, rdT3_eq, rdT5_eq, seq, maxI, minI, emp_eq, rdn3, rdn5, rdn88, rdn4, rdn53]
  refine ((fun h => ?_) (il0 _ (by omega) _ _ _ _ _ h m (by omega)))
  all_goals clear il0 il1
  all_goals (try cases h)
  all_goals (try simp only [*, if_true, if_false, ↓reduceIte, Option.bind_some, List.length_cons, List.length_nil, List.length_append, Bool.not_true, Bool.not_false, Bool.true_eq_false, Bool.false_eq_true])
  all_goals (repeat first | rw [if_pos (by omega)] | rw [if_neg (by omega)])
  all_goals first | exact h | exact h _ | exact h _ _ | exact h _ _ _ | exact h _ _ _ _ | exact h _ _ _ _ _ | exact h _ _ _ _ _ _ | exact h _ _ _ _ _ _ _ | exact h _ _ _ _ _ _ _ _ | rfl | (simp_all [-Bool.forall_bool]; done) | (simp_all [-Bool.forall_bool]; first | exact h | exact h _ | exact h _ _ | exact h _ _ _ | exact h _ _ _ _ | exact h _ _ _ _ _ | exact h _ _ _ _ _ _ | exact h _ _ _ _ _ _ _ | exact h _ _ _ _ _ _ _ _) | (simp_all [-Bool.forall_bool, emp_eq, int_beq]; done) | (simp_all [-Bool.forall_bool]; (intros; simp_all; done)) | (simp_all [-Bool.forall_bool, rdset3, rdset5, rdset88, rdset4, rdset53]; done) | grind
end Go.Proofs.Yteideicglgpfiaa.M2

/- What the print's plain functions answer, the own ones answer. Written by a program of this session. -/
namespace Go.Proofs.Yteideicglgpfiaa.M2
open Go Go.RowKit Go.Proofs.YteideicglgpfiaaW.PrintWords Go.Proofs.Yteideicglgpfiaa.PK
set_option linter.unusedVariables false
set_option linter.unusedSimpArgs false
theorem spec_LiveOf.rel_l (k : Nat) : (∀ x3 x4 x1145000 x1145001 x1145002 r, PK.spec_LiveOf.l0 k x3 x4 x1145000 x1145001 x1145002 = some r → ∀ m, k ≤ m → spec_LiveOf.c3 m x4 x1145000 x1145001 x1145002 x3 = some r) ∧ (∀ x3 x4 x5 x6 x1145000 x1145001 x1145002 r, PK.spec_LiveOf.l1 k x3 x4 x5 x6 x1145000 x1145001 x1145002 = some r → ∀ m, k ≤ m → spec_LiveOf.c7 m x4 x6 x1145000 x1145001 x1145002 x3 x5 = some r) := by
  induction k using Nat.strongRecOn with
  | _ k ih =>
  have il0 := fun k' hk' => (ih k' hk').1
  have il1 := fun k' hk' => (ih k' hk').2
  clear ih
  refine ⟨?_, ?_⟩
  · intro x3 x4 x1145000 x1145001 x1145002 r h m hm
    cases k with
    | zero => simp only [PK.spec_LiveOf.l0] at h; cases h
    | succ k =>
      obtain ⟨m, rfl⟩ : ∃ m', m = m' + 1 := ⟨m - 1, by omega⟩
      rw [PK.spec_LiveOf.l0] at h
      rw [spec_LiveOf.c3]
      try simp only [w64_eq, wu8_eq, gt_iff_lt, ge_iff_le, int_beq, fdiv33, fdiv45, bt_eq, tmodN, rdOfB, rdOfL] at h
      try simp only [shlR]
      try simp only [w64_eq, wu8_eq, gt_iff_lt, ge_iff_le, int_beq, fdiv33, fdiv45, bt_eq, tmodN, rdOfB, rdOfL, rdT3_eq, rdT5_eq, seq, maxI, minI, emp_eq, rdn3, rdn5, rdn88, rdn4, rdn53]
      refine (itE h (fun q h => (itE h (fun q h => (bnE h (fun _ g h => (fun g => ((fun h => ?_) (il1 _ (by omega) _ _ _ _ _ _ _ _ h m (by omega)))) (spec_AllAt.rel _ _ _ _ g m (by omega))))) (fun q h => (noE h)))) (fun q h => ?_))
      all_goals clear il0 il1
      all_goals (try cases h)
      all_goals (try simp only [*, if_true, if_false, ↓reduceIte, Option.bind_some, List.length_cons, List.length_nil, List.length_append, Bool.not_true, Bool.not_false, Bool.true_eq_false, Bool.false_eq_true])
      all_goals (repeat first | rw [if_pos (by omega)] | rw [if_neg (by omega)])
      all_goals first | exact h | exact h _ | exact h _ _ | exact h _ _ _ | exact h _ _ _ _ | exact h _ _ _ _ _ | exact h _ _ _ _ _ _ | exact h _ _ _ _ _ _ _ | exact h _ _ _ _ _ _ _ _ | rfl | (simp_all [-Bool.forall_bool]; done) | (simp_all [-Bool.forall_bool]; first | exact h | exact h _ | exact h _ _ | exact h _ _ _ | exact h _ _ _ _ | exact h _ _ _ _ _ | exact h _ _ _ _ _ _ | exact h _ _ _ _ _ _ _ | exact h _ _ _ _ _ _ _ _) | (simp_all [-Bool.forall_bool, emp_eq, int_beq]; done) | (simp_all [-Bool.forall_bool]; (intros; simp_all; done)) | (simp_all [-Bool.forall_bool, rdset3, rdset5, rdset88, rdset4, rdset53]; done) | grind
  · intro x3 x4 x5 x6 x1145000 x1145001 x1145002 r h m hm
    cases k with
    | zero => simp only [PK.spec_LiveOf.l1] at h; cases h
    | succ k =>
      obtain ⟨m, rfl⟩ : ∃ m', m = m' + 1 := ⟨m - 1, by omega⟩
      rw [PK.spec_LiveOf.l1] at h
      rw [spec_LiveOf.c7]
      try simp only [w64_eq, wu8_eq, gt_iff_lt, ge_iff_le, int_beq, fdiv33, fdiv45, bt_eq, tmodN, rdOfB, rdOfL] at h
      try simp only [shlR]
      try simp only [w64_eq, wu8_eq, gt_iff_lt, ge_iff_le, int_beq, fdiv33, fdiv45, bt_eq, tmodN, rdOfB, rdOfL, rdT3_eq, rdT5_eq, seq, maxI, minI, emp_eq, rdn3, rdn5, rdn88, rdn4, rdn53]
      refine (itE h (fun q h => (itE h (fun q h => (bnE h (fun _ g h => (fun g => ((fun h => ?_) (il1 _ (by omega) _ _ _ _ _ _ _ _ h m (by omega)))) (spec_l12Insert.rel _ _ _ _ g m (by omega))))) (fun q h => (noE h)))) (fun q h => ((fun h => ?_) (il0 _ (by omega) _ _ _ _ _ _ h m (by omega)))))
      all_goals clear il0 il1
      all_goals (try cases h)
      all_goals (try simp only [*, if_true, if_false, ↓reduceIte, Option.bind_some, List.length_cons, List.length_nil, List.length_append, Bool.not_true, Bool.not_false, Bool.true_eq_false, Bool.false_eq_true])
      all_goals (repeat first | rw [if_pos (by omega)] | rw [if_neg (by omega)])
      all_goals first | exact h | exact h _ | exact h _ _ | exact h _ _ _ | exact h _ _ _ _ | exact h _ _ _ _ _ | exact h _ _ _ _ _ _ | exact h _ _ _ _ _ _ _ | exact h _ _ _ _ _ _ _ _ | rfl | (simp_all [-Bool.forall_bool]; done) | (simp_all [-Bool.forall_bool]; first | exact h | exact h _ | exact h _ _ | exact h _ _ _ | exact h _ _ _ _ | exact h _ _ _ _ _ | exact h _ _ _ _ _ _ | exact h _ _ _ _ _ _ _ | exact h _ _ _ _ _ _ _ _) | (simp_all [-Bool.forall_bool, emp_eq, int_beq]; done) | (simp_all [-Bool.forall_bool]; (intros; simp_all; done)) | (simp_all [-Bool.forall_bool, rdset3, rdset5, rdset88, rdset4, rdset53]; done) | grind
theorem spec_LiveOf.rel (k : Nat) (l0_0 : List (S53)) (l0_1 : List (S88)) (a0_2 : Int) (r) (h : PK.spec_LiveOf.f k l0_0 l0_1 a0_2 = some r) (m : Nat) (hm : k ≤ m) : spec_LiveOf.f m l0_0 l0_1 a0_2 = some r := by
  have il0 := fun k' (_ : k' < k + 1) => (spec_LiveOf.rel_l k').1
  have il1 := fun k' (_ : k' < k + 1) => (spec_LiveOf.rel_l k').2
  rw [PK.spec_LiveOf.f] at h
  rw [spec_LiveOf.f]
  try simp only [w64_eq, wu8_eq, gt_iff_lt, ge_iff_le, int_beq, fdiv33, fdiv45, bt_eq, tmodN, rdOfB, rdOfL] at h
  try simp only [shlR]
  try simp only [w64_eq, wu8_eq, gt_iff_lt, ge_iff_le, int_beq, fdiv33, fdiv45, bt_eq, tmodN, rdOfB, rdOfL, rdT3_eq, rdT5_eq, seq, maxI, minI, emp_eq, rdn3, rdn5, rdn88, rdn4, rdn53]
  refine ((fun h => ?_) (il0 _ (by omega) _ _ _ _ _ _ h m (by omega)))
  all_goals clear il0 il1
  all_goals (try cases h)
  all_goals (try simp only [*, if_true, if_false, ↓reduceIte, Option.bind_some, List.length_cons, List.length_nil, List.length_append, Bool.not_true, Bool.not_false, Bool.true_eq_false, Bool.false_eq_true])
  all_goals (repeat first | rw [if_pos (by omega)] | rw [if_neg (by omega)])
  all_goals first | exact h | exact h _ | exact h _ _ | exact h _ _ _ | exact h _ _ _ _ | exact h _ _ _ _ _ | exact h _ _ _ _ _ _ | exact h _ _ _ _ _ _ _ | exact h _ _ _ _ _ _ _ _ | rfl | (simp_all [-Bool.forall_bool]; done) | (simp_all [-Bool.forall_bool]; first | exact h | exact h _ | exact h _ _ | exact h _ _ _ | exact h _ _ _ _ | exact h _ _ _ _ _ | exact h _ _ _ _ _ _ | exact h _ _ _ _ _ _ _ | exact h _ _ _ _ _ _ _ _) | (simp_all [-Bool.forall_bool, emp_eq, int_beq]; done) | (simp_all [-Bool.forall_bool]; (intros; simp_all; done)) | (simp_all [-Bool.forall_bool, rdset3, rdset5, rdset88, rdset4, rdset53]; done) | grind
end Go.Proofs.Yteideicglgpfiaa.M2

/- What the print's plain functions answer, the own ones answer. Written by a program of this session. -/
namespace Go.Proofs.Yteideicglgpfiaa.M2
open Go Go.RowKit Go.Proofs.YteideicglgpfiaaW.PrintWords Go.Proofs.Yteideicglgpfiaa.PK
set_option linter.unusedVariables false
set_option linter.unusedSimpArgs false
theorem spec_l12Roots.rel_l (k : Nat) : (∀ x3 x4 x200000 x200001 x200002 r, PK.spec_l12Roots.l0 k x3 x4 x200000 x200001 x200002 = some r → ∀ m, k ≤ m → spec_l12Roots.c3 m x4 x200000 x200001 x200002 x3 = some r) := by
  induction k using Nat.strongRecOn with
  | _ k ih =>
  have il0 := fun k' hk' => (ih k' hk')
  clear ih
  intro x3 x4 x200000 x200001 x200002 r h m hm
  cases k with
  | zero => simp only [PK.spec_l12Roots.l0] at h; cases h
  | succ k =>
    obtain ⟨m, rfl⟩ : ∃ m', m = m' + 1 := ⟨m - 1, by omega⟩
    rw [PK.spec_l12Roots.l0] at h
    rw [spec_l12Roots.c3]
    try simp only [w64_eq, wu8_eq, gt_iff_lt, ge_iff_le, int_beq, fdiv33, fdiv45, bt_eq, tmodN, rdOfB, rdOfL] at h
    try simp only [shlR]
    try simp only [w64_eq, wu8_eq, gt_iff_lt, ge_iff_le, int_beq, fdiv33, fdiv45, bt_eq, tmodN, rdOfB, rdOfL, rdT3_eq, rdT5_eq, seq, maxI, minI, emp_eq, rdn3, rdn5, rdn88, rdn4, rdn53]
    refine (itE h (fun q h => (itE h (fun q h => (itE h (fun q h => ((fun h => ?_) (il0 _ (by omega) _ _ _ _ _ _ h m (by omega)))) (fun q h => (noE h)))) (fun q h => (noE h)))) (fun q h => ?_))
    all_goals clear il0
    all_goals (try cases h)
    all_goals (try simp only [*, if_true, if_false, ↓reduceIte, Option.bind_some, List.length_cons, List.length_nil, List.length_append, Bool.not_true, Bool.not_false, Bool.true_eq_false, Bool.false_eq_true])
    all_goals (repeat first | rw [if_pos (by omega)] | rw [if_neg (by omega)])
    all_goals first | exact h | exact h _ | exact h _ _ | exact h _ _ _ | exact h _ _ _ _ | exact h _ _ _ _ _ | exact h _ _ _ _ _ _ | exact h _ _ _ _ _ _ _ | exact h _ _ _ _ _ _ _ _ | rfl | (simp_all [-Bool.forall_bool]; done) | (simp_all [-Bool.forall_bool]; first | exact h | exact h _ | exact h _ _ | exact h _ _ _ | exact h _ _ _ _ | exact h _ _ _ _ _ | exact h _ _ _ _ _ _ | exact h _ _ _ _ _ _ _ | exact h _ _ _ _ _ _ _ _) | (simp_all [-Bool.forall_bool, emp_eq, int_beq]; done) | (simp_all [-Bool.forall_bool]; (intros; simp_all; done)) | (simp_all [-Bool.forall_bool, rdset3, rdset5, rdset88, rdset4, rdset53]; done) | grind
theorem spec_l12Roots.rel (k : Nat) (l0_0 : List (S53)) (l0_1 : List (S88)) (a0_2 : Int) (r) (h : PK.spec_l12Roots.f k l0_0 l0_1 a0_2 = some r) (m : Nat) (hm : k ≤ m) : spec_l12Roots.f m l0_0 l0_1 a0_2 = some r := by
  have il0 := fun k' (_ : k' < k + 1) => (spec_l12Roots.rel_l k')
  rw [PK.spec_l12Roots.f] at h
  rw [spec_l12Roots.f]
  try simp only [w64_eq, wu8_eq, gt_iff_lt, ge_iff_le, int_beq, fdiv33, fdiv45, bt_eq, tmodN, rdOfB, rdOfL] at h
  try simp only [shlR]
  try simp only [w64_eq, wu8_eq, gt_iff_lt, ge_iff_le, int_beq, fdiv33, fdiv45, bt_eq, tmodN, rdOfB, rdOfL, rdT3_eq, rdT5_eq, seq, maxI, minI, emp_eq, rdn3, rdn5, rdn88, rdn4, rdn53]
  refine ((fun h => ?_) (il0 _ (by omega) _ _ _ _ _ _ h m (by omega)))
  all_goals clear il0
  all_goals (try cases h)
  all_goals (try simp only [*, if_true, if_false, ↓reduceIte, Option.bind_some, List.length_cons, List.length_nil, List.length_append, Bool.not_true, Bool.not_false, Bool.true_eq_false, Bool.false_eq_true])
  all_goals (repeat first | rw [if_pos (by omega)] | rw [if_neg (by omega)])
  all_goals first | exact h | exact h _ | exact h _ _ | exact h _ _ _ | exact h _ _ _ _ | exact h _ _ _ _ _ | exact h _ _ _ _ _ _ | exact h _ _ _ _ _ _ _ | exact h _ _ _ _ _ _ _ _ | rfl | (simp_all [-Bool.forall_bool]; done) | (simp_all [-Bool.forall_bool]; first | exact h | exact h _ | exact h _ _ | exact h _ _ _ | exact h _ _ _ _ | exact h _ _ _ _ _ | exact h _ _ _ _ _ _ | exact h _ _ _ _ _ _ _ | exact h _ _ _ _ _ _ _ _) | (simp_all [-Bool.forall_bool, emp_eq, int_beq]; done) | (simp_all [-Bool.forall_bool]; (intros; simp_all; done)) | (simp_all [-Bool.forall_bool, rdset3, rdset5, rdset88, rdset4, rdset53]; done) | grind
end Go.Proofs.Yteideicglgpfiaa.M2

/- What the print's plain functions answer, the own ones answer. Written by a program of this session. -/
namespace Go.Proofs.Yteideicglgpfiaa.M2
open Go Go.RowKit Go.Proofs.YteideicglgpfiaaW.PrintWords Go.Proofs.Yteideicglgpfiaa.PK
set_option linter.unusedVariables false
set_option linter.unusedSimpArgs false
theorem spec_RecOk.rel (k : Nat) (a0_0 : Int) (a0_1 : Int) (a0_2 : Int) (a0_3 : Int) (r) (h : PK.spec_RecOk.f k a0_0 a0_1 a0_2 a0_3 = some r) (m : Nat) (hm : k ≤ m) : spec_RecOk.f m a0_0 a0_1 a0_2 a0_3 = some r := by
  rw [PK.spec_RecOk.f] at h
  rw [spec_RecOk.f]
  try simp only [w64_eq, wu8_eq, gt_iff_lt, ge_iff_le, int_beq, fdiv33, fdiv45, bt_eq, tmodN, rdOfB, rdOfL] at h
  try simp only [shlR]
  try simp only [w64_eq, wu8_eq, gt_iff_lt, ge_iff_le, int_beq, fdiv33, fdiv45, bt_eq, tmodN, rdOfB, rdOfL, rdT3_eq, rdT5_eq, seq, maxI, minI, emp_eq, rdn3, rdn5, rdn88, rdn4, rdn53]
  refine (bnE h (fun _ g h => (fun g => (itE h (fun q h => (itE h (fun q h => (itE h (fun q h => ?_) (fun q h => ?_))) (fun q h => (bnE h (fun _ g h => (fun g => (itE h (fun q h => (bnE h (fun _ g h => (fun g => (itE h (fun q h => (itE h (fun q h => (by cases k with | zero => (simp only [PK.spec_RecOk.j0] at h; cases h) | succ k => (rw [PK.spec_RecOk.j0] at h; (try simp only [w64_eq, wu8_eq, gt_iff_lt, ge_iff_le, int_beq, fdiv33, fdiv45, bt_eq, tmodN, rdOfB, rdOfL] at h); refine (itE h (fun q h => ?_) (fun q h => (itE h (fun q h => ?_) (fun q h => (itE h (fun q h => ?_) (fun q h => (itE h (fun q h => (itE h (fun q h => (bnE h (fun _ g h => (fun g => ?_) (spec_l01In.rel m _ _ _ _ g m (by omega))))) (fun q h => ?_))) (fun q h => ?_)))))))) <;> ((try cases h); (try simp only [*, if_true, if_false, ↓reduceIte, Option.bind_some, List.length_cons, List.length_nil, List.length_append, Bool.not_true, Bool.not_false, Bool.true_eq_false, Bool.false_eq_true]); all_goals (repeat first | rw [if_pos (by omega)] | rw [if_neg (by omega)]); all_goals (first | exact h | exact h _ | exact h _ _ | exact h _ _ _ | exact h _ _ _ _ | exact h _ _ _ _ _ | exact h _ _ _ _ _ _ | exact h _ _ _ _ _ _ _ | exact h _ _ _ _ _ _ _ _ | rfl | (simp_all [-Bool.forall_bool]; done) | (simp_all [-Bool.forall_bool]; first | exact h | exact h _ | exact h _ _ | exact h _ _ _ | exact h _ _ _ _ | exact h _ _ _ _ _ | exact h _ _ _ _ _ _ | exact h _ _ _ _ _ _ _ | exact h _ _ _ _ _ _ _ _) | (simp_all [-Bool.forall_bool, emp_eq, int_beq]; done) | (simp_all [-Bool.forall_bool]; (intros; simp_all; done)) | (simp_all [-Bool.forall_bool, rdset3, rdset5, rdset88, rdset4, rdset53]; done) | grind))))) (fun q h => (by cases k with | zero => (simp only [PK.spec_RecOk.j0] at h; cases h) | succ k => (rw [PK.spec_RecOk.j0] at h; (try simp only [w64_eq, wu8_eq, gt_iff_lt, ge_iff_le, int_beq, fdiv33, fdiv45, bt_eq, tmodN, rdOfB, rdOfL] at h); refine (itE h (fun q h => ?_) (fun q h => (itE h (fun q h => ?_) (fun q h => (itE h (fun q h => ?_) (fun q h => (itE h (fun q h => (itE h (fun q h => (bnE h (fun _ g h => (fun g => ?_) (spec_l01In.rel m _ _ _ _ g m (by omega))))) (fun q h => ?_))) (fun q h => ?_)))))))) <;> ((try cases h); (try simp only [*, if_true, if_false, ↓reduceIte, Option.bind_some, List.length_cons, List.length_nil, List.length_append, Bool.not_true, Bool.not_false, Bool.true_eq_false, Bool.false_eq_true]); all_goals (repeat first | rw [if_pos (by omega)] | rw [if_neg (by omega)]); all_goals (first | exact h | exact h _ | exact h _ _ | exact h _ _ _ | exact h _ _ _ _ | exact h _ _ _ _ _ | exact h _ _ _ _ _ _ | exact h _ _ _ _ _ _ _ | exact h _ _ _ _ _ _ _ _ | rfl | (simp_all [-Bool.forall_bool]; done) | (simp_all [-Bool.forall_bool]; first | exact h | exact h _ | exact h _ _ | exact h _ _ _ | exact h _ _ _ _ | exact h _ _ _ _ _ | exact h _ _ _ _ _ _ | exact h _ _ _ _ _ _ _ | exact h _ _ _ _ _ _ _ _) | (simp_all [-Bool.forall_bool, emp_eq, int_beq]; done) | (simp_all [-Bool.forall_bool]; (intros; simp_all; done)) | (simp_all [-Bool.forall_bool, rdset3, rdset5, rdset88, rdset4, rdset53]; done) | grind))))))) (fun q h => (by cases k with | zero => (simp only [PK.spec_RecOk.j0] at h; cases h) | succ k => (rw [PK.spec_RecOk.j0] at h; (try simp only [w64_eq, wu8_eq, gt_iff_lt, ge_iff_le, int_beq, fdiv33, fdiv45, bt_eq, tmodN, rdOfB, rdOfL] at h); refine (itE h (fun q h => ?_) (fun q h => (itE h (fun q h => ?_) (fun q h => (itE h (fun q h => ?_) (fun q h => (itE h (fun q h => (itE h (fun q h => (bnE h (fun _ g h => (fun g => ?_) (spec_l01In.rel m _ _ _ _ g m (by omega))))) (fun q h => ?_))) (fun q h => ?_)))))))) <;> ((try cases h); (try simp only [*, if_true, if_false, ↓reduceIte, Option.bind_some, List.length_cons, List.length_nil, List.length_append, Bool.not_true, Bool.not_false, Bool.true_eq_false, Bool.false_eq_true]); all_goals (repeat first | rw [if_pos (by omega)] | rw [if_neg (by omega)]); all_goals (first | exact h | exact h _ | exact h _ _ | exact h _ _ _ | exact h _ _ _ _ | exact h _ _ _ _ _ | exact h _ _ _ _ _ _ | exact h _ _ _ _ _ _ _ | exact h _ _ _ _ _ _ _ _ | rfl | (simp_all [-Bool.forall_bool]; done) | (simp_all [-Bool.forall_bool]; first | exact h | exact h _ | exact h _ _ | exact h _ _ _ | exact h _ _ _ _ | exact h _ _ _ _ _ | exact h _ _ _ _ _ _ | exact h _ _ _ _ _ _ _ | exact h _ _ _ _ _ _ _ _) | (simp_all [-Bool.forall_bool, emp_eq, int_beq]; done) | (simp_all [-Bool.forall_bool]; (intros; simp_all; done)) | (simp_all [-Bool.forall_bool, rdset3, rdset5, rdset88, rdset4, rdset53]; done) | grind))))))) (spec_l01In.rel m _ _ _ _ g m (by omega))))) (fun q h => (by cases k with | zero => (simp only [PK.spec_RecOk.j0] at h; cases h) | succ k => (rw [PK.spec_RecOk.j0] at h; (try simp only [w64_eq, wu8_eq, gt_iff_lt, ge_iff_le, int_beq, fdiv33, fdiv45, bt_eq, tmodN, rdOfB, rdOfL] at h); refine (itE h (fun q h => ?_) (fun q h => (itE h (fun q h => ?_) (fun q h => (itE h (fun q h => ?_) (fun q h => (itE h (fun q h => (itE h (fun q h => (bnE h (fun _ g h => (fun g => ?_) (spec_l01In.rel m _ _ _ _ g m (by omega))))) (fun q h => ?_))) (fun q h => ?_)))))))) <;> ((try cases h); (try simp only [*, if_true, if_false, ↓reduceIte, Option.bind_some, List.length_cons, List.length_nil, List.length_append, Bool.not_true, Bool.not_false, Bool.true_eq_false, Bool.false_eq_true]); all_goals (repeat first | rw [if_pos (by omega)] | rw [if_neg (by omega)]); all_goals (first | exact h | exact h _ | exact h _ _ | exact h _ _ _ | exact h _ _ _ _ | exact h _ _ _ _ _ | exact h _ _ _ _ _ _ | exact h _ _ _ _ _ _ _ | exact h _ _ _ _ _ _ _ _ | rfl | (simp_all [-Bool.forall_bool]; done) | (simp_all [-Bool.forall_bool]; first | exact h | exact h _ | exact h _ _ | exact h _ _ _ | exact h _ _ _ _ | exact h _ _ _ _ _ | exact h _ _ _ _ _ _ | exact h _ _ _ _ _ _ _ | exact h _ _ _ _ _ _ _ _) | (simp_all [-Bool.forall_bool, emp_eq, int_beq]; done) | (simp_all [-Bool.forall_bool]; (intros; simp_all; done)) | (simp_all [-Bool.forall_bool, rdset3, rdset5, rdset88, rdset4, rdset53]; done) | grind))))))) (spec_l01In.rel m _ _ _ _ g m (by omega))))))) (fun q h => ?_))) (spec_l01In.rel m _ _ _ _ g m (by omega))))
  all_goals (try cases h)
  all_goals (try simp only [*, if_true, if_false, ↓reduceIte, Option.bind_some, List.length_cons, List.length_nil, List.length_append, Bool.not_true, Bool.not_false, Bool.true_eq_false, Bool.false_eq_true])
  all_goals (repeat first | rw [if_pos (by omega)] | rw [if_neg (by omega)])
  all_goals first | exact h | exact h _ | exact h _ _ | exact h _ _ _ | exact h _ _ _ _ | exact h _ _ _ _ _ | exact h _ _ _ _ _ _ | exact h _ _ _ _ _ _ _ | exact h _ _ _ _ _ _ _ _ | rfl | (simp_all [-Bool.forall_bool]; done) | (simp_all [-Bool.forall_bool]; first | exact h | exact h _ | exact h _ _ | exact h _ _ _ | exact h _ _ _ _ | exact h _ _ _ _ _ | exact h _ _ _ _ _ _ | exact h _ _ _ _ _ _ _ | exact h _ _ _ _ _ _ _ _) | (simp_all [-Bool.forall_bool, emp_eq, int_beq]; done) | (simp_all [-Bool.forall_bool]; (intros; simp_all; done)) | (simp_all [-Bool.forall_bool, rdset3, rdset5, rdset88, rdset4, rdset53]; done) | grind
end Go.Proofs.Yteideicglgpfiaa.M2

/- What the print's plain functions answer, the own ones answer. Written by a program of this session. -/
namespace Go.Proofs.Yteideicglgpfiaa.M2
open Go Go.RowKit Go.Proofs.YteideicglgpfiaaW.PrintWords Go.Proofs.Yteideicglgpfiaa.PK
set_option linter.unusedVariables false
set_option linter.unusedSimpArgs false
theorem spec_l12At.rel_l (k : Nat) : (∀ x1 x5 x244000 x244001 x244002 r, PK.spec_l12At.l0 k x1 x5 x244000 x244001 x244002 = some r → ∀ m, k ≤ m → spec_l12At.c2 m x1 x5 x244000 x244001 x244002 = some r) := by
  induction k using Nat.strongRecOn with
  | _ k ih =>
  have il0 := fun k' hk' => (ih k' hk')
  clear ih
  intro x1 x5 x244000 x244001 x244002 r h m hm
  cases k with
  | zero => simp only [PK.spec_l12At.l0] at h; cases h
  | succ k =>
    obtain ⟨m, rfl⟩ : ∃ m', m = m' + 1 := ⟨m - 1, by omega⟩
    rw [PK.spec_l12At.l0] at h
    rw [spec_l12At.c2]
    try simp only [w64_eq, wu8_eq, gt_iff_lt, ge_iff_le, int_beq, fdiv33, fdiv45, bt_eq, tmodN, rdOfB, rdOfL] at h
    try simp only [shlR]
    try simp only [w64_eq, wu8_eq, gt_iff_lt, ge_iff_le, int_beq, fdiv33, fdiv45, bt_eq, tmodN, rdOfB, rdOfL, rdT3_eq, rdT5_eq, seq, maxI, minI, emp_eq, rdn3, rdn5, rdn88, rdn4, rdn53]
    refine (itE h (fun q h => (itE h (fun q h => (itE h (fun q h => ?_) (fun q h => ((fun h => ?_) (il0 _ (by omega) _ _ _ _ _ _ h m (by omega)))))) (fun q h => (noE h)))) (fun q h => ?_))
    all_goals clear il0
    all_goals (try cases h)
    all_goals (try simp only [*, if_true, if_false, ↓reduceIte, Option.bind_some, List.length_cons, List.length_nil, List.length_append, Bool.not_true, Bool.not_false, Bool.true_eq_false, Bool.false_eq_true])
    all_goals (repeat first | rw [if_pos (by omega)] | rw [if_neg (by omega)])
    all_goals first | exact h | exact h _ | exact h _ _ | exact h _ _ _ | exact h _ _ _ _ | exact h _ _ _ _ _ | exact h _ _ _ _ _ _ | exact h _ _ _ _ _ _ _ | exact h _ _ _ _ _ _ _ _ | rfl | (simp_all [-Bool.forall_bool]; done) | (simp_all [-Bool.forall_bool]; first | exact h | exact h _ | exact h _ _ | exact h _ _ _ | exact h _ _ _ _ | exact h _ _ _ _ _ | exact h _ _ _ _ _ _ | exact h _ _ _ _ _ _ _ | exact h _ _ _ _ _ _ _ _) | (simp_all [-Bool.forall_bool, emp_eq, int_beq]; done) | (simp_all [-Bool.forall_bool]; (intros; simp_all; done)) | (simp_all [-Bool.forall_bool, rdset3, rdset5, rdset88, rdset4, rdset53]; done) | grind
theorem spec_l12At.rel (k : Nat) (l0_0 : List (S53)) (l0_1 : List (S88)) (a0_2 : Int) (a1 : Int) (r) (h : PK.spec_l12At.f k l0_0 l0_1 a0_2 a1 = some r) (m : Nat) (hm : k ≤ m) : spec_l12At.f m l0_0 l0_1 a0_2 a1 = some r := by
  have il0 := fun k' (_ : k' < k + 1) => (spec_l12At.rel_l k')
  rw [PK.spec_l12At.f] at h
  rw [spec_l12At.f]
  try simp only [w64_eq, wu8_eq, gt_iff_lt, ge_iff_le, int_beq, fdiv33, fdiv45, bt_eq, tmodN, rdOfB, rdOfL] at h
  try simp only [shlR]
  try simp only [w64_eq, wu8_eq, gt_iff_lt, ge_iff_le, int_beq, fdiv33, fdiv45, bt_eq, tmodN, rdOfB, rdOfL, rdT3_eq, rdT5_eq, seq, maxI, minI, emp_eq, rdn3, rdn5, rdn88, rdn4, rdn53]
  refine ((fun h => ?_) (il0 _ (by omega) _ _ _ _ _ _ h m (by omega)))
  all_goals clear il0
  all_goals (try cases h)
  all_goals (try simp only [*, if_true, if_false, ↓reduceIte, Option.bind_some, List.length_cons, List.length_nil, List.length_append, Bool.not_true, Bool.not_false, Bool.true_eq_false, Bool.false_eq_true])
  all_goals (repeat first | rw [if_pos (by omega)] | rw [if_neg (by omega)])
  all_goals first | exact h | exact h _ | exact h _ _ | exact h _ _ _ | exact h _ _ _ _ | exact h _ _ _ _ _ | exact h _ _ _ _ _ _ | exact h _ _ _ _ _ _ _ | exact h _ _ _ _ _ _ _ _ | rfl | (simp_all [-Bool.forall_bool]; done) | (simp_all [-Bool.forall_bool]; first | exact h | exact h _ | exact h _ _ | exact h _ _ _ | exact h _ _ _ _ | exact h _ _ _ _ _ | exact h _ _ _ _ _ _ | exact h _ _ _ _ _ _ _ | exact h _ _ _ _ _ _ _ _) | (simp_all [-Bool.forall_bool, emp_eq, int_beq]; done) | (simp_all [-Bool.forall_bool]; (intros; simp_all; done)) | (simp_all [-Bool.forall_bool, rdset3, rdset5, rdset88, rdset4, rdset53]; done) | grind

theorem spec_l11Has.rel_l (k : Nat) : (∀ x1 x5 x6 x139000 r, PK.spec_l11Has.l0 k x1 x5 x6 x139000 = some r → ∀ m, k ≤ m → spec_l11Has.c6 m x1 x6 x139000 x5 = some r) := by
  induction k using Nat.strongRecOn with
  | _ k ih =>
  have il0 := fun k' hk' => (ih k' hk')
  clear ih
  intro x1 x5 x6 x139000 r h m hm
  cases k with
  | zero => simp only [PK.spec_l11Has.l0] at h; cases h
  | succ k =>
    obtain ⟨m, rfl⟩ : ∃ m', m = m' + 1 := ⟨m - 1, by omega⟩
    rw [PK.spec_l11Has.l0] at h
    rw [spec_l11Has.c6]
    try simp only [w64_eq, wu8_eq, gt_iff_lt, ge_iff_le, int_beq, fdiv33, fdiv45, bt_eq, tmodN, rdOfB, rdOfL] at h
    try simp only [shlR]
    try simp only [w64_eq, wu8_eq, gt_iff_lt, ge_iff_le, int_beq, fdiv33, fdiv45, bt_eq, tmodN, rdOfB, rdOfL, rdT3_eq, rdT5_eq, seq, maxI, minI, emp_eq, rdn3, rdn5, rdn88, rdn4, rdn53]
    refine (itE h (fun q h => (itE h (fun q h => (itE h (fun q h => (itE h (fun q h => (itE h (fun q h => (itE h (fun q h => (itE h (fun q h => (itE h (fun q h => ((fun h => ?_) (il0 _ (by omega) _ _ _ _ _ h m (by omega)))) (fun q h => (noE h)))) (fun q h => (noE h)))) (fun q h => ((fun h => ?_) (il0 _ (by omega) _ _ _ _ _ h m (by omega)))))) (fun q h => (noE h)))) (fun q h => (noE h)))) (fun q h => (noE h)))) (fun q h => (noE h)))) (fun q h => ?_))
    all_goals clear il0
    all_goals (try cases h)
    all_goals (try simp only [*, if_true, if_false, ↓reduceIte, Option.bind_some, List.length_cons, List.length_nil, List.length_append, Bool.not_true, Bool.not_false, Bool.true_eq_false, Bool.false_eq_true])
    all_goals (repeat first | rw [if_pos (by omega)] | rw [if_neg (by omega)])
    all_goals first | exact h | exact h _ | exact h _ _ | exact h _ _ _ | exact h _ _ _ _ | exact h _ _ _ _ _ | exact h _ _ _ _ _ _ | exact h _ _ _ _ _ _ _ | exact h _ _ _ _ _ _ _ _ | rfl | (simp_all [-Bool.forall_bool]; done) | (simp_all [-Bool.forall_bool]; first | exact h | exact h _ | exact h _ _ | exact h _ _ _ | exact h _ _ _ _ | exact h _ _ _ _ _ | exact h _ _ _ _ _ _ | exact h _ _ _ _ _ _ _ | exact h _ _ _ _ _ _ _ _) | (simp_all [-Bool.forall_bool, emp_eq, int_beq]; done) | (simp_all [-Bool.forall_bool]; (intros; simp_all; done)) | (simp_all [-Bool.forall_bool, rdset3, rdset5, rdset88, rdset4, rdset53]; done) | grind
theorem spec_l11Has.rel (k : Nat) (l0_0 : List (S88)) (a1 : Int) (r) (h : PK.spec_l11Has.f k l0_0 a1 = some r) (m : Nat) (hm : k ≤ m) : spec_l11Has.f m l0_0 a1 = some r := by
  have il0 := fun k' (_ : k' < k + 1) => (spec_l11Has.rel_l k')
  rw [PK.spec_l11Has.f] at h
  rw [spec_l11Has.f]
  try simp only [w64_eq, wu8_eq, gt_iff_lt, ge_iff_le, int_beq, fdiv33, fdiv45, bt_eq, tmodN, rdOfB, rdOfL] at h
  try simp only [shlR]
  try simp only [w64_eq, wu8_eq, gt_iff_lt, ge_iff_le, int_beq, fdiv33, fdiv45, bt_eq, tmodN, rdOfB, rdOfL, rdT3_eq, rdT5_eq, seq, maxI, minI, emp_eq, rdn3, rdn5, rdn88, rdn4, rdn53]
  refine (itE h (fun q h => (itE h (fun q h => (bsE h (fun h => (itE h (fun q h => ?_) (fun q h => (itE h (fun q h => (itE h (fun q h => ((fun h => ?_) (il0 _ (by omega) _ _ _ _ _ h m (by omega)))) (fun q h => (noE h)))) (fun q h => (noE h)))))))) (fun q h => (noE h)))) (fun q h => (noE h)))
  all_goals clear il0
  all_goals (try cases h)
  all_goals (try simp only [*, if_true, if_false, ↓reduceIte, Option.bind_some, List.length_cons, List.length_nil, List.length_append, Bool.not_true, Bool.not_false, Bool.true_eq_false, Bool.false_eq_true])
  all_goals (repeat first | rw [if_pos (by omega)] | rw [if_neg (by omega)])
  all_goals first | exact h | exact h _ | exact h _ _ | exact h _ _ _ | exact h _ _ _ _ | exact h _ _ _ _ _ | exact h _ _ _ _ _ _ | exact h _ _ _ _ _ _ _ | exact h _ _ _ _ _ _ _ _ | rfl | (simp_all [-Bool.forall_bool]; done) | (simp_all [-Bool.forall_bool]; first | exact h | exact h _ | exact h _ _ | exact h _ _ _ | exact h _ _ _ _ | exact h _ _ _ _ _ | exact h _ _ _ _ _ _ | exact h _ _ _ _ _ _ _ | exact h _ _ _ _ _ _ _ _) | (simp_all [-Bool.forall_bool, emp_eq, int_beq]; done) | (simp_all [-Bool.forall_bool]; (intros; simp_all; done)) | (simp_all [-Bool.forall_bool, rdset3, rdset5, rdset88, rdset4, rdset53]; done) | grind
end Go.Proofs.Yteideicglgpfiaa.M2

/- What the print's plain functions answer, the own ones answer. Written by a program of this session. -/
namespace Go.Proofs.Yteideicglgpfiaa.M2
open Go Go.RowKit Go.Proofs.YteideicglgpfiaaW.PrintWords Go.Proofs.Yteideicglgpfiaa.PK
set_option linter.unusedVariables false
set_option linter.unusedSimpArgs false
theorem spec_SweepArena.rel_l (k : Nat) : (∀ x1 x6 x7 x8 x149000 r, PK.spec_SweepArena.l0 k x1 x6 x7 x8 x149000 = some r → ∀ m, k ≤ m → ∀ (h66 : List S88), spec_SweepArena.c4 m x1 x7 x8 x149000 h66 x6 = some (r.1, r.2)) ∧ (∀ x1 x6 x9 x10 x149000 r, PK.spec_SweepArena.l1 k x1 x6 x9 x10 x149000 = some r → ∀ m, k ≤ m → ∀ (h66 : List S88), spec_SweepArena.c11 m x1 x10 x149000 h66 x6 x9 = some (r.1, r.2)) ∧ (∀ x1 x6 x9 x10 x11 x12 x149000 r, PK.spec_SweepArena.l2 k x1 x6 x9 x10 x11 x12 x149000 = some r → ∀ m, k ≤ m → ∀ (h66 : List S88), spec_SweepArena.c15 m x1 x10 x12 x149000 h66 x6 x9 x11 = some (r.1, r.2)) ∧ (∀ x6 x9 x13 x15 x149000 x177000 r, PK.spec_SweepArena.l3 k x6 x9 x13 x15 x149000 x177000 = some r → ∀ m, k ≤ m → ∀ (h66 : List S88), spec_SweepArena.c21 m x15 x149000 h66 x6 x9 x13 x177000 = some (r.1, r.2)) ∧ (∀ x6 x9 x13 x15 x17 x149000 x177000 x187000 x187001 r, PK.spec_SweepArena.l4 k x6 x9 x13 x15 x17 x149000 x177000 x187000 x187001 = some r → ∀ m, k ≤ m → ∀ (h66 : List S88), spec_SweepArena.c26 m x15 x17 x149000 h66 x6 x9 x13 (x177000) x187001 x187000 = some (r.1, r.2)) ∧ (∀ x6 x13 x18 x177000 r, PK.spec_SweepArena.l5 k x6 x13 x18 x177000 = some r → ∀ m, k ≤ m → ∀ (h65 : List S88), spec_SweepArena.c33 m x18 h65 x6 x13 x177000 = some (r.1, r.2)) := by
  induction k using Nat.strongRecOn with
  | _ k ih =>
  have il0 := fun k' hk' => (ih k' hk').1
  have il1 := fun k' hk' => (ih k' hk').2.1
  have il2 := fun k' hk' => (ih k' hk').2.2.1
  have il3 := fun k' hk' => (ih k' hk').2.2.2.1
  have il4 := fun k' hk' => (ih k' hk').2.2.2.2.1
  have il5 := fun k' hk' => (ih k' hk').2.2.2.2.2
  clear ih
  refine ⟨?_, ?_, ?_, ?_, ?_, ?_⟩
  · intro x1 x6 x7 x8 x149000 r h m hm h66
    cases k with
    | zero => simp only [PK.spec_SweepArena.l0] at h; cases h
    | succ k =>
      obtain ⟨m, rfl⟩ : ∃ m', m = m' + 1 := ⟨m - 1, by omega⟩
      rw [PK.spec_SweepArena.l0] at h
      rw [spec_SweepArena.c4]
      try simp only [w64_eq, wu8_eq, gt_iff_lt, ge_iff_le, int_beq, fdiv33, fdiv45, bt_eq, tmodN, rdOfB, rdOfL] at h
      try simp only [shlR]
      try simp only [w64_eq, wu8_eq, gt_iff_lt, ge_iff_le, int_beq, fdiv33, fdiv45, bt_eq, tmodN, rdOfB, rdOfL, rdT3_eq, rdT5_eq, seq, maxI, minI, emp_eq, rdn3, rdn5, rdn88, rdn4, rdn53]
      refine (itE h (fun q h => (itE h (fun q h => (itE h (fun q h => (bnE h (fun _ g h => (fun g => ((fun h => ?_) (il0 _ (by omega) _ _ _ _ _ _ h m (by omega)))) (spec_l11Root.rel m _ _ _ g m (by omega))))) (fun q h => (noE h)))) (fun q h => (by cases k with | zero => (simp only [PK.spec_SweepArena.j1] at h; cases h) | succ k => (rw [PK.spec_SweepArena.j1] at h; (try simp only [w64_eq, wu8_eq, gt_iff_lt, ge_iff_le, int_beq, fdiv33, fdiv45, bt_eq, tmodN, rdOfB, rdOfL] at h); refine (itE h (fun q h => (itE h (fun q h => (itE h (fun q h => ((fun h => ?_) (il1 _ (by omega) _ _ _ _ _ _ h m (by omega)))) (fun q h => (noE h)))) (fun q h => (noE h)))) (fun q h => (bnE h (fun _ g h => (fun g => ?_) (spec_l11Copy.rel _ _ _ g m (by omega)))))) <;> ((try cases h); (try simp only [*, if_true, if_false, ↓reduceIte, Option.bind_some, List.length_cons, List.length_nil, List.length_append, Bool.not_true, Bool.not_false, Bool.true_eq_false, Bool.false_eq_true]); all_goals (repeat first | rw [if_pos (by omega)] | rw [if_neg (by omega)]); all_goals (first | exact h | exact h _ | exact h _ _ | exact h _ _ _ | exact h _ _ _ _ | exact h _ _ _ _ _ | exact h _ _ _ _ _ _ | exact h _ _ _ _ _ _ _ | exact h _ _ _ _ _ _ _ _ | rfl | (simp_all [-Bool.forall_bool]; done) | (simp_all [-Bool.forall_bool]; first | exact h | exact h _ | exact h _ _ | exact h _ _ _ | exact h _ _ _ _ | exact h _ _ _ _ _ | exact h _ _ _ _ _ _ | exact h _ _ _ _ _ _ _ | exact h _ _ _ _ _ _ _ _) | (simp_all [-Bool.forall_bool, emp_eq, int_beq]; done) | (simp_all [-Bool.forall_bool]; (intros; simp_all; done)) | (simp_all [-Bool.forall_bool, rdset3, rdset5, rdset88, rdset4, rdset53]; done) | grind))))))) (fun q h => (by cases k with | zero => (simp only [PK.spec_SweepArena.j1] at h; cases h) | succ k => (rw [PK.spec_SweepArena.j1] at h; (try simp only [w64_eq, wu8_eq, gt_iff_lt, ge_iff_le, int_beq, fdiv33, fdiv45, bt_eq, tmodN, rdOfB, rdOfL] at h); refine (itE h (fun q h => (itE h (fun q h => (itE h (fun q h => ((fun h => ?_) (il1 _ (by omega) _ _ _ _ _ _ h m (by omega)))) (fun q h => (noE h)))) (fun q h => (noE h)))) (fun q h => (bnE h (fun _ g h => (fun g => ?_) (spec_l11Copy.rel _ _ _ g m (by omega)))))) <;> ((try cases h); (try simp only [*, if_true, if_false, ↓reduceIte, Option.bind_some, List.length_cons, List.length_nil, List.length_append, Bool.not_true, Bool.not_false, Bool.true_eq_false, Bool.false_eq_true]); all_goals (repeat first | rw [if_pos (by omega)] | rw [if_neg (by omega)]); all_goals (first | exact h | exact h _ | exact h _ _ | exact h _ _ _ | exact h _ _ _ _ | exact h _ _ _ _ _ | exact h _ _ _ _ _ _ | exact h _ _ _ _ _ _ _ | exact h _ _ _ _ _ _ _ _ | rfl | (simp_all [-Bool.forall_bool]; done) | (simp_all [-Bool.forall_bool]; first | exact h | exact h _ | exact h _ _ | exact h _ _ _ | exact h _ _ _ _ | exact h _ _ _ _ _ | exact h _ _ _ _ _ _ | exact h _ _ _ _ _ _ _ | exact h _ _ _ _ _ _ _ _) | (simp_all [-Bool.forall_bool, emp_eq, int_beq]; done) | (simp_all [-Bool.forall_bool]; (intros; simp_all; done)) | (simp_all [-Bool.forall_bool, rdset3, rdset5, rdset88, rdset4, rdset53]; done) | grind))))))
      all_goals clear il0 il1 il2 il3 il4 il5
      all_goals (try cases h)
      all_goals (try simp only [*, if_true, if_false, ↓reduceIte, Option.bind_some, List.length_cons, List.length_nil, List.length_append, Bool.not_true, Bool.not_false, Bool.true_eq_false, Bool.false_eq_true])
      all_goals (repeat first | rw [if_pos (by omega)] | rw [if_neg (by omega)])
      all_goals first | exact h | exact h _ | exact h _ _ | exact h _ _ _ | exact h _ _ _ _ | exact h _ _ _ _ _ | exact h _ _ _ _ _ _ | exact h _ _ _ _ _ _ _ | exact h _ _ _ _ _ _ _ _ | rfl | (simp_all [-Bool.forall_bool]; done) | (simp_all [-Bool.forall_bool]; first | exact h | exact h _ | exact h _ _ | exact h _ _ _ | exact h _ _ _ _ | exact h _ _ _ _ _ | exact h _ _ _ _ _ _ | exact h _ _ _ _ _ _ _ | exact h _ _ _ _ _ _ _ _) | (simp_all [-Bool.forall_bool, emp_eq, int_beq]; done) | (simp_all [-Bool.forall_bool]; (intros; simp_all; done)) | (simp_all [-Bool.forall_bool, rdset3, rdset5, rdset88, rdset4, rdset53]; done) | grind
  · intro x1 x6 x9 x10 x149000 r h m hm h66
    cases k with
    | zero => simp only [PK.spec_SweepArena.l1] at h; cases h
    | succ k =>
      obtain ⟨m, rfl⟩ : ∃ m', m = m' + 1 := ⟨m - 1, by omega⟩
      rw [PK.spec_SweepArena.l1] at h
      rw [spec_SweepArena.c11]
      try simp only [w64_eq, wu8_eq, gt_iff_lt, ge_iff_le, int_beq, fdiv33, fdiv45, bt_eq, tmodN, rdOfB, rdOfL] at h
      try simp only [shlR]
      try simp only [w64_eq, wu8_eq, gt_iff_lt, ge_iff_le, int_beq, fdiv33, fdiv45, bt_eq, tmodN, rdOfB, rdOfL, rdT3_eq, rdT5_eq, seq, maxI, minI, emp_eq, rdn3, rdn5, rdn88, rdn4, rdn53]
      refine (itE h (fun q h => (itE h (fun q h => (bnE h (fun _ g h => (fun g => ((fun h => ?_) (il2 _ (by omega) _ _ _ _ _ _ _ _ h m (by omega)))) (spec_l11Has.rel _ _ _ _ g m (by omega))))) (fun q h => (noE h)))) (fun q h => (itE h (fun q h => (itE h (fun q h => ((fun h => ?_) (il3 _ (by omega) _ _ _ _ _ _ _ h m (by omega)))) (fun q h => (noE h)))) (fun q h => (noE h)))))
      all_goals clear il0 il1 il2 il3 il4 il5
      all_goals (try cases h)
      all_goals (try simp only [*, if_true, if_false, ↓reduceIte, Option.bind_some, List.length_cons, List.length_nil, List.length_append, Bool.not_true, Bool.not_false, Bool.true_eq_false, Bool.false_eq_true])
      all_goals (repeat first | rw [if_pos (by omega)] | rw [if_neg (by omega)])
      all_goals first | exact h | exact h _ | exact h _ _ | exact h _ _ _ | exact h _ _ _ _ | exact h _ _ _ _ _ | exact h _ _ _ _ _ _ | exact h _ _ _ _ _ _ _ | exact h _ _ _ _ _ _ _ _ | rfl | (simp_all [-Bool.forall_bool]; done) | (simp_all [-Bool.forall_bool]; first | exact h | exact h _ | exact h _ _ | exact h _ _ _ | exact h _ _ _ _ | exact h _ _ _ _ _ | exact h _ _ _ _ _ _ | exact h _ _ _ _ _ _ _ | exact h _ _ _ _ _ _ _ _) | (simp_all [-Bool.forall_bool, emp_eq, int_beq]; done) | (simp_all [-Bool.forall_bool]; (intros; simp_all; done)) | (simp_all [-Bool.forall_bool, rdset3, rdset5, rdset88, rdset4, rdset53]; done) | grind
  · intro x1 x6 x9 x10 x11 x12 x149000 r h m hm h66
    cases k with
    | zero => simp only [PK.spec_SweepArena.l2] at h; cases h
    | succ k =>
      obtain ⟨m, rfl⟩ : ∃ m', m = m' + 1 := ⟨m - 1, by omega⟩
      rw [PK.spec_SweepArena.l2] at h
      rw [spec_SweepArena.c15]
      try simp only [w64_eq, wu8_eq, gt_iff_lt, ge_iff_le, int_beq, fdiv33, fdiv45, bt_eq, tmodN, rdOfB, rdOfL] at h
      try simp only [shlR]
      try simp only [w64_eq, wu8_eq, gt_iff_lt, ge_iff_le, int_beq, fdiv33, fdiv45, bt_eq, tmodN, rdOfB, rdOfL, rdT3_eq, rdT5_eq, seq, maxI, minI, emp_eq, rdn3, rdn5, rdn88, rdn4, rdn53]
      refine (itE h (fun q h => (itE h (fun q h => (itE h (fun q h => (itE h (fun q h => ((fun h => ?_) (il2 _ (by omega) _ _ _ _ _ _ _ _ h m (by omega)))) (fun q h => ((fun h => ?_) (il2 _ (by omega) _ _ _ _ _ _ _ _ h m (by omega)))))) (fun q h => (noE h)))) (fun q h => (noE h)))) (fun q h => ((fun h => ?_) (il1 _ (by omega) _ _ _ _ _ _ h m (by omega)))))
      all_goals clear il0 il1 il2 il3 il4 il5
      all_goals (try cases h)
      all_goals (try simp only [*, if_true, if_false, ↓reduceIte, Option.bind_some, List.length_cons, List.length_nil, List.length_append, Bool.not_true, Bool.not_false, Bool.true_eq_false, Bool.false_eq_true])
      all_goals (repeat first | rw [if_pos (by omega)] | rw [if_neg (by omega)])
      all_goals first | exact h | exact h _ | exact h _ _ | exact h _ _ _ | exact h _ _ _ _ | exact h _ _ _ _ _ | exact h _ _ _ _ _ _ | exact h _ _ _ _ _ _ _ | exact h _ _ _ _ _ _ _ _ | rfl | (simp_all [-Bool.forall_bool]; done) | (simp_all [-Bool.forall_bool]; first | exact h | exact h _ | exact h _ _ | exact h _ _ _ | exact h _ _ _ _ | exact h _ _ _ _ _ | exact h _ _ _ _ _ _ | exact h _ _ _ _ _ _ _ | exact h _ _ _ _ _ _ _ _) | (simp_all [-Bool.forall_bool, emp_eq, int_beq]; done) | (simp_all [-Bool.forall_bool]; (intros; simp_all; done)) | (simp_all [-Bool.forall_bool, rdset3, rdset5, rdset88, rdset4, rdset53]; done) | grind
  · intro x6 x9 x13 x15 x149000 x177000 r h m hm h66
    cases k with
    | zero => simp only [PK.spec_SweepArena.l3] at h; cases h
    | succ k =>
      obtain ⟨m, rfl⟩ : ∃ m', m = m' + 1 := ⟨m - 1, by omega⟩
      rw [PK.spec_SweepArena.l3] at h
      rw [spec_SweepArena.c21]
      try simp only [w64_eq, wu8_eq, gt_iff_lt, ge_iff_le, int_beq, fdiv33, fdiv45, bt_eq, tmodN, rdOfB, rdOfL] at h
      try simp only [shlR]
      try simp only [w64_eq, wu8_eq, gt_iff_lt, ge_iff_le, int_beq, fdiv33, fdiv45, bt_eq, tmodN, rdOfB, rdOfL, rdT3_eq, rdT5_eq, seq, maxI, minI, emp_eq, rdn3, rdn5, rdn88, rdn4, rdn53]
      refine (itE h (fun q h => (itE h (fun q h => (itE h (fun q h => (itE h (fun q h => (bsE h (fun h => (itE h (fun q h => ((fun h => ?_) (il4 _ (by omega) _ _ _ _ _ _ _ _ _ _ h m (by omega)))) (fun q h => (noE h)))))) (fun q h => ((fun h => ?_) (il3 _ (by omega) _ _ _ _ _ _ _ h m (by omega)))))) (fun q h => (noE h)))) (fun q h => (noE h)))) (fun q h => ((fun h => ?_) (il5 _ (by omega) _ _ _ _ _ h m (by omega)))))
      all_goals clear il0 il1 il2 il3 il4 il5
      all_goals (try cases h)
      all_goals (try simp only [*, if_true, if_false, ↓reduceIte, Option.bind_some, List.length_cons, List.length_nil, List.length_append, Bool.not_true, Bool.not_false, Bool.true_eq_false, Bool.false_eq_true])
      all_goals (repeat first | rw [if_pos (by omega)] | rw [if_neg (by omega)])
      all_goals first | exact h | exact h _ | exact h _ _ | exact h _ _ _ | exact h _ _ _ _ | exact h _ _ _ _ _ | exact h _ _ _ _ _ _ | exact h _ _ _ _ _ _ _ | exact h _ _ _ _ _ _ _ _ | rfl | (simp_all [-Bool.forall_bool]; done) | (simp_all [-Bool.forall_bool]; first | exact h | exact h _ | exact h _ _ | exact h _ _ _ | exact h _ _ _ _ | exact h _ _ _ _ _ | exact h _ _ _ _ _ _ | exact h _ _ _ _ _ _ _ | exact h _ _ _ _ _ _ _ _) | (simp_all [-Bool.forall_bool, emp_eq, int_beq]; done) | (simp_all [-Bool.forall_bool]; (intros; simp_all; done)) | (simp_all [-Bool.forall_bool, rdset3, rdset5, rdset88, rdset4, rdset53]; done) | grind
  · intro x6 x9 x13 x15 x17 x149000 x177000 x187000 x187001 r h m hm h66
    cases k with
    | zero => simp only [PK.spec_SweepArena.l4] at h; cases h
    | succ k =>
      obtain ⟨m, rfl⟩ : ∃ m', m = m' + 1 := ⟨m - 1, by omega⟩
      rw [PK.spec_SweepArena.l4] at h
      rw [spec_SweepArena.c26]
      try simp only [w64_eq, wu8_eq, gt_iff_lt, ge_iff_le, int_beq, fdiv33, fdiv45, bt_eq, tmodN, rdOfB, rdOfL] at h
      try simp only [shlR]
      try simp only [w64_eq, wu8_eq, gt_iff_lt, ge_iff_le, int_beq, fdiv33, fdiv45, bt_eq, tmodN, rdOfB, rdOfL, rdT3_eq, rdT5_eq, seq, maxI, minI, emp_eq, rdn3, rdn5, rdn88, rdn4, rdn53]
      refine (itE h (fun q h => (by cases k with | zero => (simp only [PK.spec_SweepArena.j6] at h; cases h) | succ k => (rw [PK.spec_SweepArena.j6] at h; (try simp only [w64_eq, wu8_eq, gt_iff_lt, ge_iff_le, int_beq, fdiv33, fdiv45, bt_eq, tmodN, rdOfB, rdOfL] at h); refine (itE h (fun q h => (itE h (fun q h => (itE h (fun q h => (itE h (fun q h => (itE h (fun q h => (itE h (fun q h => ((fun h => ?_) (il4 _ (by omega) _ _ _ _ _ _ _ _ _ _ h m (by omega)))) (fun q h => (noE h)))) (fun q h => (noE h)))) (fun q h => ((fun h => ?_) (il4 _ (by omega) _ _ _ _ _ _ _ _ _ _ h m (by omega)))))) (fun q h => (noE h)))) (fun q h => (noE h)))) (fun q h => (itE h (fun q h => (itE h (fun q h => (itE h (fun q h => ((fun h => ?_) (il3 _ (by omega) _ _ _ _ _ _ _ h m (by omega)))) (fun q h => (noE h)))) (fun q h => (noE h)))) (fun q h => (noE h))))) <;> ((try cases h); (try simp only [*, if_true, if_false, ↓reduceIte, Option.bind_some, List.length_cons, List.length_nil, List.length_append, Bool.not_true, Bool.not_false, Bool.true_eq_false, Bool.false_eq_true]); all_goals (repeat first | rw [if_pos (by omega)] | rw [if_neg (by omega)]); all_goals (first | exact h | exact h _ | exact h _ _ | exact h _ _ _ | exact h _ _ _ _ | exact h _ _ _ _ _ | exact h _ _ _ _ _ _ | exact h _ _ _ _ _ _ _ | exact h _ _ _ _ _ _ _ _ | rfl | (simp_all [-Bool.forall_bool]; done) | (simp_all [-Bool.forall_bool]; first | exact h | exact h _ | exact h _ _ | exact h _ _ _ | exact h _ _ _ _ | exact h _ _ _ _ _ | exact h _ _ _ _ _ _ | exact h _ _ _ _ _ _ _ | exact h _ _ _ _ _ _ _ _) | (simp_all [-Bool.forall_bool, emp_eq, int_beq]; done) | (simp_all [-Bool.forall_bool]; (intros; simp_all; done)) | (simp_all [-Bool.forall_bool, rdset3, rdset5, rdset88, rdset4, rdset53]; done) | grind))))) (fun q h => (by cases k with | zero => (simp only [PK.spec_SweepArena.j6] at h; cases h) | succ k => (rw [PK.spec_SweepArena.j6] at h; (try simp only [w64_eq, wu8_eq, gt_iff_lt, ge_iff_le, int_beq, fdiv33, fdiv45, bt_eq, tmodN, rdOfB, rdOfL] at h); refine (itE h (fun q h => (itE h (fun q h => (itE h (fun q h => (itE h (fun q h => (itE h (fun q h => (itE h (fun q h => ((fun h => ?_) (il4 _ (by omega) _ _ _ _ _ _ _ _ _ _ h m (by omega)))) (fun q h => (noE h)))) (fun q h => (noE h)))) (fun q h => ((fun h => ?_) (il4 _ (by omega) _ _ _ _ _ _ _ _ _ _ h m (by omega)))))) (fun q h => (noE h)))) (fun q h => (noE h)))) (fun q h => (itE h (fun q h => (itE h (fun q h => (itE h (fun q h => ((fun h => ?_) (il3 _ (by omega) _ _ _ _ _ _ _ h m (by omega)))) (fun q h => (noE h)))) (fun q h => (noE h)))) (fun q h => (noE h))))) <;> ((try cases h); (try simp only [*, if_true, if_false, ↓reduceIte, Option.bind_some, List.length_cons, List.length_nil, List.length_append, Bool.not_true, Bool.not_false, Bool.true_eq_false, Bool.false_eq_true]); all_goals (repeat first | rw [if_pos (by omega)] | rw [if_neg (by omega)]); all_goals (first | exact h | exact h _ | exact h _ _ | exact h _ _ _ | exact h _ _ _ _ | exact h _ _ _ _ _ | exact h _ _ _ _ _ _ | exact h _ _ _ _ _ _ _ | exact h _ _ _ _ _ _ _ _ | rfl | (simp_all [-Bool.forall_bool]; done) | (simp_all [-Bool.forall_bool]; first | exact h | exact h _ | exact h _ _ | exact h _ _ _ | exact h _ _ _ _ | exact h _ _ _ _ _ | exact h _ _ _ _ _ _ | exact h _ _ _ _ _ _ _ | exact h _ _ _ _ _ _ _ _) | (simp_all [-Bool.forall_bool, emp_eq, int_beq]; done) | (simp_all [-Bool.forall_bool]; (intros; simp_all; done)) | (simp_all [-Bool.forall_bool, rdset3, rdset5, rdset88, rdset4, rdset53]; done) | grind))))))
      all_goals clear il0 il1 il2 il3 il4 il5
      all_goals (try cases h)
      all_goals (try simp only [*, if_true, if_false, ↓reduceIte, Option.bind_some, List.length_cons, List.length_nil, List.length_append, Bool.not_true, Bool.not_false, Bool.true_eq_false, Bool.false_eq_true])
      all_goals (repeat first | rw [if_pos (by omega)] | rw [if_neg (by omega)])
      all_goals first | exact h | exact h _ | exact h _ _ | exact h _ _ _ | exact h _ _ _ _ | exact h _ _ _ _ _ | exact h _ _ _ _ _ _ | exact h _ _ _ _ _ _ _ | exact h _ _ _ _ _ _ _ _ | rfl | (simp_all [-Bool.forall_bool]; done) | (simp_all [-Bool.forall_bool]; first | exact h | exact h _ | exact h _ _ | exact h _ _ _ | exact h _ _ _ _ | exact h _ _ _ _ _ | exact h _ _ _ _ _ _ | exact h _ _ _ _ _ _ _ | exact h _ _ _ _ _ _ _ _) | (simp_all [-Bool.forall_bool, emp_eq, int_beq]; done) | (simp_all [-Bool.forall_bool]; (intros; simp_all; done)) | (simp_all [-Bool.forall_bool, rdset3, rdset5, rdset88, rdset4, rdset53]; done) | grind
  · intro x6 x13 x18 x177000 r h m hm h65
    cases k with
    | zero => simp only [PK.spec_SweepArena.l5] at h; cases h
    | succ k =>
      obtain ⟨m, rfl⟩ : ∃ m', m = m' + 1 := ⟨m - 1, by omega⟩
      rw [PK.spec_SweepArena.l5] at h
      rw [spec_SweepArena.c33]
      try simp only [w64_eq, wu8_eq, gt_iff_lt, ge_iff_le, int_beq, fdiv33, fdiv45, bt_eq, tmodN, rdOfB, rdOfL] at h
      try simp only [shlR]
      try simp only [w64_eq, wu8_eq, gt_iff_lt, ge_iff_le, int_beq, fdiv33, fdiv45, bt_eq, tmodN, rdOfB, rdOfL, rdT3_eq, rdT5_eq, seq, maxI, minI, emp_eq, rdn3, rdn5, rdn88, rdn4, rdn53]
      refine (itE h (fun q h => (itE h (fun q h => (itE h (fun q h => (itE h (fun q h => (itE h (fun q h => ((fun h => ?_) (il5 _ (by omega) _ _ _ _ _ h m (by omega)))) (fun q h => (noE h)))) (fun q h => (noE h)))) (fun q h => ((fun h => ?_) (il5 _ (by omega) _ _ _ _ _ h m (by omega)))))) (fun q h => (noE h)))) (fun q h => ?_))
      all_goals clear il0 il1 il2 il3 il4 il5
      all_goals (try cases h)
      all_goals (try simp only [*, if_true, if_false, ↓reduceIte, Option.bind_some, List.length_cons, List.length_nil, List.length_append, Bool.not_true, Bool.not_false, Bool.true_eq_false, Bool.false_eq_true])
      all_goals (repeat first | rw [if_pos (by omega)] | rw [if_neg (by omega)])
      all_goals first | exact h | exact h _ | exact h _ _ | exact h _ _ _ | exact h _ _ _ _ | exact h _ _ _ _ _ | exact h _ _ _ _ _ _ | exact h _ _ _ _ _ _ _ | exact h _ _ _ _ _ _ _ _ | rfl | (simp_all [-Bool.forall_bool]; done) | (simp_all [-Bool.forall_bool]; first | exact h | exact h _ | exact h _ _ | exact h _ _ _ | exact h _ _ _ _ | exact h _ _ _ _ _ | exact h _ _ _ _ _ _ | exact h _ _ _ _ _ _ _ | exact h _ _ _ _ _ _ _ _) | (simp_all [-Bool.forall_bool, emp_eq, int_beq]; done) | (simp_all [-Bool.forall_bool]; (intros; simp_all; done)) | (simp_all [-Bool.forall_bool, rdset3, rdset5, rdset88, rdset4, rdset53]; done) | grind
theorem spec_SweepArena.rel (k : Nat) (l0_0 : List (S88)) (l1 : List Int) (r) (h : PK.spec_SweepArena.f k l0_0 l1 = some r) (m : Nat) (hm : k ≤ m) : spec_SweepArena.f m l0_0 l1 = some (r.1, r.2) := by
  have il0 := fun k' (_ : k' < k + 1) => (spec_SweepArena.rel_l k').1
  have il1 := fun k' (_ : k' < k + 1) => (spec_SweepArena.rel_l k').2.1
  have il2 := fun k' (_ : k' < k + 1) => (spec_SweepArena.rel_l k').2.2.1
  have il3 := fun k' (_ : k' < k + 1) => (spec_SweepArena.rel_l k').2.2.2.1
  have il4 := fun k' (_ : k' < k + 1) => (spec_SweepArena.rel_l k').2.2.2.2.1
  have il5 := fun k' (_ : k' < k + 1) => (spec_SweepArena.rel_l k').2.2.2.2.2
  rw [PK.spec_SweepArena.f] at h
  rw [spec_SweepArena.f]
  try simp only [w64_eq, wu8_eq, gt_iff_lt, ge_iff_le, int_beq, fdiv33, fdiv45, bt_eq, tmodN, rdOfB, rdOfL] at h
  try simp only [shlR]
  try simp only [w64_eq, wu8_eq, gt_iff_lt, ge_iff_le, int_beq, fdiv33, fdiv45, bt_eq, tmodN, rdOfB, rdOfL, rdT3_eq, rdT5_eq, seq, maxI, minI, emp_eq, rdn3, rdn5, rdn88, rdn4, rdn53]
  refine (bsE h (fun h => (itE h (fun q h => (bnE h (fun _ g h => (fun g => ((fun h => ?_) (il0 _ (by omega) _ _ _ _ _ _ h m (by omega)))) (spec_ArenaOk.rel _ _ _ g m (by omega))))) (fun q h => (noE h)))))
  all_goals clear il0 il1 il2 il3 il4 il5
  all_goals (try cases h)
  all_goals (try simp only [*, if_true, if_false, ↓reduceIte, Option.bind_some, List.length_cons, List.length_nil, List.length_append, Bool.not_true, Bool.not_false, Bool.true_eq_false, Bool.false_eq_true])
  all_goals (repeat first | rw [if_pos (by omega)] | rw [if_neg (by omega)])
  all_goals first | exact h | exact h _ | exact h _ _ | exact h _ _ _ | exact h _ _ _ _ | exact h _ _ _ _ _ | exact h _ _ _ _ _ _ | exact h _ _ _ _ _ _ _ | exact h _ _ _ _ _ _ _ _ | rfl | (simp_all [-Bool.forall_bool]; done) | (simp_all [-Bool.forall_bool]; first | exact h | exact h _ | exact h _ _ | exact h _ _ _ | exact h _ _ _ _ | exact h _ _ _ _ _ | exact h _ _ _ _ _ _ | exact h _ _ _ _ _ _ _ | exact h _ _ _ _ _ _ _ _) | (simp_all [-Bool.forall_bool, emp_eq, int_beq]; done) | (simp_all [-Bool.forall_bool]; (intros; simp_all; done)) | (simp_all [-Bool.forall_bool, rdset3, rdset5, rdset88, rdset4, rdset53]; done) | grind
end Go.Proofs.Yteideicglgpfiaa.M2



/- Plain facts on rounds, lists and whole numbers, for the pure statements. -/
namespace Go.Proofs.Yteideicglgpfiaa.Pu
set_option linter.unusedVariables false
set_option linter.unusedSimpArgs false
open Go.RowKit Go.Proofs.YteideicglgpfiaaW.PrintWords

theorem w64 {x : Int} (h1 : -9223372036854775808 ≤ x) (h2 : x ≤ 9223372036854775807) : wrap64 x = x := by
  unfold wrap64; omega
theorem wsucc {i n : Nat} (h : i < n) (hn : n ≤ 9223372036854775807) : wrap64 ((i : Int) + 1) = ((i + 1 : Nat) : Int) := by
  rw [w64 (by omega) (by omega)]; rfl
theorem wf_i64 {n : Int} (h : (Lit.int .i64 n).wf = true) : -9223372036854775808 ≤ n ∧ n ≤ 9223372036854775807 := by
  simp only [Lit.wf, Bool.and_eq_true, decide_eq_true_eq] at h
  have h1 : IntKind.min .i64 = -9223372036854775808 := by decide
  have h2 : IntKind.max .i64 = 9223372036854775807 := by decide
  omega

/-- Rounds: what is told, a step on. -/
theorem ev_some {α : Type} {g : Nat → Option α} {r : α} (h : ∀ k, g (k + 1) = some r) : Ev g r := Ev.step h (Ev.now r)
theorem ev_const {α : Type} {o : Option α} {r : α} (h : o = some r) : Ev (fun _ => o) r := ⟨0, fun _ _ => h⟩
theorem ev_bind {α β : Type} {g : Nat → Option α} {f : Nat → α → Option β} {a : α} {r : β} (h : Ev g a) (k : Ev (fun n => f n a) r) : Ev (fun n => (g n).bind (f n)) r := Ev.bind h k
theorem ev_uniq {α : Type} {g : Nat → Option α} {a b : α} (h : Ev g a) (k : Ev g b) : a = b := by
  obtain ⟨K, hK⟩ := h
  obtain ⟨M, hM⟩ := k
  have h1 := hK (max K M) (Nat.le_max_left _ _)
  rw [hM (max K M) (Nat.le_max_right _ _)] at h1
  injection h1 with h1
  exact h1.symm
theorem ev_ext {α : Type} {g f : Nat → Option α} {r : α} (h : ∀ k, g k = f k) (k : Ev f r) : Ev g r := Ev.congr h k

/-- A row that is made and filled, place by place. -/
theorem ev_fill {β : Type} {L : Nat → List β → Int → Option (List β)} {E : Nat → Int → Option β} {n : Nat} {e : Nat → β} (hn : n ≤ 9223372036854775807)
    (hs : ∀ k xs i, L (k + 1) xs i = if i < (n : Int) then (if 0 ≤ i then ((E k i).bind fun b => if i < (xs.length : Int) then L k (xs.set i.toNat b) (wrap64 (i + 1)) else none) else none) else some xs)
    (hE : ∀ i, i < n → Ev (fun k => E k (i : Int)) (e i)) :
    ∀ (d i : Nat) (xs : List β), xs.length = n → i + d = n → Ev (fun k => L k xs (i : Int)) (xs.take i ++ (List.range' i d).map e) := by
  intro d
  induction d with
  | zero =>
    intro i xs hl hi
    refine ev_some fun k => ?_
    rw [hs, if_neg (by omega)]
    simp [List.take_of_length_le (show xs.length ≤ i by omega)]
  | succ d ih =>
    intro i xs hl hi
    refine Ev.step (f := fun k => (E k (i : Int)).bind fun b => L k (xs.set i b) ((i + 1 : Nat) : Int)) (fun k => ?_) ?_
    · rw [hs, if_pos (by omega), if_pos (by omega), wsucc (n := n) (by omega) hn]
      congr 1
      funext b
      rw [if_pos (by omega)]
      rfl
    · refine ev_bind (hE i (by omega)) ?_
      have h := ih (i + 1) (xs.set i (e i)) (by rw [List.length_set]; exact hl) (by omega)
      have e1 : (xs.set i (e i)).take (i + 1) ++ (List.range' (i + 1) d).map e = xs.take i ++ (List.range' i (d + 1)).map e := by
        rw [List.range'_succ, List.map_cons, List.take_succ_eq_append_getElem (by rw [List.length_set]; omega), List.getElem_set_self, List.take_set_of_le (Nat.le_refl _)]
        simp
      rw [e1] at h
      exact h
theorem map_range {α β : Type} (l : List α) (z : α) (g : α → β) : (List.range' 0 l.length).map (fun i => g (l.getD i z)) = l.map g := by
  apply List.ext_getElem
  · simp
  · intro i h1 h2
    simp only [List.length_map] at h2
    simp [List.getD_eq_getElem?_getD, List.getElem?_eq_getElem h2]
theorem ev_fill_all {α β : Type} {L : Nat → List β → Int → Option (List β)} {E : Nat → Int → Option β} {l : List α} {z : α} {g : α → β} {xs : List β} (hn : l.length ≤ 9223372036854775807)
    (hs : ∀ k xs i, L (k + 1) xs i = if i < (l.length : Int) then (if 0 ≤ i then ((E k i).bind fun b => if i < (xs.length : Int) then L k (xs.set i.toNat b) (wrap64 (i + 1)) else none) else none) else some xs)
    (hE : ∀ i, i < l.length → Ev (fun k => E k (i : Int)) (g (l.getD i z))) (hx : xs.length = l.length) : Ev (fun k => L k xs 0) (l.map g) := by
  have h := ev_fill (e := fun i => g (l.getD i z)) hn hs hE l.length 0 xs hx (by omega)
  rw [map_range] at h
  simpa using h

/-- Every place meets a test, tried place by place. -/
theorem ev_all {L E : Nat → Int → Option Bool} {n m : Nat} (hn : n ≤ 9223372036854775807) (hnm : n ≤ m)
    (hs : ∀ k i, L (k + 1) i = if i < (n : Int) then (if 0 ≤ i then (if i < (m : Int) then ((E k i).bind fun b => if b = true then L k (wrap64 (i + 1)) else some false) else none) else none) else some true)
    (hE : ∀ i, i < n → Ev (fun k => E k (i : Int)) true) : ∀ (d i : Nat), i + d = n → Ev (fun k => L k (i : Int)) true := by
  intro d
  induction d with
  | zero => intro i hi; exact ev_some fun k => by rw [hs, if_neg (by omega)]
  | succ d ih =>
    intro i hi
    refine Ev.step (f := fun k => (E k (i : Int)).bind fun b => if b = true then L k ((i + 1 : Nat) : Int) else some false) (fun k => ?_) (ev_bind (hE i (by omega)) (by simpa using ih (i + 1) (by omega)))
    rw [hs, if_pos (by omega), if_pos (by omega), if_pos (by omega), wsucc (n := n) (by omega) hn]

/-- What is left of a number, place by place, as long as it is not below 0. -/
theorem ev_size {L E : Nat → Int → Int → Option Int} {n : Nat} {P : Nat → Prop} (hn : n ≤ 9223372036854775807)
    (hs : ∀ k a i, L (k + 1) a i = if i < (n : Int) then (if 0 ≤ i then ((E k i a).bind fun t => if t < 0 then some (-1) else L k t (wrap64 (i + 1))) else none) else some a)
    (hE : ∀ i a, i < n → 0 ≤ a → a ≤ 1048576 → ∃ t, Ev (fun k => E k (i : Int) a) t ∧ t ≤ a ∧ (0 ≤ t → P i)) :
    ∀ (d i : Nat) (a : Int), i + d = n → 0 ≤ a → a ≤ 1048576 → ∃ r, Ev (fun k => L k a (i : Int)) r ∧ r ≤ a ∧ (0 ≤ r → ∀ m, i ≤ m → m < n → P m) := by
  intro d
  induction d with
  | zero => intro i a hi h0 h1; exact ⟨a, ev_some fun k => by rw [hs, if_neg (by omega)], Int.le_refl _, fun _ m h2 h3 => by omega⟩
  | succ d ih =>
    intro i a hi h0 h1
    obtain ⟨t, ht, hta, hp⟩ := hE i a (by omega) h0 h1
    have hst : ∀ k, L (k + 1) a (i : Int) = (E k (i : Int) a).bind fun t => if t < 0 then some (-1) else L k t ((i + 1 : Nat) : Int) := fun k => by
      rw [hs, if_pos (by omega), if_pos (by omega), wsucc (n := n) (by omega) hn]
    by_cases hneg : t < 0
    · exact ⟨-1, Ev.step hst (ev_bind ht (by simp only [if_pos hneg]; exact Ev.now _)), by omega, fun h => by omega⟩
    · obtain ⟨r, hr, hra, hq⟩ := ih (i + 1) t (by omega) (by omega) (by omega)
      refine ⟨r, Ev.step hst (ev_bind ht (by simp only [if_neg hneg]; exact hr)), by omega, fun h0r m h2 h3 => ?_⟩
      by_cases e : m = i
      · subst e; exact hp (by omega)
      · exact hq h0r m (by omega) h3
end Go.Proofs.Yteideicglgpfiaa.Pu

/- More plain facts on rounds: tests in a row, folds, searches. -/
namespace Go.Proofs.Yteideicglgpfiaa.Pu
set_option linter.unusedVariables false
set_option linter.unusedSimpArgs false
open Go.RowKit Go.Proofs.YteideicglgpfiaaW.PrintWords

/-- Tests in a row, one a round; then what comes. -/
theorem ev_scan {L : Nat → Int → Option Bool} {g : Nat → Option Bool} {n : Nat} {T : Nat → Bool} {r : Bool}
    (hs : ∀ k i, i < n → L (k + 1) (i : Int) = if T i = true then L k ((i + 1 : Nat) : Int) else some false) (he : ∀ k, L (k + 1) (n : Int) = g k) (hr : Ev g r) :
    ∀ (d i : Nat), i + d = n → Ev (fun k => L k (i : Int)) ((List.range' i d).all T && r) := by
  intro d
  induction d with
  | zero =>
    intro i hi
    obtain rfl : i = n := by omega
    exact Ev.step he hr
  | succ d ih =>
    intro i hi
    rw [List.range'_succ, List.all_cons]
    by_cases h : T i = true
    · rw [h, Bool.true_and]
      exact Ev.step (fun k => by rw [hs k i (by omega), if_pos h]) (ih (i + 1) (by omega))
    · rw [Bool.eq_false_iff.mpr h, Bool.false_and, Bool.false_and]
      exact ev_some fun k => by rw [hs k i (by omega), if_neg h]
/-- Tests in a row, each of many rounds; then what comes. -/
theorem ev_outer {L : Nat → Int → Option Bool} {n : Nat} {T : Nat → Bool} {r0 : Bool}
    (hs : ∀ i r, i < n → Ev (fun k => L k ((i + 1 : Nat) : Int)) r → Ev (fun k => L k (i : Int)) (T i && r)) (he : Ev (fun k => L k (n : Int)) r0) :
    ∀ (d i : Nat), i + d = n → Ev (fun k => L k (i : Int)) ((List.range' i d).all T && r0) := by
  intro d
  induction d with
  | zero =>
    intro i hi
    obtain rfl : i = n := by omega
    exact he
  | succ d ih =>
    intro i hi
    rw [List.range'_succ, List.all_cons, Bool.and_assoc]
    exact hs i _ (by omega) (ih (i + 1) (by omega))
/-- A state that is carried along; then what comes. -/
theorem ev_fold {σ ρ : Type} {L : Nat → σ → Int → Option ρ} {n : Nat} {F : σ → Nat → σ} {fin : σ → ρ} (Inv : Nat → σ → Prop)
    (hs : ∀ s i, i < n → Inv i s → ∀ r, Ev (fun k => L k (F s i) ((i + 1 : Nat) : Int)) r → Ev (fun k => L k s (i : Int)) r) (hi : ∀ s i, i < n → Inv i s → Inv (i + 1) (F s i))
    (he : ∀ s, Inv n s → Ev (fun k => L k s (n : Int)) (fin s)) : ∀ (d i : Nat) (s : σ), i + d = n → Inv i s → Ev (fun k => L k s (i : Int)) (fin ((List.range' i d).foldl F s)) := by
  intro d
  induction d with
  | zero =>
    intro i s h hv
    obtain rfl : i = n := by omega
    exact he s hv
  | succ d ih =>
    intro i s h hv
    rw [List.range'_succ, List.foldl_cons]
    exact hs s i (by omega) hv _ (ih (i + 1) (F s i) (by omega) (hi s i (by omega) hv))
/-- The first place that meets a test, -1 without one. -/
def findI (T : Nat → Bool) : Nat → Nat → Int
  | _, 0 => -1
  | i, d + 1 => if T i = true then (i : Int) else findI T (i + 1) d
theorem ev_find {L : Nat → Int → Option Int} {n : Nat} {T : Nat → Bool}
    (hy : ∀ i, i < n → T i = true → Ev (fun k => L k (i : Int)) (i : Int)) (hn : ∀ i, i < n → T i = false → ∀ r, Ev (fun k => L k ((i + 1 : Nat) : Int)) r → Ev (fun k => L k (i : Int)) r)
    (he : Ev (fun k => L k (n : Int)) (-1)) : ∀ (d i : Nat), i + d = n → Ev (fun k => L k (i : Int)) (findI T i d) := by
  intro d
  induction d with
  | zero =>
    intro i hi
    obtain rfl : i = n := by omega
    exact he
  | succ d ih =>
    intro i hi
    unfold findI
    by_cases h : T i = true
    · rw [if_pos h]; exact hy i (by omega) h
    · rw [if_neg h]; exact hn i (by omega) (Bool.eq_false_iff.mpr h) _ (ih (i + 1) (by omega))
theorem findI_range {T : Nat → Bool} : ∀ (d i : Nat), findI T i d = -1 ∨ ∃ j, i ≤ j ∧ j < i + d ∧ findI T i d = (j : Int) ∧ T j = true
  | 0, i => .inl rfl
  | d + 1, i => by
    unfold findI
    by_cases h : T i = true
    · rw [if_pos h]; exact .inr ⟨i, Nat.le_refl _, by omega, rfl, h⟩
    · rw [if_neg h]
      rcases findI_range d (i + 1) with h1 | ⟨j, h1, h2, h3, h4⟩
      · exact .inl h1
      · exact .inr ⟨j, by omega, by omega, h3, h4⟩
theorem bytes_empty (a : ByteArray) : (a.toList == ([] : List UInt8)) = decide ((a.size : Int) ≤ 0) := by
  rw [ByteArray.toList_eq]
  have h : a.data.toList.length = a.size := by rw [Array.length_toList]; rfl
  cases e : a.data.toList with
  | nil =>
    have h1 : a.size = 0 := by rw [← h, e]; rfl
    rw [decide_eq_true (by omega)]; rfl
  | cons x l =>
    have h1 : a.size = l.length + 1 := by rw [← h, e]; rfl
    rw [decide_eq_false (by omega)]; rfl
theorem getD_mem' {α : Type} {l : List α} {i : Nat} {z : α} (hi : i < l.length) : l.getD i z ∈ l := by
  rw [List.getD_eq_getElem?_getD, List.getElem?_eq_getElem hi]; exact List.getElem_mem hi
end Go.Proofs.Yteideicglgpfiaa.Pu

/- The reference's draws: a byte, a number below a bound, some places. -/
namespace Go.Proofs.Yteideicglgpfiaa.Pu
set_option linter.unusedVariables false
set_option linter.unusedSimpArgs false
open Go.RowKit Go.Proofs.Yteideicglgpfiaa.PK Go.Proofs.YteideicglgpfiaaW.PrintWords

theorem and255 (x : Int) : 0 ≤ Go.bits .and .i64 x 255 ∧ Go.bits .and .i64 x 255 ≤ 255 := by
  have h : (BitVec.ofInt 64 x &&& BitVec.ofInt 64 255).toNat ≤ 255 := by
    rw [BitVec.toNat_and]; exact Nat.le_trans Nat.and_le_right (by decide)
  have e : Go.bits .and .i64 x 255 = Go.IntKind.i64.wrap ((BitVec.ofInt 64 x &&& BitVec.ofInt 64 255).toNat : Int) := rfl
  rw [e, Go.IntKind.wrap_i64]
  omega
/-- A draw's state: the place lies in the code. -/
theorem byte_eq (b : List Int) (i h : Int) (h0 : 0 ≤ i) (h1 : i ≤ b.length) (hb : b.length ≤ 9223372036854775807) : ∃ v i' h', spec_l01Byte.f b i h = some (v, i', h') ∧ (0 ≤ v ∧ v ≤ 255) ∧ 0 ≤ i' ∧ i' ≤ b.length := by
  unfold spec_l01Byte.f
  by_cases hi : i < (b.length : Int)
  · rw [if_pos hi, if_pos h0, w64 (x := i + 1) (by omega) (by omega)]
    exact ⟨_, _, _, rfl, and255 _, by omega, by omega⟩
  · rw [if_neg hi]
    exact ⟨_, _, _, rfl, and255 _, by omega, by omega⟩
theorem below_eq (b : List Int) (i h n : Int) (h0 : 0 ≤ i) (h1 : i ≤ b.length) (hb : b.length ≤ 9223372036854775807) (hn : 0 < n) : ∃ v i' h', spec_l01Below.f b i h n = some (v, i', h') ∧ (0 ≤ v ∧ v < n) ∧ 0 ≤ i' ∧ i' ≤ b.length := by
  unfold spec_l01Below.f
  rw [if_neg (by omega)]
  obtain ⟨v, i1, g1, e1, ⟨v0, v1⟩, a1, b1⟩ := byte_eq b i h h0 h1 hb
  rw [e1]
  by_cases hs : n ≤ 256
  · rw [if_pos hs, Option.bind_some, if_neg (by omega)]
    exact ⟨_, _, _, rfl, ⟨Int.tmod_nonneg _ v0, Int.tmod_lt_of_pos _ hn⟩, a1, b1⟩
  · rw [if_neg hs, Option.bind_some]
    obtain ⟨y, i2, g2, e2, ⟨y0, y1⟩, a2, b2⟩ := byte_eq b i1 g1 a1 b1 hb
    obtain ⟨z, i3, g3, e3, ⟨z0, z1⟩, a3, b3⟩ := byte_eq b i2 g2 a2 b2 hb
    obtain ⟨u, i4, g4, e4, ⟨u0, u1⟩, a4, b4⟩ := byte_eq b i3 g3 a3 b3 hb
    simp only [e2, e3, e4, Option.bind_some]
    rw [if_neg (by omega), w64 (x := v * 16777216) (by omega) (by omega), w64 (x := y * 65536) (by omega) (by omega), w64 (x := v * 16777216 + y * 65536) (by omega) (by omega), w64 (x := z * 256) (by omega) (by omega), w64 (x := v * 16777216 + y * 65536 + z * 256) (by omega) (by omega), w64 (x := v * 16777216 + y * 65536 + z * 256 + u) (by omega) (by omega)]
    exact ⟨_, _, _, rfl, ⟨Int.tmod_nonneg _ (by omega), Int.tmod_lt_of_pos _ hn⟩, a4, b4⟩
theorem new_ev (b : List Int) (hb : b.length ≤ 9223372036854775807) : ∃ h, Ev (fun k => spec_l01New.f k b) (b, 0, h) := by
  unfold spec_l01New.f
  have main : ∀ (d i : Nat) (h : Int), i + d = b.length → ∃ g, Ev (fun k => spec_l01New.l0 k b h (i : Int)) (b, 0, g) := by
    intro d
    induction d with
    | zero => intro i h hi; exact ⟨h, ev_some fun k => by simp only [spec_l01New.l0]; rw [if_neg (by omega)]⟩
    | succ d ih =>
      intro i h hi
      by_cases hf : (i : Int) < 4000
      · obtain ⟨g, hg⟩ := ih (i + 1) (Go.bits .and .i64 (wrap64 ((wrap64 ((wrap64 (h * 131)) + (wrap64 (rd b (i : Int))))) + 7)) 1073741823) (by omega)
        refine ⟨g, Ev.step (fun k => ?_) hg⟩
        simp only [spec_l01New.l0]
        rw [if_pos (by omega), if_pos hf, if_pos (by omega), wsucc (n := b.length) (by omega) hb]
      · exact ⟨h, ev_some fun k => by simp only [spec_l01New.l0]; rw [if_pos (by omega), if_neg hf]⟩
  exact main b.length 0 _ (by omega)
end Go.Proofs.Yteideicglgpfiaa.Pu

/- The reference's draws of a yes or no, and of a text. -/
namespace Go.Proofs.Yteideicglgpfiaa.Pu
set_option linter.unusedVariables false
set_option linter.unusedSimpArgs false
open Go.RowKit Go.Proofs.Yteideicglgpfiaa.PK Go.Proofs.YteideicglgpfiaaW.PrintWords

theorem once_draw (b : List Int) (i h n : Int) (h0 : 0 ≤ i) (h1 : i ≤ b.length) (hb : b.length ≤ 9223372036854775807) (hn : 0 < n) : ∃ v i' h', spec_l01Once.f b i h n = some (v, i', h') ∧ 0 ≤ i' ∧ i' ≤ b.length := by
  obtain ⟨v, j, g, e, _, a1, b1⟩ := below_eq b i h n h0 h1 hb hn
  unfold spec_l01Once.f
  rw [e, Option.bind_some]
  exact ⟨_, _, _, rfl, a1, b1⟩
theorem str_size (l : List Int) : (strOfNums l).size = l.length := by
  unfold strOfNums
  simp [ByteArray.size]
end Go.Proofs.Yteideicglgpfiaa.Pu

/- A function that answers, and what of its answer is told; drawn numbers and texts, of the own functions. -/
namespace Go.Proofs.Yteideicglgpfiaa.M2.Mp
set_option linter.unusedVariables false
set_option linter.unusedSimpArgs false
open Go.RowKit Go.Proofs.Yteideicglgpfiaa.PK Go.Proofs.YteideicglgpfiaaW.PrintWords Go.Proofs.Yteideicglgpfiaa.Pu

/-- It answers, and the answer is such. -/
def EvX {α : Type} (g : Nat → Option α) (P : α → Prop) : Prop := ∃ r, Ev g r ∧ P r
theorem ev_rel {α β : Type} {g : Nat → Option α} {f : Nat → Option β} {a : α} {c : α → β} (h : Ev g a) (hr : ∀ k r, g k = some r → ∀ m, k ≤ m → f m = some (c r)) : Ev f (c a) := by
  obtain ⟨K, hK⟩ := h
  exact ⟨K, fun m hm => hr K a (hK K (Nat.le_refl _)) m hm⟩
theorem ev_all_k {α : Type} {f : Nat → Option α} {a : α} (h : ∀ m, f m = some a) : Ev f a := ⟨0, fun m _ => h m⟩
theorem evx_of {α : Type} {g : Nat → Option α} {P : α → Prop} {a : α} (h : Ev g a) (hp : P a) : EvX g P := ⟨a, h, hp⟩
theorem evx_mono {α : Type} {g : Nat → Option α} {P Q : α → Prop} (h : EvX g P) (hq : ∀ a, P a → Q a) : EvX g Q := by
  obtain ⟨r, h1, h2⟩ := h; exact ⟨r, h1, hq r h2⟩
theorem evx_bind {α β : Type} {g : Nat → Option α} {f : Nat → α → Option β} {Q : α → Prop} {P : β → Prop} (h : EvX g Q) (k : ∀ a, Q a → EvX (fun n => f n a) P) : EvX (fun n => (g n).bind (f n)) P := by
  obtain ⟨a, h1, h2⟩ := h
  obtain ⟨r, h3, h4⟩ := k a h2
  exact ⟨r, Ev.bind h1 h3, h4⟩
theorem evx_ite {α : Type} {c : Prop} [Decidable c] {g f : Nat → Option α} {P : α → Prop} (h1 : c → EvX g P) (h2 : ¬ c → EvX f P) : EvX (fun n => if c then g n else f n) P := by
  by_cases h : c
  · simp only [if_pos h]; exact h1 h
  · simp only [if_neg h]; exact h2 h
theorem evx_pos {α : Type} {c : Prop} [Decidable c] {g f : Nat → Option α} {P : α → Prop} (h : c) (h1 : EvX g P) : EvX (fun n => if c then g n else f n) P := by
  simp only [if_pos h]; exact h1
theorem evx_neg {α : Type} {c : Prop} [Decidable c] {g f : Nat → Option α} {P : α → Prop} (h : ¬ c) (h1 : EvX f P) : EvX (fun n => if c then g n else f n) P := by
  simp only [if_neg h]; exact h1
theorem evx_some {α : Type} {P : α → Prop} {a : α} (h : P a) : EvX (fun _ => some a) P := ⟨a, Ev.now _, h⟩
theorem evx_step {α : Type} {g f : Nat → Option α} {P : α → Prop} (h : ∀ k, g (k + 1) = f k) (k : EvX f P) : EvX g P := by
  obtain ⟨r, h1, h2⟩ := k
  exact ⟨r, Ev.step h h1, h2⟩
theorem evx_out {g : Nat → Option Bool} (h : EvX g (fun r => r = true)) : ∃ k, g k = some true := by
  obtain ⟨r, ⟨K, hK⟩, rfl⟩ := h
  exact ⟨K, hK K (Nat.le_refl _)⟩

/-- The cursor over the bytes b stands at i. -/
def Cur (b : List Int) (i : Int) : Prop := 0 ≤ i ∧ i ≤ b.length
abbrev Cb (b : List Int) : Prop := b.length ≤ 9223372036854775807
theorem newX (b : List Int) (hb : Cb b) : EvX (fun k => spec_l01New.f k b) (fun t => t.1 = b ∧ Cur b t.2.1) := by
  obtain ⟨h, e⟩ := new_ev b hb
  exact ⟨_, ev_rel e (fun k r h m hm => spec_l01New.rel k b r h m hm), rfl, Int.le_refl _, by show (0 : Int) ≤ _; omega⟩
theorem byteX (b : List Int) (i h : Int) (hc : Cur b i) (hb : Cb b) : EvX (fun k => spec_l01Byte.f k b i h) (fun t => (0 ≤ t.1 ∧ t.1 ≤ 255) ∧ t.2.1 = b ∧ Cur b t.2.2.1) := by
  obtain ⟨v, i', h', e, h1, h2⟩ := byte_eq b i h hc.1 hc.2 hb
  exact ⟨_, ev_all_k (fun m => spec_l01Byte.rel 0 b i h _ e m (Nat.zero_le _)), h1, rfl, h2⟩
theorem belowX (n : Int) (b : List Int) (i h : Int) (hn : 0 < n) (hc : Cur b i) (hb : Cb b) : EvX (fun k => spec_l01Below.f k n b i h) (fun t => (0 ≤ t.1 ∧ t.1 < n) ∧ t.2.1 = b ∧ Cur b t.2.2.1) := by
  obtain ⟨v, i', h', e, h1, h2⟩ := below_eq b i h n hc.1 hc.2 hb hn
  exact ⟨_, ev_all_k (fun m => spec_l01Below.rel 0 b i h n _ e m (Nat.zero_le _)), h1, rfl, h2⟩
theorem onceX (n : Int) (b : List Int) (i h : Int) (hn : 0 < n) (hc : Cur b i) (hb : Cb b) : EvX (fun k => spec_l01Once.f k n b i h) (fun t => t.2.1 = b ∧ Cur b t.2.2.1) := by
  obtain ⟨v, i', h', e, h2⟩ := once_draw b i h n hc.1 hc.2 hb hn
  exact ⟨_, ev_all_k (fun m => spec_l01Once.rel 0 b i h n _ e m (Nat.zero_le _)), rfl, h2⟩
theorem pickIntX (l : List Int) (b : List Int) (i h : Int) (hl : 0 < l.length) (hc : Cur b i) (hb : Cb b) : EvX (fun k => spec_l01PickInt.f k l b i h) (fun t => t.1 ∈ l ∧ t.2.1 = b ∧ Cur b t.2.2.1) := by
  simp only [spec_l01PickInt.f]
  refine evx_bind (belowX (l.length : Int) b i h (by omega) hc hb) fun t ht => ?_
  refine evx_pos ht.1.1 (evx_pos ht.1.2 (evx_some ⟨?_, ht.2⟩))
  show l.getD t.1.toNat 0 ∈ l
  have : t.1.toNat < l.length := by omega
  rw [List.getD_eq_getElem?_getD, List.getElem?_eq_getElem this]; exact List.getElem_mem this
end Go.Proofs.Yteideicglgpfiaa.M2.Mp

/- The reference's draw of places. -/
namespace Go.Proofs.Yteideicglgpfiaa.Pu
set_option linter.unusedVariables false
set_option linter.unusedSimpArgs false
open Go.RowKit Go.Proofs.Yteideicglgpfiaa.PK Go.Proofs.YteideicglgpfiaaW.PrintWords

end Go.Proofs.Yteideicglgpfiaa.Pu

/- Small words: numbers that do not wrap, twelve drawn places, what is not too great, chunks that are let through. -/
namespace Go.Proofs.Yteideicglgpfiaa.M2.Mp
set_option linter.unusedVariables false
set_option linter.unusedSimpArgs false
open Go.RowKit Go.Proofs.Yteideicglgpfiaa.PK Go.Proofs.YteideicglgpfiaaW.PrintWords Go.Proofs.Yteideicglgpfiaa.Pu

theorem m64 {i : Nat} {n : Nat} (h : i < n) (hn : n ≤ 9223372036854775807) : M2.w64 ((i : Int) + 1) = ((i + 1 : Nat) : Int) := by
  rw [w64_eq]; exact wsucc h hn
theorem m64i {x : Int} (h1 : -9223372036854775808 ≤ x) (h2 : x ≤ 9223372036854775807) : M2.w64 x = x := by
  rw [w64_eq]; exact Pu.w64 h1 h2
theorem bigX (b : List Int) : EvX (fun k => laws_big.f k b) (fun r => r = decide ((b.length : Int) > 1048576)) := by
  simp only [laws_big.f]; exact evx_some rfl
theorem l01InX (a l h : Int) : EvX (fun k => spec_l01In.f k a l h) (fun r => r = decide (l ≤ a ∧ a ≤ h)) := by
  simp only [spec_l01In.f]
  refine evx_ite (fun h1 => evx_some ?_) (fun h1 => evx_some ?_)
  · exact decide_eq_decide.2 ⟨fun h2 => ⟨by omega, h2⟩, fun h2 => h2.2⟩
  · exact (decide_eq_false (by omega)).symm
theorem inX (a l h : Int) : EvX (fun k => impl_in.f k a l h) (fun r => r = decide (l ≤ a ∧ a ≤ h)) := by
  simp only [impl_in.f]
  refine evx_ite (fun h1 => evx_some ?_) (fun h1 => evx_some ?_)
  · exact decide_eq_decide.2 ⟨fun h2 => ⟨by omega, h2⟩, fun h2 => h2.2⟩
  · exact (decide_eq_false (by omega)).symm
end Go.Proofs.Yteideicglgpfiaa.M2.Mp

/- What the functions on arenas answer: sizes, copies, comparison, and when an arena is right. -/
namespace Go.Proofs.Yteideicglgpfiaa.Pu
set_option linter.unusedVariables false
set_option linter.unusedSimpArgs false
open Go.RowKit Go.Proofs.Yteideicglgpfiaa.PK Go.Proofs.YteideicglgpfiaaW.PrintWords

theorem rd_nat (l : List Int) (i : Nat) : rd l (i : Int) = l.getD i 0 := rfl
theorem rdIK_nat (l : List S88) (i : Nat) : rd_T88 l (i : Int) = l.getD i z88 := rfl

end Go.Proofs.Yteideicglgpfiaa.Pu

/- When an arena is right, as one test; the program's and the reference's ArenaOk answer it. -/
namespace Go.Proofs.Yteideicglgpfiaa.Pu
set_option linter.unusedVariables false
set_option linter.unusedSimpArgs false
open Go.RowKit Go.Proofs.Yteideicglgpfiaa.PK Go.Proofs.YteideicglgpfiaaW.PrintWords

theorem in_eq (a l h : Int) : impl_in.f a l h = some (decide (l ≤ a ∧ a ≤ h)) := by
  unfold impl_in.f
  by_cases h1 : a ≥ l
  · rw [if_pos h1]; congr 1; simp; omega
  · rw [if_neg h1]; congr 1; simp; omega
theorem l01In_eq (a l h : Int) : spec_l01In.f a l h = some (decide (l ≤ a ∧ a ≤ h)) := by
  unfold spec_l01In.f
  by_cases h1 : a ≥ l
  · rw [if_pos h1]; congr 1; simp; omega
  · rw [if_neg h1]; congr 1; simp; omega

/-- A kid of the knot at place i. -/
def kidB (l : List S88) (i : Nat) (leaf : Bool) (n : Int) : Bool :=
  if leaf = true then decide (0 ≤ n) else decide (n = -1) || (decide (0 ≤ n ∧ n ≤ (i : Int) - 1) && (l.getD n.toNat z88).f0)
def knotB (l : List S88) (i : Nat) (x : S88) : Bool := decide (x.f1.length = 4) && x.f1.all (kidB l i x.f0)
def arenaB (l : List S88) : Bool := (List.range' 0 l.length).all fun i => knotB l i (l.getD i z88)

theorem sArena_step (k : Nat) (kids : List Int) (i j : Nat) (a : List S88) (leaf : Bool) (hi : i < a.length) (hn : a.length ≤ 9223372036854775807) (hj : j < 4) (hk : kids.length = 4) :
    spec_ArenaOk.l1 (k + 1) i j a leaf kids = if kidB a i leaf (kids.getD j 0) = true then spec_ArenaOk.l1 k i ((j + 1 : Nat) : Int) a leaf kids else some false := by
  simp only [spec_ArenaOk.l1]
  rw [if_pos (by omega), if_pos (by omega), if_pos (by omega), wsucc (n := 4) hj (by omega), w64 (x := (i : Int) - 1) (by omega) (by omega), rd_nat]
  generalize kids.getD j 0 = n
  unfold kidB
  cases leaf with
  | true => by_cases h : n < 0 <;> simp [h] <;> omega
  | false =>
    simp only [Bool.false_eq_true, if_false, l01In_eq, Option.bind_some, decide_eq_true_eq]
    by_cases h1 : n = -1
    · simp [h1]
    · by_cases h2 : 0 ≤ n ∧ n ≤ (i : Int) - 1
      · rw [if_neg h1, if_pos h2, if_pos h2.1, if_pos (by omega)]
        simp [h1, h2, rd_T88]
      · simp [h1, h2]
theorem iArena_step (k : Nat) (kids : List Int) (i j : Nat) (a : List S88) (leaf : Bool) (hi : i < a.length) (hn : a.length ≤ 9223372036854775807) (hj : j < 4) (hk : kids.length = 4) :
    impl_ArenaOk.l1 (k + 1) i a a.length i kids kids.length j a leaf kids = if kidB a i leaf (kids.getD j 0) = true then impl_ArenaOk.l1 k i a a.length i kids kids.length ((j + 1 : Nat) : Int) a leaf kids else some false := by
  simp only [impl_ArenaOk.l1]
  rw [if_pos (by omega), if_pos (by omega), if_pos (by omega), wsucc (n := 4) hj (by omega), w64 (x := (i : Int) - 1) (by omega) (by omega), rd_nat]
  generalize kids.getD j 0 = n
  unfold kidB
  cases leaf with
  | true => by_cases h : n < 0 <;> simp [h] <;> omega
  | false =>
    simp only [Bool.false_eq_true, if_false, in_eq, Option.bind_some, decide_eq_true_eq]
    by_cases h1 : n = -1
    · simp [h1]
    · by_cases h2 : 0 ≤ n ∧ n ≤ (i : Int) - 1
      · rw [if_neg h1, if_pos h2, if_pos h2.1, if_pos (by omega)]
        simp [h1, h2, rd_T88]
      · simp [h1, h2]
/-- The kids of one knot, tried in order; then what comes. -/
theorem ev_kids {L : Nat → Int → Option Bool} {g : Nat → Option Bool} {kids : List Int} {T : Int → Bool} {r : Bool} (hk : kids.length = 4)
    (hs : ∀ k j, j < 4 → L (k + 1) ((j : Nat) : Int) = if T (kids.getD j 0) = true then L k ((j + 1 : Nat) : Int) else some false) (he : ∀ k, L (k + 1) 4 = g k) (hr : Ev g r) :
    ∀ (d j : Nat), j + d = 4 → Ev (fun k => L k (j : Int)) ((kids.drop j).all T && r) := by
  intro d
  induction d with
  | zero =>
    intro j hj
    obtain rfl : j = 4 := by omega
    refine Ev.step (f := g) (fun k => he k) ?_
    rw [List.drop_eq_nil_of_le (by omega)]
    exact hr
  | succ d ih =>
    intro j hj
    have hjl : j < kids.length := by omega
    rw [List.drop_eq_getElem_cons hjl, List.all_cons]
    have e : kids.getD j 0 = kids[j] := by rw [List.getD_eq_getElem?_getD, List.getElem?_eq_getElem hjl]; rfl
    by_cases h : T kids[j] = true
    · rw [h, Bool.true_and]
      exact Ev.step (f := fun k => L k ((j + 1 : Nat) : Int)) (fun k => by rw [hs k j (by omega), e, if_pos h]) (ih (j + 1) (by omega))
    · rw [Bool.eq_false_iff.mpr h, Bool.false_and, Bool.false_and]
      exact ev_some fun k => by rw [hs k j (by omega), e, if_neg h]
theorem sArena_ev (a : List S88) (hn : a.length ≤ 9223372036854775807) : Ev (fun k => spec_ArenaOk.f k a) (arenaB a) := by
  have main : ∀ (d i : Nat), i + d = a.length → Ev (fun k => spec_ArenaOk.l0 k (i : Int) a) ((List.range' i d).all fun i => knotB a i (a.getD i z88)) := by
    intro d
    induction d with
    | zero => intro i hi; exact ev_some fun k => by simp only [spec_ArenaOk.l0]; rw [if_neg (by omega)]; rfl
    | succ d ih =>
      intro i hi
      rw [List.range'_succ, List.all_cons]
      unfold knotB
      by_cases h4 : (a.getD i z88).f1.length = 4
      · rw [decide_eq_true h4, Bool.true_and]
        have h := ev_kids (L := fun k j => spec_ArenaOk.l1 k i j a (a.getD i z88).f0 (a.getD i z88).f1) (T := kidB a i (a.getD i z88).f0) h4 (fun k j hj => sArena_step k (a.getD i z88).f1 i j a _ (by omega) hn hj h4)
          (g := fun k => spec_ArenaOk.l0 k ((i + 1 : Nat) : Int) a) (fun k => by simp only [spec_ArenaOk.l1]; rw [if_neg (by omega), wsucc (n := a.length) (by omega) hn]) (ih (i + 1) (by omega)) 4 0 rfl
        refine Ev.step (fun k => ?_) h
        simp only [spec_ArenaOk.l0]
        rw [if_pos (by omega), if_pos (by omega), rdIK_nat, if_pos (by omega)]
        rfl
      · rw [decide_eq_false h4, Bool.false_and, Bool.false_and]
        refine ev_some fun k => ?_
        simp only [spec_ArenaOk.l0]
        rw [if_pos (by omega), if_pos (by omega), rdIK_nat, if_neg (by omega)]
  exact main a.length 0 (by omega)
theorem iArena_ev (a : List S88) (hn : a.length ≤ 9223372036854775807) : Ev (fun k => impl_ArenaOk.f k a) (arenaB a) := by
  have main : ∀ (d i : Nat), i + d = a.length → Ev (fun k => impl_ArenaOk.l0 k a a.length (i : Int) a) ((List.range' i d).all fun i => knotB a i (a.getD i z88)) := by
    intro d
    induction d with
    | zero => intro i hi; exact ev_some fun k => by simp only [impl_ArenaOk.l0]; rw [if_neg (by omega)]; rfl
    | succ d ih =>
      intro i hi
      rw [List.range'_succ, List.all_cons]
      unfold knotB
      by_cases h4 : (a.getD i z88).f1.length = 4
      · rw [decide_eq_true h4, Bool.true_and]
        have h := ev_kids (L := fun k j => impl_ArenaOk.l1 k i a a.length i (a.getD i z88).f1 (a.getD i z88).f1.length j a (a.getD i z88).f0 (a.getD i z88).f1) (T := kidB a i (a.getD i z88).f0) h4 (fun k j hj => iArena_step k (a.getD i z88).f1 i j a _ (by omega) hn hj h4)
          (g := fun k => impl_ArenaOk.l0 k a a.length ((i + 1 : Nat) : Int) a) (fun k => by simp only [impl_ArenaOk.l1]; rw [if_neg (by omega), wsucc (n := a.length) (by omega) hn]) (ih (i + 1) (by omega)) 4 0 rfl
        refine Ev.step (fun k => ?_) h
        simp only [impl_ArenaOk.l0]
        rw [if_pos (by omega), if_pos (by omega), if_pos (by omega), rdIK_nat, if_pos (by omega)]
        rfl
      · rw [decide_eq_false h4, Bool.false_and, Bool.false_and]
        refine ev_some fun k => ?_
        simp only [impl_ArenaOk.l0]
        rw [if_pos (by omega), if_pos (by omega), if_pos (by omega), rdIK_nat, if_neg (by omega)]
  exact main a.length 0 (by omega)
end Go.Proofs.Yteideicglgpfiaa.Pu

/- The number of a sector of a tree, as one function; the program's and the reference's GetAt answer it. -/
namespace Go.Proofs.Yteideicglgpfiaa.Pu
set_option linter.unusedVariables false
set_option linter.unusedSimpArgs false
open Go.RowKit Go.Proofs.Yteideicglgpfiaa.PK Go.Proofs.YteideicglgpfiaaW.PrintWords

def rootB (a : List S88) (r : Int) : Bool := decide (0 ≤ r ∧ r ≤ (a.length : Int) - 1) && !(a.getD r.toNat z88).f0
def numB (a : List S88) (r s : Int) : Int := if (a.getD r.toNat z88).f1.getD (s / 4).toNat 0 < 0 then 0 else (a.getD ((a.getD r.toNat z88).f1.getD (s / 4).toNat 0).toNat z88).f1.getD (s % 4).toNat 0
def getB (a : List S88) (r s : Int) : Int := if (0 ≤ s ∧ s ≤ 15) ∧ rootB a r = true ∧ arenaB a = true then numB a r s else 0

theorem knot_of {a : List S88} (h : arenaB a = true) {i : Nat} (hi : i < a.length) : (a.getD i z88).f1.length = 4 ∧ ∀ n ∈ (a.getD i z88).f1, kidB a i (a.getD i z88).f0 n = true := by
  unfold arenaB at h
  rw [List.all_eq_true] at h
  have h1 := h i (by simp; omega)
  unfold knotB at h1
  rw [Bool.and_eq_true, decide_eq_true_eq, List.all_eq_true] at h1
  exact h1
theorem getD_mem {α : Type} {l : List α} {i : Nat} {z : α} (hi : i < l.length) : l.getD i z ∈ l := by
  rw [List.getD_eq_getElem?_getD, List.getElem?_eq_getElem hi]; exact List.getElem_mem hi
/-- A kid of a knot that is no leaf: -1, or the place of a leaf. -/
theorem kid_of {a : List S88} (h : arenaB a = true) {r : Nat} (hr : r < a.length) (hf : (a.getD r z88).f0 = false) {j : Nat} (hj : j < 4) :
    (a.getD r z88).f1.getD j 0 = -1 ∨ (0 ≤ (a.getD r z88).f1.getD j 0 ∧ (a.getD r z88).f1.getD j 0 < r ∧ (a.getD ((a.getD r z88).f1.getD j 0).toNat z88).f0 = true) := by
  obtain ⟨h4, hk⟩ := knot_of h hr
  have h1 := hk _ (getD_mem (i := j) (z := 0) (by omega))
  unfold kidB at h1
  rw [hf] at h1
  simp only [Bool.false_eq_true, if_false, Bool.or_eq_true, decide_eq_true_eq, Bool.and_eq_true] at h1
  rcases h1 with h1 | ⟨h1, h2⟩
  · exact .inl h1
  · exact .inr ⟨h1.1, by omega, h2⟩
theorem iRoot_eq (a : List S88) (r : Int) (hn : a.length ≤ 9223372036854775807) : impl_isRoot.f a r = some (rootB a r) := by
  unfold impl_isRoot.f rootB
  rw [w64 (by omega) (by omega), in_eq]
  simp only [Option.bind_some]
  by_cases h : 0 ≤ r ∧ r ≤ (a.length : Int) - 1
  · rw [decide_eq_true h, if_pos rfl, if_pos h.1, if_pos (by omega), Bool.true_and]; rfl
  · rw [decide_eq_false h, if_neg (by decide), Bool.false_and]
theorem sRoot_eq (a : List S88) (r : Int) (hn : a.length ≤ 9223372036854775807) : spec_l11Root.f a r = some (decide (r = -1) || rootB a r) := by
  unfold spec_l11Root.f rootB
  by_cases h0 : r = -1
  · rw [if_pos h0, decide_eq_true h0, Bool.true_or]
  · rw [if_neg h0, decide_eq_false h0, Bool.false_or, w64 (by omega) (by omega), l01In_eq]
    simp only [Option.bind_some]
    by_cases h : 0 ≤ r ∧ r ≤ (a.length : Int) - 1
    · rw [decide_eq_true h, if_pos rfl, if_pos h.1, if_pos (by omega), Bool.true_and]; rfl
    · rw [decide_eq_false h, if_neg (by decide), Bool.false_and]
theorem div4 {s : Int} (h0 : 0 ≤ s) (h1 : s ≤ 15) : wrap64 (Int.tdiv s 4) = s / 4 ∧ Int.tmod s 4 = s % 4 ∧ 0 ≤ s / 4 ∧ s / 4 < 4 ∧ 0 ≤ s % 4 ∧ s % 4 < 4 := by
  rw [Int.tdiv_eq_ediv_of_nonneg h0, Int.tmod_eq_emod_of_nonneg h0, w64 (by omega) (by omega)]
  omega
theorem root_lt {a : List S88} {r : Int} (h : rootB a r = true) : 0 ≤ r ∧ r.toNat < a.length ∧ (a.getD r.toNat z88).f0 = false := by
  unfold rootB at h
  rw [Bool.and_eq_true, decide_eq_true_eq, Bool.not_eq_true'] at h
  exact ⟨h.1.1, by omega, h.2⟩
theorem iNumber_eq (a : List S88) (r s : Int) (ha : arenaB a = true) (hr : rootB a r = true) (h0 : 0 ≤ s) (h1 : s ≤ 15) : impl_numberAt.f a r s = some (numB a r s) := by
  obtain ⟨r0, rl, rf⟩ := root_lt hr
  obtain ⟨d1, d2, d3, d4, d5, d6⟩ := div4 h0 h1
  have h4 := (knot_of ha rl).1
  have hk := kid_of ha rl rf (j := (s / 4).toNat) (by omega)
  unfold impl_numberAt.f numB
  simp only [d1, d2]
  show (if 0 ≤ r then if r < (a.length : Int) then if 0 ≤ s / 4 then if s / 4 < (((a.getD r.toNat z88).f1.length : Nat) : Int) then if (a.getD r.toNat z88).f1.getD (s / 4).toNat 0 < 0 then some 0 else if 0 ≤ (a.getD r.toNat z88).f1.getD (s / 4).toNat 0 then if (a.getD r.toNat z88).f1.getD (s / 4).toNat 0 < (a.length : Int) then if 0 ≤ s % 4 then if s % 4 < (((a.getD ((a.getD r.toNat z88).f1.getD (s / 4).toNat 0).toNat z88).f1.length : Nat) : Int) then some ((a.getD ((a.getD r.toNat z88).f1.getD (s / 4).toNat 0).toNat z88).f1.getD (s % 4).toNat 0) else none else none else none else none else none else none else none else none) = _
  rw [if_pos r0, if_pos (by omega), if_pos d3, if_pos (by omega)]
  rcases hk with hk | ⟨k0, k1, _⟩
  · rw [if_pos (by omega), if_pos (by omega)]
  · have h5 := (knot_of ha (i := ((a.getD r.toNat z88).f1.getD (s / 4).toNat 0).toNat) (by omega)).1
    rw [if_neg (by omega), if_pos k0, if_pos (by omega), if_pos d5, if_pos (by omega), if_neg (by omega)]
theorem sGet_eq (a : List S88) (r s : Int) (ha : arenaB a = true) (hr : rootB a r = true) (h0 : 0 ≤ s) (h1 : s ≤ 15) : spec_l11Get.f a r s = some (numB a r s) := by
  obtain ⟨r0, rl, rf⟩ := root_lt hr
  have h := iNumber_eq a r s ha hr h0 h1
  unfold impl_numberAt.f at h
  unfold spec_l11Get.f
  rw [if_neg (by omega)]
  exact h
theorem iGetAt_ev (a : List S88) (r s : Int) (hn : a.length ≤ 9223372036854775807) : Ev (fun k => impl_GetAt.f k a r s) (getB a r s) := by
  unfold impl_GetAt.f getB
  simp only [in_eq, iRoot_eq a r hn, Option.bind_some, decide_eq_true_eq]
  by_cases h1 : 0 ≤ s ∧ s ≤ 15
  · by_cases h2 : rootB a r = true
    · simp only [if_pos h1, if_pos h2]
      refine ev_bind (iArena_ev a hn) ?_
      by_cases h3 : arenaB a = true
      · simp only [if_pos h3, if_pos (show (0 ≤ s ∧ s ≤ 15) ∧ rootB a r = true ∧ arenaB a = true from ⟨h1, h2, h3⟩)]
        rw [iNumber_eq a r s h3 h2 h1.1 h1.2]
        exact Ev.now _
      · simp only [if_neg h3, if_neg (show ¬ ((0 ≤ s ∧ s ≤ 15) ∧ rootB a r = true ∧ arenaB a = true) from fun h => h3 h.2.2)]
        exact Ev.now _
    · simp only [if_pos h1, if_neg h2, if_neg (show ¬ ((0 ≤ s ∧ s ≤ 15) ∧ rootB a r = true ∧ arenaB a = true) from fun h => h2 h.2.1)]
      exact Ev.now _
  · simp only [if_neg h1, if_neg (show ¬ ((0 ≤ s ∧ s ≤ 15) ∧ rootB a r = true ∧ arenaB a = true) from fun h => h1 h.1)]
    exact Ev.now _
theorem sGetAt_ev (a : List S88) (r s : Int) (hn : a.length ≤ 9223372036854775807) : Ev (fun k => spec_GetAt.f k a r s) (getB a r s) := by
  unfold spec_GetAt.f getB
  refine ev_bind (sArena_ev a hn) ?_
  by_cases h3 : arenaB a = true
  · simp only [if_pos h3, l01In_eq, sRoot_eq a r hn, Option.bind_some]
    by_cases h2 : rootB a r = true
    · simp only [h2, Bool.or_true, if_true]
      by_cases h1 : 0 ≤ s ∧ s ≤ 15
      · simp only [decide_eq_true h1, if_true, if_pos (show (0 ≤ s ∧ s ≤ 15) ∧ True ∧ arenaB a = true from ⟨h1, trivial, h3⟩)]
        rw [sGet_eq a r s h3 h2 h1.1 h1.2]
        exact Ev.now _
      · simp only [decide_eq_false h1, Bool.false_eq_true, if_false, if_neg (show ¬ ((0 ≤ s ∧ s ≤ 15) ∧ True ∧ arenaB a = true) from fun h => h1 h.1)]
        exact Ev.now _
    · have e : getB a r s = 0 := by unfold getB; exact if_neg fun h => h2 h.2.1
      unfold getB at e
      rw [e]
      by_cases h0 : r = -1
      · simp only [decide_eq_true h0, Bool.true_or, if_true]
        by_cases h1 : 0 ≤ s ∧ s ≤ 15
        · simp only [decide_eq_true h1, if_true]
          unfold spec_l11Get.f
          simp only [if_pos (show r < 0 by omega), Option.bind_some]
          exact Ev.now _
        · simp only [decide_eq_false h1, Bool.false_eq_true, if_false]
          exact Ev.now _
      · simp only [decide_eq_false h0, Bool.eq_false_iff.mpr h2, Bool.or_self, Bool.false_eq_true, if_false]
        exact Ev.now _
  · simp only [if_neg h3, if_neg (show ¬ ((0 ≤ s ∧ s ≤ 15) ∧ rootB a r = true ∧ arenaB a = true) from fun h => h3 h.2.2)]
    exact Ev.now _
end Go.Proofs.Yteideicglgpfiaa.Pu

/- The copies of an arena. -/
namespace Go.Proofs.Yteideicglgpfiaa.Pu
set_option linter.unusedVariables false
set_option linter.unusedSimpArgs false
open Go.RowKit Go.Proofs.Yteideicglgpfiaa.PK Go.Proofs.YteideicglgpfiaaW.PrintWords

theorem drop_cons {α : Type} {l : List α} {i : Nat} (z : α) (h : i < l.length) : l.drop i = l.getD i z :: l.drop (i + 1) := by
  rw [List.drop_eq_getElem_cons h, List.getD_eq_getElem?_getD, List.getElem?_eq_getElem h]; rfl
theorem sCopyArena_ev (a : List S88) (hn : a.length ≤ 1048576) (hx : ∀ x ∈ a, x.f1.length ≤ 1048576) : Ev (fun k => spec_l11Copy.f k a) a := by
  have main : ∀ (d i : Nat) (acc : List S88), i + d = a.length → acc.length = i → Ev (fun k => spec_l11Copy.l0 k (i : Int) a acc) (acc ++ a.drop i) := by
    intro d
    induction d with
    | zero => intro i acc hi hl; exact ev_some fun k => by simp only [spec_l11Copy.l0]; rw [if_neg (by omega), List.drop_eq_nil_of_le (by omega), List.append_nil]
    | succ d ih =>
      intro i acc hi hl
      have hil : i < a.length := by omega
      have hm := hx _ (getD_mem (z := z88) hil)
      have h := ih (i + 1) (acc ++ [a.getD i z88]) (by omega) (by simp; omega)
      rw [List.append_assoc, List.singleton_append, ← drop_cons z88 hil] at h
      refine Ev.step (fun k => ?_) h
      simp only [spec_l11Copy.l0]
      rw [if_pos (by omega), if_pos (by omega), rdIK_nat, Option.bind_some, if_pos (show ([] : List Int).length + (a.getD i z88).f1.length < 17592186044416 by rw [List.length_nil]; omega), if_pos (by omega), wsucc (n := a.length) hil (by omega), List.nil_append]
  have h := main a.length 0 [] (by omega) rfl
  rw [List.nil_append, List.drop_zero] at h
  exact h
theorem app_ok {α : Type} (l : List α) {c : Nat} : l ++ [] = l := List.append_nil l
end Go.Proofs.Yteideicglgpfiaa.Pu

/- What an arena keeps when it is swept from some roots; the program's and the reference's SweepArena tell it. -/
namespace Go.Proofs.Yteideicglgpfiaa.Pu
set_option linter.unusedVariables false
set_option linter.unusedSimpArgs false
open Go.RowKit Go.Proofs.Yteideicglgpfiaa.PK Go.Proofs.YteideicglgpfiaaW.PrintWords

theorem mem_cons_ne {x y : Int} {t : List Int} (h : ¬ y = x) : decide (x ∈ y :: t) = decide (x ∈ t) := by
  have : ¬ x = y := fun e => h e.symm
  simp [this]
theorem rdOf_nat {α : Type} (z : α) (l : List α) (i : Nat) : rdOf z l (i : Int) = l.getD i z := rfl
theorem getD_set {α : Type} {l : List α} {c : Nat} (i : Nat) (v z : α) (hc : c < l.length) : (l.set c v).getD i z = if i = c then v else l.getD i z := by
  rw [List.getD_eq_getElem?_getD, List.getD_eq_getElem?_getD, List.getElem?_set]
  by_cases h : c = i
  · subst h; simp [hc]
  · rw [if_neg h, if_neg (fun e => h e.symm)]
theorem getD_rep {α : Type} (n i : Nat) (z : α) : (List.replicate n z).getD i z = z := by
  rw [List.getD_eq_getElem?_getD, List.getElem?_replicate]
  by_cases h : i < n <;> simp [h]

/-- A list whose first j elements are changed. -/
def upd (f : Int → Int) : List Int → Nat → List Int
  | [], _ => []
  | x :: l, 0 => x :: l
  | x :: l, j + 1 => f x :: upd f l j
theorem upd_zero (f : Int → Int) (l : List Int) : upd f l 0 = l := by cases l <;> rfl
theorem upd_full (f : Int → Int) : ∀ l : List Int, upd f l l.length = l.map f
  | [] => rfl
  | x :: l => by show f x :: upd f l l.length = f x :: l.map f; rw [upd_full f l]
theorem upd_len (f : Int → Int) : ∀ (l : List Int) (j : Nat), (upd f l j).length = l.length
  | [], _ => rfl
  | x :: l, 0 => rfl
  | x :: l, j + 1 => by show (upd f l j).length + 1 = l.length + 1; rw [upd_len f l j]
theorem upd_get (f : Int → Int) : ∀ (l : List Int) (j : Nat), (upd f l j).getD j 0 = l.getD j 0
  | [], _ => rfl
  | x :: l, 0 => rfl
  | x :: l, j + 1 => by show (upd f l j).getD j 0 = l.getD j 0; exact upd_get f l j
theorem upd_set (f : Int → Int) : ∀ (l : List Int) (j : Nat), j < l.length → (upd f l j).set j (f (l.getD j 0)) = upd f l (j + 1)
  | [], j, h => absurd h (by simp)
  | x :: l, 0, _ => by show f x :: l = f x :: upd f l 0; rw [upd_zero]
  | x :: l, j + 1, h => by
    show f x :: (upd f l j).set j (f (l.getD j 0)) = f x :: upd f l (j + 1)
    rw [upd_set f l j (by simpa using h)]
theorem upd_id (f : Int → Int) : ∀ (l : List Int) (j : Nat), f (l.getD j 0) = l.getD j 0 → upd f l j = upd f l (j + 1)
  | [], _, _ => rfl
  | x :: l, 0, h => by
    have h2 : f x = x := h
    show x :: l = f x :: upd f l 0
    rw [upd_zero, h2]
  | x :: l, j + 1, h => by
    show f x :: upd f l j = f x :: upd f l (j + 1)
    rw [upd_id f l j h]

/-- A root keeps a knot: itself, or its kid. -/
def keptB (a : List S88) (r : Int) (i : Nat) : Bool := rootB a r && (decide ((i : Int) = r) || decide ((i : Int) ∈ (a.getD r.toNat z88).f1))
def movB (pos : List Int) (x : Int) : Int := if x ≥ 0 then pos.getD x.toNat 0 else x
def swKids (leaf : Bool) (pos kids : List Int) : List Int := if leaf = true then kids else kids.map (movB pos)
def swAll (a : List S88) (K : Nat → Bool) : Nat → Nat → List Int → List S88 → List Int × List S88
  | 0, _, pos, out => (pos, out)
  | d + 1, i, pos, out => if K i = true then swAll a K d (i + 1) (pos.set i (out.length : Int)) (out ++ [⟨(a.getD i z88).f0, swKids (a.getD i z88).f0 pos (a.getD i z88).f1⟩]) else swAll a K d (i + 1) pos out
def keepB (a : List S88) (roots : List Int) (i : Nat) : Bool := roots.any fun r => keptB a r i
def sweepOk (a : List S88) (roots : List Int) : Bool := arenaB a && roots.all fun r => decide (r = -1) || rootB a r
def sweepB (a : List S88) (roots : List Int) : List S88 × List Int :=
  if sweepOk a roots = true then ((swAll a (keepB a roots) a.length 0 (List.replicate a.length 0) []).2, roots.map (movB (swAll a (keepB a roots) a.length 0 (List.replicate a.length 0) []).1)) else (a, roots)
theorem swAll_pos (a : List S88) (K : Nat → Bool) : ∀ (d i : Nat) (pos : List Int) (out : List S88), (swAll a K d i pos out).1.length = pos.length
  | 0, _, _, _ => rfl
  | d + 1, i, pos, out => by
    unfold swAll
    by_cases h : K i = true
    · rw [if_pos h, swAll_pos a K d]; exact List.length_set
    · rw [if_neg h, swAll_pos a K d]
theorem swAll_out (a : List S88) (K : Nat → Bool) : ∀ (d i : Nat) (pos : List Int) (out : List S88), (swAll a K d i pos out).2.length = out.length + ((List.range' i d).filter K).length
  | 0, _, _, _ => rfl
  | d + 1, i, pos, out => by
    unfold swAll
    rw [List.range'_succ]
    by_cases h : K i = true
    · rw [if_pos h, swAll_out a K d, List.filter_cons, if_pos h]; simp; omega
    · rw [if_neg h, swAll_out a K d, List.filter_cons, if_neg h]

/-- The knots that a root keeps, as the reference marks them. -/
theorem sHas_ev (a : List S88) (r : Int) (hn : a.length ≤ 1048576) (ha : arenaB a = true) (hr : (decide (r = -1) || rootB a r) = true) :
    ∃ L, Ev (fun k => spec_l11Has.f k a r) L ∧ L.length = a.length ∧ ∀ i : Nat, i < a.length → L.getD i false = keptB a r i := by
  unfold spec_l11Has.f keptB
  simp only [if_pos (show (0 : Int) ≤ (a.length : Int) by omega), Int.toNat_natCast, if_pos (show a.length ≤ 281474976710656 by omega), Option.bind_some, List.length_replicate]
  by_cases h0 : r < 0
  · refine ⟨_, by simp only [if_pos h0]; exact Ev.now _, by simp, fun i hi => ?_⟩
    rw [getD_rep]
    unfold rootB
    rw [decide_eq_false (by omega)]; rfl
  · have hb : rootB a r = true := by
      rw [Bool.or_eq_true, decide_eq_true_eq] at hr
      rcases hr with h | h
      · omega
      · exact h
    obtain ⟨r0, rl, rf⟩ := root_lt hb
    simp only [if_neg h0, if_pos r0, if_pos (show r < (a.length : Int) by omega), hb, Bool.true_and]
    obtain ⟨h4, _⟩ := knot_of ha rl
    have main : ∀ (d j : Nat) (acc : List Bool), j + d = 4 → acc.length = a.length → ∃ L, Ev (fun k => spec_l11Has.l0 k r acc (j : Int) a) L ∧ L.length = a.length ∧ ∀ i : Nat, i < a.length → L.getD i false = (acc.getD i false || decide ((i : Int) ∈ (a.getD r.toNat z88).f1.drop j)) := by
      intro d
      induction d with
      | zero =>
        intro j acc hj hl
        refine ⟨acc, ev_some fun k => by simp only [spec_l11Has.l0]; rw [if_neg (by omega)], hl, fun i _ => ?_⟩
        rw [List.drop_eq_nil_of_le (by omega)]
        simp
      | succ d ih =>
        intro j acc hj hl
        have hjl : j < (a.getD r.toNat z88).f1.length := by omega
        have hk := kid_of ha rl rf (j := j) (by omega)
        rw [drop_cons 0 hjl]
        have st : ∀ k, spec_l11Has.l0 (k + 1) r acc (j : Int) a = if (a.getD r.toNat z88).f1.getD j 0 ≥ 0 then spec_l11Has.l0 k r (acc.set ((a.getD r.toNat z88).f1.getD j 0).toNat true) ((j + 1 : Nat) : Int) a else spec_l11Has.l0 k r acc ((j + 1 : Nat) : Int) a := fun k => by
          simp only [spec_l11Has.l0]
          rw [show rd_T88 a r = a.getD r.toNat z88 from rfl, if_pos (by omega), if_pos r0, if_pos (by omega), if_pos (by omega), if_pos (by omega), rd_nat, wsucc (i := j) (n := 4) (by omega) (by omega)]
          by_cases h : (a.getD r.toNat z88).f1.getD j 0 ≥ 0
          · rw [if_pos h, if_pos h, if_pos (by omega), if_pos (by omega)]
          · rw [if_neg h, if_neg h]
        rcases hk with hk | ⟨k0, k1, _⟩
        · obtain ⟨L, h3, h5, h6⟩ := ih (j + 1) acc (by omega) hl
          refine ⟨L, Ev.step (fun k => by rw [st k, if_neg (by omega)]) h3, h5, fun i hi => ?_⟩
          rw [h6 i hi, mem_cons_ne (by omega)]
        · obtain ⟨L, h3, h5, h6⟩ := ih (j + 1) (acc.set ((a.getD r.toNat z88).f1.getD j 0).toNat true) (by omega) (by rw [List.length_set]; exact hl)
          refine ⟨L, Ev.step (fun k => by rw [st k, if_pos (by omega)]) h3, h5, fun i hi => ?_⟩
          rw [h6 i hi, getD_set _ _ _ (by omega)]
          by_cases h : (a.getD r.toNat z88).f1.getD j 0 = (i : Int)
          · rw [if_pos (by omega), h, decide_eq_true (List.mem_cons_self)]; simp
          · rw [if_neg (by omega), mem_cons_ne h]
    obtain ⟨L, h1, h2, h3⟩ := main 4 0 ((List.replicate a.length false).set r.toNat true) rfl (by simp)
    refine ⟨L, h1, h2, fun i hi => ?_⟩
    rw [h3 i hi, getD_set _ _ _ (by simp; omega), getD_rep, List.drop_zero]
    by_cases h : (i : Int) = r
    · rw [if_pos (by omega), decide_eq_true h]
    · rw [if_neg (by omega), decide_eq_false h]
def swRes (roots : List Int) (z : List Int × List S88) : List S88 × List Int := (z.2, roots.map (movB z.1))
theorem okRoots {a : List S88} {roots : List Int} (h : (roots.all fun r => decide (r = -1) || rootB a r) = true) {m : Nat} (hm : m < roots.length) : (decide (roots.getD m 0 = -1) || rootB a (roots.getD m 0)) = true := by
  rw [List.all_eq_true] at h
  exact h _ (getD_mem hm)
theorem okRoots_lt {a : List S88} {roots : List Int} (h : (roots.all fun r => decide (r = -1) || rootB a r) = true) (m : Nat) (hm : m < roots.length) (hge : roots.getD m 0 ≥ 0) : roots.getD m 0 < (a.length : Int) := by
  have h1 := okRoots h hm
  rw [Bool.or_eq_true, decide_eq_true_eq] at h1
  rcases h1 with h1 | h1
  · omega
  · have := root_lt h1; omega
end Go.Proofs.Yteideicglgpfiaa.Pu
