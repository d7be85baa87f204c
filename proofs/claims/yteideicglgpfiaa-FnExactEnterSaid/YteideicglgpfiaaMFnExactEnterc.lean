/- FnExactEnter: functions of the translation as Lean functions with what their calls come to, plain lemmas on them, and, at the end, the row. Parts of one proof, merged by a program of this session; each part's own sentence stands at its head. -/
import Derived.Test.YteideicglgpfiaaMFnExactEnterb
/- Plain runs of functions: each is a plain Lean function, and keeps its contract. Written by a program of this session. -/
namespace Go.Proofs.Yteideicglgpfiaa.M2
open Go Go.Proofs.Yteideicglgpfiaa.PK
set_option linter.unusedVariables false
set_option linter.unusedSimpArgs false
set_option maxHeartbeats 4000000
/-! ### laws_szVolS: function 34 -/
noncomputable def laws_szVolS.sp : Nat → Option (Spec Ty) := fun r => none
noncomputable def laws_szVolS.en : Option (Spec Ty) := none
noncomputable def laws_szVolS.ctx (k : Nat) : Ctx Ty D := (fun _ _ _ _ => none)
noncomputable def laws_szVolS.f (k : Nat) (a0 : List S96) (a1 : Int) : Option (Int) := (if (w64 (a1 - (a0.length : Int))) < 0 then (some ((-1))) else (some ((w64 (a1 - (a0.length : Int))))))
noncomputable def laws_szVolS.e (r : Int) : Res Ty D := (.sc (.int .i64 r), [], [])
noncomputable abbrev laws_szVolS.g (rec : List Item → St Ty D → R) (k : Nat) := go1 Try.f34 (laws_szVolS.ctx k) laws_szVolS.sp 0 laws_szVolS.en rec
set_option maxRecDepth 100000 in
theorem laws_szVolS.te (rec : List Item → St Ty D → R) (k : Nat) (a0 : List S96) (a1 : Int) : laws_szVolS.g rec k [.code (body Try.f34)] (startSt [.row 0 .t96 a0, .sc (.int .i64 a1)] []) =
  bif decide ((w64 (a1 - (a0.length : Int))) < 0) then some (laws_szVolS.e ((-1))) else some (laws_szVolS.e ((w64 (a1 - (a0.length : Int))))) := by kernel_rfl
set_option maxRecDepth 100000 in
theorem laws_szVolS.oke (k : Nat) (a0 : List S96) (a1 : Int) : goF Try.f34 laws_szVolS.ctx laws_szVolS.sp 0 laws_szVolS.en (k + 1) [.code (body Try.f34)] (startSt [.row 0 .t96 a0, .sc (.int .i64 a1)] []) = (laws_szVolS.f k a0 a1).map laws_szVolS.e := by
  rw [laws_szVolS.f]; exact (laws_szVolS.te _ k a0 a1).trans (cd rfl rfl)
theorem laws_szVolS.con (k : Nat) (a0 : List S96) (a1 : Int) (r) (h : laws_szVolS.f k a0 a1 = some r) : Contract Try.prog kit 34 [.row 0 .t96 a0, .sc (.int .i64 a1)] [] (laws_szVolS.e r).1 (laws_szVolS.e r).2.1 (laws_szVolS.e r).2.2 :=
  con_okG kitOk mix (fun k => CtxOk.nil) (laws_szVolS.oke k a0 a1) h (by kernel_rfl) (by kernel_rfl) (by kernel_rfl) rfl (by kernel_rfl) rfl rfl
noncomputable def laws_szVolS.x (k : Nat) : X := fun ins bs κ => match ins, bs with
  | [.row 0 .t96 a0, .sc (.int .i64 a1)], [] => (laws_szVolS.f k a0 a1).bind fun r => κ (laws_szVolS.e r).1 (laws_szVolS.e r).2.1 (laws_szVolS.e r).2.2
  | _, _ => none
theorem laws_szVolS.xok (k : Nat) : XOk 34 (laws_szVolS.x k) := by
  intro ins bs κ res h
  unfold laws_szVolS.x at h
  split at h
  · obtain ⟨r, hr, h⟩ := Option.bind_eq_some_iff.1 h
    exact ⟨_, _, _, laws_szVolS.con k _ _ r hr, h⟩
  · cases h

/-! ### laws_szIntS: function 107 -/
noncomputable def laws_szIntS.sp : Nat → Option (Spec Ty) := fun r => none
noncomputable def laws_szIntS.en : Option (Spec Ty) := none
noncomputable def laws_szIntS.ctx (k : Nat) : Ctx Ty D := (fun _ _ _ _ => none)
noncomputable def laws_szIntS.f (k : Nat) (a0 : List Int) (a1 : Int) : Option (Int) := (if (w64 (a1 - (a0.length : Int))) < 0 then (some ((-1))) else (some ((w64 (a1 - (a0.length : Int))))))
noncomputable def laws_szIntS.e (r : Int) : Res Ty D := (.sc (.int .i64 r), [], [])
noncomputable abbrev laws_szIntS.g (rec : List Item → St Ty D → R) (k : Nat) := go1 Try.f107 (laws_szIntS.ctx k) laws_szIntS.sp 0 laws_szIntS.en rec
set_option maxRecDepth 100000 in
theorem laws_szIntS.te (rec : List Item → St Ty D → R) (k : Nat) (a0 : List Int) (a1 : Int) : laws_szIntS.g rec k [.code (body Try.f107)] (startSt [.row 0 .t3 a0, .sc (.int .i64 a1)] []) =
  bif decide ((w64 (a1 - (a0.length : Int))) < 0) then some (laws_szIntS.e ((-1))) else some (laws_szIntS.e ((w64 (a1 - (a0.length : Int))))) := by kernel_rfl
set_option maxRecDepth 100000 in
theorem laws_szIntS.oke (k : Nat) (a0 : List Int) (a1 : Int) : goF Try.f107 laws_szIntS.ctx laws_szIntS.sp 0 laws_szIntS.en (k + 1) [.code (body Try.f107)] (startSt [.row 0 .t3 a0, .sc (.int .i64 a1)] []) = (laws_szIntS.f k a0 a1).map laws_szIntS.e := by
  rw [laws_szIntS.f]; exact (laws_szIntS.te _ k a0 a1).trans (cd rfl rfl)
theorem laws_szIntS.con (k : Nat) (a0 : List Int) (a1 : Int) (r) (h : laws_szIntS.f k a0 a1 = some r) : Contract Try.prog kit 107 [.row 0 .t3 a0, .sc (.int .i64 a1)] [] (laws_szIntS.e r).1 (laws_szIntS.e r).2.1 (laws_szIntS.e r).2.2 :=
  con_okG kitOk mix (fun k => CtxOk.nil) (laws_szIntS.oke k a0 a1) h (by kernel_rfl) (by kernel_rfl) (by kernel_rfl) rfl (by kernel_rfl) rfl rfl
noncomputable def laws_szIntS.x (k : Nat) : X := fun ins bs κ => match ins, bs with
  | [.row 0 .t3 a0, .sc (.int .i64 a1)], [] => (laws_szIntS.f k a0 a1).bind fun r => κ (laws_szIntS.e r).1 (laws_szIntS.e r).2.1 (laws_szIntS.e r).2.2
  | _, _ => none
theorem laws_szIntS.xok (k : Nat) : XOk 107 (laws_szIntS.x k) := by
  intro ins bs κ res h
  unfold laws_szIntS.x at h
  split at h
  · obtain ⟨r, hr, h⟩ := Option.bind_eq_some_iff.1 h
    exact ⟨_, _, _, laws_szIntS.con k _ _ r hr, h⟩
  · cases h

/-! ### laws_szKnot: function 96 -/
noncomputable def laws_szKnot.sp : Nat → Option (Spec Ty) := fun r => none
noncomputable def laws_szKnot.en : Option (Spec Ty) := none
noncomputable def laws_szKnot.ctx (k : Nat) : Ctx Ty D := (cons 107 (laws_szIntS.x k) (fun _ _ _ _ => none))
noncomputable def laws_szKnot.f (k : Nat) (a0_0 : Bool) (a0_1 : List Int) (a1 : Int) : Option (Int) := ((laws_szIntS.f k a0_1 a1).bind fun t1 => (if t1 < 0 then (some ((-1))) else (some (t1))))
noncomputable def laws_szKnot.e (r : Int) : Res Ty D := (.sc (.int .i64 r), [], [])
noncomputable abbrev laws_szKnot.g (rec : List Item → St Ty D → R) (k : Nat) := go1 Try.f96 (laws_szKnot.ctx k) laws_szKnot.sp 0 laws_szKnot.en rec
set_option maxRecDepth 100000 in
theorem laws_szKnot.te (rec : List Item → St Ty D → R) (k : Nat) (a0_0 : Bool) (a0_1 : List Int) (a1 : Int) : laws_szKnot.g rec k [.code (body Try.f96)] (startSt [.ag [.sc (.bool a0_0), .row 0 .t3 a0_1], .sc (.int .i64 a1)] []) =
  (laws_szIntS.f k a0_1 a1).bind fun t1 => bif decide (t1 < 0) then some (laws_szKnot.e ((-1))) else some (laws_szKnot.e (t1)) := by kernel_rfl
set_option maxRecDepth 100000 in
theorem laws_szKnot.oke (k : Nat) (a0_0 : Bool) (a0_1 : List Int) (a1 : Int) : goF Try.f96 laws_szKnot.ctx laws_szKnot.sp 0 laws_szKnot.en (k + 1) [.code (body Try.f96)] (startSt [.ag [.sc (.bool a0_0), .row 0 .t3 a0_1], .sc (.int .i64 a1)] []) = (laws_szKnot.f k a0_0 a0_1 a1).map laws_szKnot.e := by
  rw [laws_szKnot.f]; exact (laws_szKnot.te _ k a0_0 a0_1 a1).trans (bn (fun t1 => (cd rfl rfl)))
theorem laws_szKnot.con (k : Nat) (a0_0 : Bool) (a0_1 : List Int) (a1 : Int) (r) (h : laws_szKnot.f k a0_0 a0_1 a1 = some r) : Contract Try.prog kit 96 [.ag [.sc (.bool a0_0), .row 0 .t3 a0_1], .sc (.int .i64 a1)] [] (laws_szKnot.e r).1 (laws_szKnot.e r).2.1 (laws_szKnot.e r).2.2 :=
  con_okG kitOk mix (fun k => (CtxOk.cons (laws_szIntS.xok k) CtxOk.nil)) (laws_szKnot.oke k a0_0 a0_1 a1) h (by kernel_rfl) (by kernel_rfl) (by kernel_rfl) rfl (by kernel_rfl) rfl rfl
noncomputable def laws_szKnot.x (k : Nat) : X := fun ins bs κ => match ins, bs with
  | [.ag [.sc (.bool a0_0), .row 0 .t3 a0_1], .sc (.int .i64 a1)], [] => (laws_szKnot.f k a0_0 a0_1 a1).bind fun r => κ (laws_szKnot.e r).1 (laws_szKnot.e r).2.1 (laws_szKnot.e r).2.2
  | _, _ => none
theorem laws_szKnot.xok (k : Nat) : XOk 96 (laws_szKnot.x k) := by
  intro ins bs κ res h
  unfold laws_szKnot.x at h
  split at h
  · obtain ⟨r, hr, h⟩ := Option.bind_eq_some_iff.1 h
    exact ⟨_, _, _, laws_szKnot.con k _ _ _ r hr, h⟩
  · cases h

/-! ### laws_szKnotS: function 74 -/
noncomputable def laws_szKnotS.sp : Nat → Option (Spec Ty) := fun r => bif Nat.beq r 5 then some ⟨[(0, .keep), (1, .keep), (5, .keep)], []⟩ else none
noncomputable def laws_szKnotS.en : Option (Spec Ty) := none
noncomputable def laws_szKnotS.s5 (x0 : List S108) (x1 : Int) (x5 : Int) : St Ty D := ⟨(Env.put (Env.put (Env.put E (some 0) (.row 0 .t108 x0)) (some 1) (.sc (.int .i64 x1))) (some 5) (.sc (.int .i64 x5))), H0, 1000⟩
noncomputable def laws_szKnotS.ctx (k : Nat) : Ctx Ty D := (cons 96 (laws_szKnot.x k) (fun _ _ _ _ => none))
noncomputable def laws_szKnotS.c5 : Nat → (List S108) → Int → Int → Option (Int)
  | 0, _, _, _ => none
  | k + 1, x0, x1, x5 => (if x5 < (x0.length : Int) then (if 0 ≤ x5 then (if x5 < (x0.length : Int) then ((laws_szKnot.f k ((rd_T108 x0 x5).f0) ((rd_T108 x0 x5).f1) x1).bind fun t1 => (if t1 < 0 then (some ((-1))) else (laws_szKnotS.c5 k x0 t1 (w64 (x5 + 1))))) else none) else none) else (some (x1)))
noncomputable def laws_szKnotS.f (k : Nat) (a0 : List S108) (a1 : Int) : Option (Int) := (if (w64 (a1 - (a0.length : Int))) < 0 then (some ((-1))) else (laws_szKnotS.c5 k a0 (w64 (a1 - (a0.length : Int))) 0))
noncomputable def laws_szKnotS.e (r : Int) : Res Ty D := (.sc (.int .i64 r), [], [])
noncomputable abbrev laws_szKnotS.g (rec : List Item → St Ty D → R) (k : Nat) := go1 Try.f74 (laws_szKnotS.ctx k) laws_szKnotS.sp 0 laws_szKnotS.en rec
set_option maxRecDepth 100000 in
theorem laws_szKnotS.t5 (rec : List Item → St Ty D → R) (k : Nat) (x0 : List S108) (x1 : Int) (x5 : Int) : laws_szKnotS.g rec k (td Try.f74 5) (laws_szKnotS.s5 x0 x1 x5) =
  bif decide (x5 < (x0.length : Int)) then bif decide (0 ≤ x5) then bif decide (x5 < (x0.length : Int)) then (laws_szKnot.f k ((rd_T108 x0 x5).f0) ((rd_T108 x0 x5).f1) x1).bind fun t1 => bif decide (t1 < 0) then some (laws_szKnotS.e ((-1))) else rec (td Try.f74 5) (laws_szKnotS.s5 x0 t1 (w64 (x5 + 1))) else none else none else some (laws_szKnotS.e (x1)) := by kernel_rfl
set_option maxRecDepth 100000 in
theorem laws_szKnotS.te (rec : List Item → St Ty D → R) (k : Nat) (a0 : List S108) (a1 : Int) : laws_szKnotS.g rec k [.code (body Try.f74)] (startSt [.row 0 .t108 a0, .sc (.int .i64 a1)] []) =
  bif decide ((w64 (a1 - (a0.length : Int))) < 0) then some (laws_szKnotS.e ((-1))) else rec (td Try.f74 5) (laws_szKnotS.s5 a0 (w64 (a1 - (a0.length : Int))) 0) := by kernel_rfl
set_option maxRecDepth 100000 in
theorem laws_szKnotS.ok : ∀ k : Nat, (∀ (x0 : List S108) (x1 : Int) (x5 : Int), goF Try.f74 laws_szKnotS.ctx laws_szKnotS.sp 0 laws_szKnotS.en k (td Try.f74 5) (laws_szKnotS.s5 x0 x1 x5) = (laws_szKnotS.c5 k x0 x1 x5).map laws_szKnotS.e)
  | 0 => fun _ _ _ => rfl
  | k + 1 => by
    have ih := laws_szKnotS.ok k
    have i5 := ih
    intro x0 x1 x5; rw [laws_szKnotS.c5]; exact (laws_szKnotS.t5 _ k x0 x1 x5).trans (cd (cd (cd (bn (fun t1 => (cd rfl (i5 _ _ _)))) rfl) rfl) rfl)
set_option maxRecDepth 100000 in
theorem laws_szKnotS.oke (k : Nat) (a0 : List S108) (a1 : Int) : goF Try.f74 laws_szKnotS.ctx laws_szKnotS.sp 0 laws_szKnotS.en (k + 1) [.code (body Try.f74)] (startSt [.row 0 .t108 a0, .sc (.int .i64 a1)] []) = (laws_szKnotS.f k a0 a1).map laws_szKnotS.e := by
  have i5 := laws_szKnotS.ok k
  rw [laws_szKnotS.f]; exact (laws_szKnotS.te _ k a0 a1).trans (cd rfl (i5 _ _ _))
theorem laws_szKnotS.con (k : Nat) (a0 : List S108) (a1 : Int) (r) (h : laws_szKnotS.f k a0 a1 = some r) : Contract Try.prog kit 74 [.row 0 .t108 a0, .sc (.int .i64 a1)] [] (laws_szKnotS.e r).1 (laws_szKnotS.e r).2.1 (laws_szKnotS.e r).2.2 :=
  con_okG kitOk mix (fun k => (CtxOk.cons (laws_szKnot.xok k) CtxOk.nil)) (laws_szKnotS.oke k a0 a1) h (by kernel_rfl) (by kernel_rfl) (by kernel_rfl) rfl (by kernel_rfl) rfl rfl
noncomputable def laws_szKnotS.x (k : Nat) : X := fun ins bs κ => match ins, bs with
  | [.row 0 .t108 a0, .sc (.int .i64 a1)], [] => (laws_szKnotS.f k a0 a1).bind fun r => κ (laws_szKnotS.e r).1 (laws_szKnotS.e r).2.1 (laws_szKnotS.e r).2.2
  | _, _ => none
theorem laws_szKnotS.xok (k : Nat) : XOk 74 (laws_szKnotS.x k) := by
  intro ins bs κ res h
  unfold laws_szKnotS.x at h
  split at h
  · obtain ⟨r, hr, h⟩ := Option.bind_eq_some_iff.1 h
    exact ⟨_, _, _, laws_szKnotS.con k _ _ r hr, h⟩
  · cases h

/-! ### laws_szArena: function 35 -/
noncomputable def laws_szArena.sp : Nat → Option (Spec Ty) := fun r => none
noncomputable def laws_szArena.en : Option (Spec Ty) := none
noncomputable def laws_szArena.ctx (k : Nat) : Ctx Ty D := (cons 74 (laws_szKnotS.x k) (fun _ _ _ _ => none))
noncomputable def laws_szArena.f (k : Nat) (a0_0 : List S108) (a1 : Int) : Option (Int) := ((laws_szKnotS.f k a0_0 a1).bind fun t1 => (if t1 < 0 then (some ((-1))) else (some (t1))))
noncomputable def laws_szArena.e (r : Int) : Res Ty D := (.sc (.int .i64 r), [], [])
noncomputable abbrev laws_szArena.g (rec : List Item → St Ty D → R) (k : Nat) := go1 Try.f35 (laws_szArena.ctx k) laws_szArena.sp 0 laws_szArena.en rec
set_option maxRecDepth 100000 in
theorem laws_szArena.te (rec : List Item → St Ty D → R) (k : Nat) (a0_0 : List S108) (a1 : Int) : laws_szArena.g rec k [.code (body Try.f35)] (startSt [.ag [.row 0 .t108 a0_0], .sc (.int .i64 a1)] []) =
  (laws_szKnotS.f k a0_0 a1).bind fun t1 => bif decide (t1 < 0) then some (laws_szArena.e ((-1))) else some (laws_szArena.e (t1)) := by kernel_rfl
set_option maxRecDepth 100000 in
theorem laws_szArena.oke (k : Nat) (a0_0 : List S108) (a1 : Int) : goF Try.f35 laws_szArena.ctx laws_szArena.sp 0 laws_szArena.en (k + 1) [.code (body Try.f35)] (startSt [.ag [.row 0 .t108 a0_0], .sc (.int .i64 a1)] []) = (laws_szArena.f k a0_0 a1).map laws_szArena.e := by
  rw [laws_szArena.f]; exact (laws_szArena.te _ k a0_0 a1).trans (bn (fun t1 => (cd rfl rfl)))
theorem laws_szArena.con (k : Nat) (a0_0 : List S108) (a1 : Int) (r) (h : laws_szArena.f k a0_0 a1 = some r) : Contract Try.prog kit 35 [.ag [.row 0 .t108 a0_0], .sc (.int .i64 a1)] [] (laws_szArena.e r).1 (laws_szArena.e r).2.1 (laws_szArena.e r).2.2 :=
  con_okG kitOk mix (fun k => (CtxOk.cons (laws_szKnotS.xok k) CtxOk.nil)) (laws_szArena.oke k a0_0 a1) h (by kernel_rfl) (by kernel_rfl) (by kernel_rfl) rfl (by kernel_rfl) rfl rfl
noncomputable def laws_szArena.x (k : Nat) : X := fun ins bs κ => match ins, bs with
  | [.ag [.row 0 .t108 a0_0], .sc (.int .i64 a1)], [] => (laws_szArena.f k a0_0 a1).bind fun r => κ (laws_szArena.e r).1 (laws_szArena.e r).2.1 (laws_szArena.e r).2.2
  | _, _ => none
theorem laws_szArena.xok (k : Nat) : XOk 35 (laws_szArena.x k) := by
  intro ins bs κ res h
  unfold laws_szArena.x at h
  split at h
  · obtain ⟨r, hr, h⟩ := Option.bind_eq_some_iff.1 h
    exact ⟨_, _, _, laws_szArena.con k _ _ r hr, h⟩
  · cases h

/-! ### laws_szStore: function 9 -/
noncomputable def laws_szStore.sp : Nat → Option (Spec Ty) := fun r => none
noncomputable def laws_szStore.en : Option (Spec Ty) := none
noncomputable def laws_szStore.ctx (k : Nat) : Ctx Ty D := (cons 34 (laws_szVolS.x k) (cons 35 (laws_szArena.x k) (fun _ _ _ _ => none)))
noncomputable def laws_szStore.f (k : Nat) (a0_0 : List S96) (a0_1 : List S108) (a0_2 : Int) (a1 : Int) : Option (Int) := ((laws_szVolS.f k a0_0 a1).bind fun t1 => (if t1 < 0 then (some ((-1))) else ((laws_szArena.f k a0_1 t1).bind fun t2 => (if t2 < 0 then (some ((-1))) else (some (t2))))))
noncomputable def laws_szStore.e (r : Int) : Res Ty D := (.sc (.int .i64 r), [], [])
noncomputable abbrev laws_szStore.g (rec : List Item → St Ty D → R) (k : Nat) := go1 Try.f9 (laws_szStore.ctx k) laws_szStore.sp 0 laws_szStore.en rec
set_option maxRecDepth 100000 in
theorem laws_szStore.te (rec : List Item → St Ty D → R) (k : Nat) (a0_0 : List S96) (a0_1 : List S108) (a0_2 : Int) (a1 : Int) : laws_szStore.g rec k [.code (body Try.f9)] (startSt [.ag [.row 0 .t96 a0_0, .row 0 .t108 a0_1, .sc (.int .i64 a0_2)], .sc (.int .i64 a1)] []) =
  (laws_szVolS.f k a0_0 a1).bind fun t1 => bif decide (t1 < 0) then some (laws_szStore.e ((-1))) else (laws_szArena.f k a0_1 t1).bind fun t2 => bif decide (t2 < 0) then some (laws_szStore.e ((-1))) else some (laws_szStore.e (t2)) := by kernel_rfl
set_option maxRecDepth 100000 in
theorem laws_szStore.oke (k : Nat) (a0_0 : List S96) (a0_1 : List S108) (a0_2 : Int) (a1 : Int) : goF Try.f9 laws_szStore.ctx laws_szStore.sp 0 laws_szStore.en (k + 1) [.code (body Try.f9)] (startSt [.ag [.row 0 .t96 a0_0, .row 0 .t108 a0_1, .sc (.int .i64 a0_2)], .sc (.int .i64 a1)] []) = (laws_szStore.f k a0_0 a0_1 a0_2 a1).map laws_szStore.e := by
  rw [laws_szStore.f]; exact (laws_szStore.te _ k a0_0 a0_1 a0_2 a1).trans (bn (fun t1 => (cd rfl (bn (fun t2 => (cd rfl rfl))))))
theorem laws_szStore.con (k : Nat) (a0_0 : List S96) (a0_1 : List S108) (a0_2 : Int) (a1 : Int) (r) (h : laws_szStore.f k a0_0 a0_1 a0_2 a1 = some r) : Contract Try.prog kit 9 [.ag [.row 0 .t96 a0_0, .row 0 .t108 a0_1, .sc (.int .i64 a0_2)], .sc (.int .i64 a1)] [] (laws_szStore.e r).1 (laws_szStore.e r).2.1 (laws_szStore.e r).2.2 :=
  con_okG kitOk mix (fun k => (CtxOk.cons (laws_szVolS.xok k) (CtxOk.cons (laws_szArena.xok k) CtxOk.nil))) (laws_szStore.oke k a0_0 a0_1 a0_2 a1) h (by kernel_rfl) (by kernel_rfl) (by kernel_rfl) rfl (by kernel_rfl) rfl rfl
noncomputable def laws_szStore.x (k : Nat) : X := fun ins bs κ => match ins, bs with
  | [.ag [.row 0 .t96 a0_0, .row 0 .t108 a0_1, .sc (.int .i64 a0_2)], .sc (.int .i64 a1)], [] => (laws_szStore.f k a0_0 a0_1 a0_2 a1).bind fun r => κ (laws_szStore.e r).1 (laws_szStore.e r).2.1 (laws_szStore.e r).2.2
  | _, _ => none
theorem laws_szStore.xok (k : Nat) : XOk 9 (laws_szStore.x k) := by
  intro ins bs κ res h
  unfold laws_szStore.x at h
  split at h
  · obtain ⟨r, hr, h⟩ := Option.bind_eq_some_iff.1 h
    exact ⟨_, _, _, laws_szStore.con k _ _ _ _ r hr, h⟩
  · cases h

/-! ### spec_l01In: function 76 -/
noncomputable def spec_l01In.sp : Nat → Option (Spec Ty) := fun r => none
noncomputable def spec_l01In.en : Option (Spec Ty) := none
noncomputable def spec_l01In.ctx (k : Nat) : Ctx Ty D := (fun _ _ _ _ => none)
noncomputable def spec_l01In.f (k : Nat) (a0 : Int) (a1 : Int) (a2 : Int) : Option (Bool) := (if a0 ≥ a1 then (some ((decide (a0 ≤ a2)))) else (some (false)))
noncomputable def spec_l01In.e (r : Bool) : Res Ty D := (.sc (.bool r), [], [])
noncomputable abbrev spec_l01In.g (rec : List Item → St Ty D → R) (k : Nat) := go1 Try.f76 (spec_l01In.ctx k) spec_l01In.sp 0 spec_l01In.en rec
set_option maxRecDepth 100000 in
theorem spec_l01In.te (rec : List Item → St Ty D → R) (k : Nat) (a0 : Int) (a1 : Int) (a2 : Int) : spec_l01In.g rec k [.code (body Try.f76)] (startSt [.sc (.int .i64 a0), .sc (.int .i64 a1), .sc (.int .i64 a2)] []) =
  bif decide (a0 ≥ a1) then some (spec_l01In.e ((decide (a0 ≤ a2)))) else some (spec_l01In.e (false)) := by kernel_rfl
set_option maxRecDepth 100000 in
theorem spec_l01In.oke (k : Nat) (a0 : Int) (a1 : Int) (a2 : Int) : goF Try.f76 spec_l01In.ctx spec_l01In.sp 0 spec_l01In.en (k + 1) [.code (body Try.f76)] (startSt [.sc (.int .i64 a0), .sc (.int .i64 a1), .sc (.int .i64 a2)] []) = (spec_l01In.f k a0 a1 a2).map spec_l01In.e := by
  rw [spec_l01In.f]; exact (spec_l01In.te _ k a0 a1 a2).trans (cd rfl rfl)
theorem spec_l01In.con (k : Nat) (a0 : Int) (a1 : Int) (a2 : Int) (r) (h : spec_l01In.f k a0 a1 a2 = some r) : Contract Try.prog kit 76 [.sc (.int .i64 a0), .sc (.int .i64 a1), .sc (.int .i64 a2)] [] (spec_l01In.e r).1 (spec_l01In.e r).2.1 (spec_l01In.e r).2.2 :=
  con_okG kitOk mix (fun k => CtxOk.nil) (spec_l01In.oke k a0 a1 a2) h (by kernel_rfl) (by kernel_rfl) (by kernel_rfl) rfl (by kernel_rfl) rfl rfl
noncomputable def spec_l01In.x (k : Nat) : X := fun ins bs κ => match ins, bs with
  | [.sc (.int .i64 a0), .sc (.int .i64 a1), .sc (.int .i64 a2)], [] => (spec_l01In.f k a0 a1 a2).bind fun r => κ (spec_l01In.e r).1 (spec_l01In.e r).2.1 (spec_l01In.e r).2.2
  | _, _ => none
theorem spec_l01In.xok (k : Nat) : XOk 76 (spec_l01In.x k) := by
  intro ins bs κ res h
  unfold spec_l01In.x at h
  split at h
  · obtain ⟨r, hr, h⟩ := Option.bind_eq_some_iff.1 h
    exact ⟨_, _, _, spec_l01In.con k _ _ _ r hr, h⟩
  · cases h

/-! ### spec_ArenaOk: function 75 -/
noncomputable def spec_ArenaOk.sp : Nat → Option (Spec Ty) := fun r => bif Nat.beq r 2 then some ⟨[(1, .box [.keep]), (3, .keep)], []⟩ else bif Nat.beq r 8 then some ⟨[(1, .box [.keep]), (3, .keep), (4, .box [.keep, .keep]), (5, .keep)], []⟩ else none
noncomputable def spec_ArenaOk.en : Option (Spec Ty) := none
noncomputable def spec_ArenaOk.s2 (x3 : Int) (h64_0 : List S88) : St Ty D := ⟨(Env.put (Env.put E (some 1) (.pt 64 0 0)) (some 3) (.sc (.int .i64 x3))), Heap.put H0 [(64, some (.box [.row 0 .t88 h64_0]))], 1000⟩
noncomputable def spec_ArenaOk.s8 (x3 : Int) (x5 : Int) (h64_0 : List S88) (h65_0 : Bool) (h65_1 : List Int) : St Ty D := ⟨(Env.put (Env.put (Env.put (Env.put E (some 1) (.pt 64 0 0)) (some 3) (.sc (.int .i64 x3))) (some 4) (.pt 65 0 0)) (some 5) (.sc (.int .i64 x5))), Heap.put H0 [(64, some (.box [.row 0 .t88 h64_0])), (65, some (.box [.sc (.bool h65_0), .row 0 .t3 h65_1]))], 1000⟩
noncomputable def spec_ArenaOk.ctx (k : Nat) : Ctx Ty D := (cons 76 (spec_l01In.x k) (fun _ _ _ _ => none))
mutual
noncomputable def spec_ArenaOk.c2 : Nat → Int → (List S88) → Option (Bool)
  | 0, _, _ => none
  | k + 1, x3, h64_0 => (if x3 < (h64_0.length : Int) then (if 0 ≤ x3 then (if x3 < (h64_0.length : Int) then (if (((rd_T88 h64_0 x3).f1).length : Int) = 4 then (spec_ArenaOk.c8 k x3 0 h64_0 ((rd_T88 h64_0 x3).f0) ((rd_T88 h64_0 x3).f1)) else (some (false))) else none) else none) else (some (true)))
noncomputable def spec_ArenaOk.c8 : Nat → Int → Int → (List S88) → Bool → (List Int) → Option (Bool)
  | 0, _, _, _, _, _ => none
  | k + 1, x3, x5, h64_0, h65_0, h65_1 => (if x5 < 4 then (if 0 ≤ x5 then (if x5 < (h65_1.length : Int) then (if h65_0 = true then (if (rd_T3 h65_1 x5) < 0 then (some (false)) else (if h65_0 = true then (spec_ArenaOk.c8 k x3 (w64 (x5 + 1)) h64_0 h65_0 h65_1) else (if (rd_T3 h65_1 x5) = (-1) then (spec_ArenaOk.c8 k x3 (w64 (x5 + 1)) h64_0 h65_0 h65_1) else ((spec_l01In.f k (rd_T3 h65_1 x5) 0 (w64 (x3 - 1))).bind fun t1 => (if t1 = true then (if 0 ≤ (rd_T3 h65_1 x5) then (if (rd_T3 h65_1 x5) < (h64_0.length : Int) then (if ((rd_T88 h64_0 (rd_T3 h65_1 x5)).f0) = true then (spec_ArenaOk.c8 k x3 (w64 (x5 + 1)) h64_0 h65_0 h65_1) else (some (false))) else none) else none) else (some (false))))))) else (if h65_0 = true then (spec_ArenaOk.c8 k x3 (w64 (x5 + 1)) h64_0 h65_0 h65_1) else (if (rd_T3 h65_1 x5) = (-1) then (spec_ArenaOk.c8 k x3 (w64 (x5 + 1)) h64_0 h65_0 h65_1) else ((spec_l01In.f k (rd_T3 h65_1 x5) 0 (w64 (x3 - 1))).bind fun t2 => (if t2 = true then (if 0 ≤ (rd_T3 h65_1 x5) then (if (rd_T3 h65_1 x5) < (h64_0.length : Int) then (if ((rd_T88 h64_0 (rd_T3 h65_1 x5)).f0) = true then (spec_ArenaOk.c8 k x3 (w64 (x5 + 1)) h64_0 h65_0 h65_1) else (some (false))) else none) else none) else (some (false))))))) else none) else none) else (spec_ArenaOk.c2 k (w64 (x3 + 1)) h64_0))
end
noncomputable def spec_ArenaOk.f (k : Nat) (a0_0 : List S88) : Option (Bool) := (spec_ArenaOk.c2 k 0 a0_0)
noncomputable def spec_ArenaOk.e (r : Bool) : Res Ty D := (.sc (.bool r), [], [])
noncomputable abbrev spec_ArenaOk.g (rec : List Item → St Ty D → R) (k : Nat) := go1 Try.f75 (spec_ArenaOk.ctx k) spec_ArenaOk.sp 0 spec_ArenaOk.en rec
set_option maxRecDepth 100000 in
theorem spec_ArenaOk.t2 (rec : List Item → St Ty D → R) (k : Nat) (x3 : Int) (h64_0 : List S88) : spec_ArenaOk.g rec k (td Try.f75 2) (spec_ArenaOk.s2 x3 h64_0) =
  bif decide (x3 < (h64_0.length : Int)) then bif decide (0 ≤ x3) then bif decide (x3 < (h64_0.length : Int)) then bif !decide ((((rd_T88 h64_0 x3).f1).length : Int) = 4) then some (spec_ArenaOk.e (false)) else rec (td Try.f75 8) (spec_ArenaOk.s8 x3 0 h64_0 ((rd_T88 h64_0 x3).f0) ((rd_T88 h64_0 x3).f1)) else none else none else some (spec_ArenaOk.e (true)) := by kernel_rfl
set_option maxRecDepth 100000 in
theorem spec_ArenaOk.t8 (rec : List Item → St Ty D → R) (k : Nat) (x3 : Int) (x5 : Int) (h64_0 : List S88) (h65_0 : Bool) (h65_1 : List Int) : spec_ArenaOk.g rec k (td Try.f75 8) (spec_ArenaOk.s8 x3 x5 h64_0 h65_0 h65_1) =
  bif decide (x5 < 4) then bif decide (0 ≤ x5) then bif decide (x5 < (h65_1.length : Int)) then bif h65_0 then bif decide ((rd_T3 h65_1 x5) < 0) then some (spec_ArenaOk.e (false)) else bif !h65_0 then bif !decide ((rd_T3 h65_1 x5) = (-1)) then (spec_l01In.f k (rd_T3 h65_1 x5) 0 (w64 (x3 - 1))).bind fun t1 => bif !t1 then some (spec_ArenaOk.e (false)) else bif decide (0 ≤ (rd_T3 h65_1 x5)) then bif decide ((rd_T3 h65_1 x5) < (h64_0.length : Int)) then bif !((rd_T88 h64_0 (rd_T3 h65_1 x5)).f0) then some (spec_ArenaOk.e (false)) else rec (td Try.f75 8) (spec_ArenaOk.s8 x3 (w64 (x5 + 1)) h64_0 h65_0 h65_1) else none else none else rec (td Try.f75 8) (spec_ArenaOk.s8 x3 (w64 (x5 + 1)) h64_0 h65_0 h65_1) else rec (td Try.f75 8) (spec_ArenaOk.s8 x3 (w64 (x5 + 1)) h64_0 h65_0 h65_1) else bif !h65_0 then bif !decide ((rd_T3 h65_1 x5) = (-1)) then (spec_l01In.f k (rd_T3 h65_1 x5) 0 (w64 (x3 - 1))).bind fun t2 => bif !t2 then some (spec_ArenaOk.e (false)) else bif decide (0 ≤ (rd_T3 h65_1 x5)) then bif decide ((rd_T3 h65_1 x5) < (h64_0.length : Int)) then bif !((rd_T88 h64_0 (rd_T3 h65_1 x5)).f0) then some (spec_ArenaOk.e (false)) else rec (td Try.f75 8) (spec_ArenaOk.s8 x3 (w64 (x5 + 1)) h64_0 h65_0 h65_1) else none else none else rec (td Try.f75 8) (spec_ArenaOk.s8 x3 (w64 (x5 + 1)) h64_0 h65_0 h65_1) else rec (td Try.f75 8) (spec_ArenaOk.s8 x3 (w64 (x5 + 1)) h64_0 h65_0 h65_1) else none else none else rec (td Try.f75 2) (spec_ArenaOk.s2 (w64 (x3 + 1)) h64_0) := by kernel_rfl
set_option maxRecDepth 100000 in
theorem spec_ArenaOk.te (rec : List Item → St Ty D → R) (k : Nat) (a0_0 : List S88) : spec_ArenaOk.g rec k [.code (body Try.f75)] (startSt [.ag [.row 0 .t88 a0_0]] []) =
  rec (td Try.f75 2) (spec_ArenaOk.s2 0 a0_0) := by kernel_rfl
set_option maxRecDepth 100000 in
theorem spec_ArenaOk.ok : ∀ k : Nat, (∀ (x3 : Int) (h64_0 : List S88), goF Try.f75 spec_ArenaOk.ctx spec_ArenaOk.sp 0 spec_ArenaOk.en k (td Try.f75 2) (spec_ArenaOk.s2 x3 h64_0) = (spec_ArenaOk.c2 k x3 h64_0).map spec_ArenaOk.e) ∧ (∀ (x3 : Int) (x5 : Int) (h64_0 : List S88) (h65_0 : Bool) (h65_1 : List Int), goF Try.f75 spec_ArenaOk.ctx spec_ArenaOk.sp 0 spec_ArenaOk.en k (td Try.f75 8) (spec_ArenaOk.s8 x3 x5 h64_0 h65_0 h65_1) = (spec_ArenaOk.c8 k x3 x5 h64_0 h65_0 h65_1).map spec_ArenaOk.e)
  | 0 => ⟨fun _ _ => rfl, fun _ _ _ _ _ => rfl⟩
  | k + 1 => by
    have ih := spec_ArenaOk.ok k
    obtain ⟨i2, i8⟩ := ih
    refine ⟨?_, ?_⟩
    · intro x3 h64_0; rw [spec_ArenaOk.c2]; exact (spec_ArenaOk.t2 _ k x3 h64_0).trans (cd (cd (cd (nd rfl (i8 _ _ _ _ _)) rfl) rfl) rfl)
    · intro x3 x5 h64_0 h65_0 h65_1; rw [spec_ArenaOk.c8]; exact (spec_ArenaOk.t8 _ k x3 x5 h64_0 h65_0 h65_1).trans (cd (cd (cd (cb (cd rfl (nb (nd (bn (fun t1 => (nb rfl (cd (cd (nb rfl (i8 _ _ _ _ _)) rfl) rfl)))) (i8 _ _ _ _ _)) (i8 _ _ _ _ _))) (nb (nd (bn (fun t2 => (nb rfl (cd (cd (nb rfl (i8 _ _ _ _ _)) rfl) rfl)))) (i8 _ _ _ _ _)) (i8 _ _ _ _ _))) rfl) rfl) (i2 _ _))
set_option maxRecDepth 100000 in
theorem spec_ArenaOk.oke (k : Nat) (a0_0 : List S88) : goF Try.f75 spec_ArenaOk.ctx spec_ArenaOk.sp 0 spec_ArenaOk.en (k + 1) [.code (body Try.f75)] (startSt [.ag [.row 0 .t88 a0_0]] []) = (spec_ArenaOk.f k a0_0).map spec_ArenaOk.e := by
  obtain ⟨i2, i8⟩ := spec_ArenaOk.ok k
  rw [spec_ArenaOk.f]; exact (spec_ArenaOk.te _ k a0_0).trans (i2 _ _)
theorem spec_ArenaOk.con (k : Nat) (a0_0 : List S88) (r) (h : spec_ArenaOk.f k a0_0 = some r) : Contract Try.prog kit 75 [.ag [.row 0 .t88 a0_0]] [] (spec_ArenaOk.e r).1 (spec_ArenaOk.e r).2.1 (spec_ArenaOk.e r).2.2 :=
  con_okG kitOk mix (fun k => (CtxOk.cons (spec_l01In.xok k) CtxOk.nil)) (spec_ArenaOk.oke k a0_0) h (by kernel_rfl) (by kernel_rfl) (by kernel_rfl) rfl (by kernel_rfl) rfl rfl
noncomputable def spec_ArenaOk.x (k : Nat) : X := fun ins bs κ => match ins, bs with
  | [.ag [.row 0 .t88 a0_0]], [] => (spec_ArenaOk.f k a0_0).bind fun r => κ (spec_ArenaOk.e r).1 (spec_ArenaOk.e r).2.1 (spec_ArenaOk.e r).2.2
  | _, _ => none
theorem spec_ArenaOk.xok (k : Nat) : XOk 75 (spec_ArenaOk.x k) := by
  intro ins bs κ res h
  unfold spec_ArenaOk.x at h
  split at h
  · obtain ⟨r, hr, h⟩ := Option.bind_eq_some_iff.1 h
    exact ⟨_, _, _, spec_ArenaOk.con k _ r hr, h⟩
  · cases h

/-! ### spec_l11Root: function 77 -/
noncomputable def spec_l11Root.sp : Nat → Option (Spec Ty) := fun r => none
noncomputable def spec_l11Root.en : Option (Spec Ty) := none
noncomputable def spec_l11Root.ctx (k : Nat) : Ctx Ty D := (cons 76 (spec_l01In.x k) (fun _ _ _ _ => none))
noncomputable def spec_l11Root.f (k : Nat) (a0_0 : List S88) (a1 : Int) : Option (Bool) := (if a1 = (-1) then (some (true)) else ((spec_l01In.f k a1 0 (w64 ((a0_0.length : Int) - 1))).bind fun t1 => (if t1 = true then (if 0 ≤ a1 then (if a1 < (a0_0.length : Int) then (some ((!((rd_T88 a0_0 a1).f0)))) else none) else none) else (some (false)))))
noncomputable def spec_l11Root.e (r : Bool) : Res Ty D := (.sc (.bool r), [], [])
noncomputable abbrev spec_l11Root.g (rec : List Item → St Ty D → R) (k : Nat) := go1 Try.f77 (spec_l11Root.ctx k) spec_l11Root.sp 0 spec_l11Root.en rec
set_option maxRecDepth 100000 in
theorem spec_l11Root.te (rec : List Item → St Ty D → R) (k : Nat) (a0_0 : List S88) (a1 : Int) : spec_l11Root.g rec k [.code (body Try.f77)] (startSt [.ag [.row 0 .t88 a0_0], .sc (.int .i64 a1)] []) =
  bif decide (a1 = (-1)) then some (spec_l11Root.e (true)) else (spec_l01In.f k a1 0 (w64 ((a0_0.length : Int) - 1))).bind fun t1 => bif t1 then bif decide (0 ≤ a1) then bif decide (a1 < (a0_0.length : Int)) then some (spec_l11Root.e ((!((rd_T88 a0_0 a1).f0)))) else none else none else some (spec_l11Root.e (false)) := by kernel_rfl
set_option maxRecDepth 100000 in
theorem spec_l11Root.oke (k : Nat) (a0_0 : List S88) (a1 : Int) : goF Try.f77 spec_l11Root.ctx spec_l11Root.sp 0 spec_l11Root.en (k + 1) [.code (body Try.f77)] (startSt [.ag [.row 0 .t88 a0_0], .sc (.int .i64 a1)] []) = (spec_l11Root.f k a0_0 a1).map spec_l11Root.e := by
  rw [spec_l11Root.f]; exact (spec_l11Root.te _ k a0_0 a1).trans (cd rfl (bn (fun t1 => (cb (cd (cd rfl rfl) rfl) rfl))))
theorem spec_l11Root.con (k : Nat) (a0_0 : List S88) (a1 : Int) (r) (h : spec_l11Root.f k a0_0 a1 = some r) : Contract Try.prog kit 77 [.ag [.row 0 .t88 a0_0], .sc (.int .i64 a1)] [] (spec_l11Root.e r).1 (spec_l11Root.e r).2.1 (spec_l11Root.e r).2.2 :=
  con_okG kitOk mix (fun k => (CtxOk.cons (spec_l01In.xok k) CtxOk.nil)) (spec_l11Root.oke k a0_0 a1) h (by kernel_rfl) (by kernel_rfl) (by kernel_rfl) rfl (by kernel_rfl) rfl rfl
noncomputable def spec_l11Root.x (k : Nat) : X := fun ins bs κ => match ins, bs with
  | [.ag [.row 0 .t88 a0_0], .sc (.int .i64 a1)], [] => (spec_l11Root.f k a0_0 a1).bind fun r => κ (spec_l11Root.e r).1 (spec_l11Root.e r).2.1 (spec_l11Root.e r).2.2
  | _, _ => none
theorem spec_l11Root.xok (k : Nat) : XOk 77 (spec_l11Root.x k) := by
  intro ins bs κ res h
  unfold spec_l11Root.x at h
  split at h
  · obtain ⟨r, hr, h⟩ := Option.bind_eq_some_iff.1 h
    exact ⟨_, _, _, spec_l11Root.con k _ _ r hr, h⟩
  · cases h

/-! ### spec_l11Get: function 78 -/
noncomputable def spec_l11Get.sp : Nat → Option (Spec Ty) := fun r => none
noncomputable def spec_l11Get.en : Option (Spec Ty) := none
noncomputable def spec_l11Get.ctx (k : Nat) : Ctx Ty D := (fun _ _ _ _ => none)
noncomputable def spec_l11Get.f (k : Nat) (a0_0 : List S88) (a1 : Int) (a2 : Int) : Option (Int) := (if a1 < 0 then (some (0)) else (if 0 ≤ a1 then (if a1 < (a0_0.length : Int) then (if 0 ≤ (w64 (Int.tdiv a2 4)) then (if (w64 (Int.tdiv a2 4)) < (((rd_T88 a0_0 a1).f1).length : Int) then (if (rd_T3 ((rd_T88 a0_0 a1).f1) (w64 (Int.tdiv a2 4))) < 0 then (some (0)) else (if 0 ≤ (rd_T3 ((rd_T88 a0_0 a1).f1) (w64 (Int.tdiv a2 4))) then (if (rd_T3 ((rd_T88 a0_0 a1).f1) (w64 (Int.tdiv a2 4))) < (a0_0.length : Int) then (if 0 ≤ (Int.tmod a2 4) then (if (Int.tmod a2 4) < (((rd_T88 a0_0 (rd_T3 ((rd_T88 a0_0 a1).f1) (w64 (Int.tdiv a2 4)))).f1).length : Int) then (some ((rd_T3 ((rd_T88 a0_0 (rd_T3 ((rd_T88 a0_0 a1).f1) (w64 (Int.tdiv a2 4)))).f1) (Int.tmod a2 4)))) else none) else none) else none) else none)) else none) else none) else none) else none))
noncomputable def spec_l11Get.e (r : Int) : Res Ty D := (.sc (.int .i64 r), [], [])
noncomputable abbrev spec_l11Get.g (rec : List Item → St Ty D → R) (k : Nat) := go1 Try.f78 (spec_l11Get.ctx k) spec_l11Get.sp 0 spec_l11Get.en rec
set_option maxRecDepth 100000 in
theorem spec_l11Get.te (rec : List Item → St Ty D → R) (k : Nat) (a0_0 : List S88) (a1 : Int) (a2 : Int) : spec_l11Get.g rec k [.code (body Try.f78)] (startSt [.ag [.row 0 .t88 a0_0], .sc (.int .i64 a1), .sc (.int .i64 a2)] []) =
  bif decide (a1 < 0) then some (spec_l11Get.e (0)) else bif decide (0 ≤ a1) then bif decide (a1 < (a0_0.length : Int)) then bif decide (0 ≤ (w64 (Int.tdiv a2 4))) then bif decide ((w64 (Int.tdiv a2 4)) < (((rd_T88 a0_0 a1).f1).length : Int)) then bif decide ((rd_T3 ((rd_T88 a0_0 a1).f1) (w64 (Int.tdiv a2 4))) < 0) then some (spec_l11Get.e (0)) else bif decide (0 ≤ (rd_T3 ((rd_T88 a0_0 a1).f1) (w64 (Int.tdiv a2 4)))) then bif decide ((rd_T3 ((rd_T88 a0_0 a1).f1) (w64 (Int.tdiv a2 4))) < (a0_0.length : Int)) then bif decide (0 ≤ (Int.tmod a2 4)) then bif decide ((Int.tmod a2 4) < (((rd_T88 a0_0 (rd_T3 ((rd_T88 a0_0 a1).f1) (w64 (Int.tdiv a2 4)))).f1).length : Int)) then some (spec_l11Get.e ((rd_T3 ((rd_T88 a0_0 (rd_T3 ((rd_T88 a0_0 a1).f1) (w64 (Int.tdiv a2 4)))).f1) (Int.tmod a2 4)))) else none else none else none else none else none else none else none else none := by kernel_rfl
set_option maxRecDepth 100000 in
theorem spec_l11Get.oke (k : Nat) (a0_0 : List S88) (a1 : Int) (a2 : Int) : goF Try.f78 spec_l11Get.ctx spec_l11Get.sp 0 spec_l11Get.en (k + 1) [.code (body Try.f78)] (startSt [.ag [.row 0 .t88 a0_0], .sc (.int .i64 a1), .sc (.int .i64 a2)] []) = (spec_l11Get.f k a0_0 a1 a2).map spec_l11Get.e := by
  rw [spec_l11Get.f]; exact (spec_l11Get.te _ k a0_0 a1 a2).trans (cd rfl (cd (cd (cd (cd (cd rfl (cd (cd (cd (cd rfl rfl) rfl) rfl) rfl)) rfl) rfl) rfl) rfl))
theorem spec_l11Get.con (k : Nat) (a0_0 : List S88) (a1 : Int) (a2 : Int) (r) (h : spec_l11Get.f k a0_0 a1 a2 = some r) : Contract Try.prog kit 78 [.ag [.row 0 .t88 a0_0], .sc (.int .i64 a1), .sc (.int .i64 a2)] [] (spec_l11Get.e r).1 (spec_l11Get.e r).2.1 (spec_l11Get.e r).2.2 :=
  con_okG kitOk mix (fun k => CtxOk.nil) (spec_l11Get.oke k a0_0 a1 a2) h (by kernel_rfl) (by kernel_rfl) (by kernel_rfl) rfl (by kernel_rfl) rfl rfl
noncomputable def spec_l11Get.x (k : Nat) : X := fun ins bs κ => match ins, bs with
  | [.ag [.row 0 .t88 a0_0], .sc (.int .i64 a1), .sc (.int .i64 a2)], [] => (spec_l11Get.f k a0_0 a1 a2).bind fun r => κ (spec_l11Get.e r).1 (spec_l11Get.e r).2.1 (spec_l11Get.e r).2.2
  | _, _ => none
theorem spec_l11Get.xok (k : Nat) : XOk 78 (spec_l11Get.x k) := by
  intro ins bs κ res h
  unfold spec_l11Get.x at h
  split at h
  · obtain ⟨r, hr, h⟩ := Option.bind_eq_some_iff.1 h
    exact ⟨_, _, _, spec_l11Get.con k _ _ _ r hr, h⟩
  · cases h

/-! ### spec_l11Copy: function 81 -/
noncomputable def spec_l11Copy.sp : Nat → Option (Spec Ty) := fun r => bif Nat.beq r 3 then some ⟨[(1, .box [.keep]), (2, .box [.own .t88]), (3, .box [.own .t88]), (4, .keep)], []⟩ else none
noncomputable def spec_l11Copy.en : Option (Spec Ty) := some ⟨[(2, .box [.own .t88])], []⟩
noncomputable def spec_l11Copy.s3 (x4 : Int) (h64_0 : List S88) (h66 : List S88) (h68 : List S88) : St Ty D := ⟨(Env.put (Env.put (Env.put (Env.put E (some 1) (.pt 64 0 0)) (some 2) (.pt 65 0 0)) (some 3) (.pt 67 0 0)) (some 4) (.sc (.int .i64 x4))), Heap.put H0 [(64, some (.box [.row 0 .t88 h64_0])), (66, some (.rowb .t88 h66 0)), (65, some (.box [.sl 66 none])), (68, some (.rowb .t88 h68 0)), (67, some (.box [.sl 68 none]))], 1000⟩
noncomputable def spec_l11Copy.ctx (k : Nat) : Ctx Ty D := (fun _ _ _ _ => none)
noncomputable def spec_l11Copy.c3 : Nat → Int → (List S88) → (List S88) → (List S88) → Option ((List S88))
  | 0, _, _, _, _ => none
  | k + 1, x4, h64_0, h66, h68 => (if x4 < (h64_0.length : Int) then (if 0 ≤ x4 then (if x4 < (h64_0.length : Int) then (if 0 ≤ x4 then (if x4 < (h64_0.length : Int) then (if ([] : List Int).length + ((rd_T88 h64_0 x4).f1).length ≤ 17592186044416 then (if h68.length + ([(S88.mk ((rd_T88 h64_0 x4).f0) (([] : List Int) ++ ((rd_T88 h64_0 x4).f1)))] : List S88).length ≤ 4398046511104 then (spec_l11Copy.c3 k (w64 (x4 + 1)) h64_0 h66 (h68 ++ ([(S88.mk ((rd_T88 h64_0 x4).f0) (([] : List Int) ++ ((rd_T88 h64_0 x4).f1)))] : List S88))) else none) else none) else none) else none) else none) else none) else (some (h68)))
noncomputable def spec_l11Copy.f (k : Nat) (a0_0 : List S88) : Option ((List S88)) := (spec_l11Copy.c3 k 0 a0_0 ([] : List S88) ([] : List S88))
noncomputable def spec_l11Copy.e (r : (List S88)) : Res Ty D := (.ag [.sl 0 none], [], [.rowb .t88 r 0])
noncomputable abbrev spec_l11Copy.g (rec : List Item → St Ty D → R) (k : Nat) := go1 Try.f81 (spec_l11Copy.ctx k) spec_l11Copy.sp 0 spec_l11Copy.en rec
set_option maxRecDepth 100000 in
theorem spec_l11Copy.t3 (rec : List Item → St Ty D → R) (k : Nat) (x4 : Int) (h64_0 : List S88) (h66 : List S88) (h68 : List S88) : spec_l11Copy.g rec k (td Try.f81 3) (spec_l11Copy.s3 x4 h64_0 h66 h68) =
  bif decide (x4 < (h64_0.length : Int)) then bif decide (0 ≤ x4) then bif decide (x4 < (h64_0.length : Int)) then bif decide (0 ≤ x4) then bif decide (x4 < (h64_0.length : Int)) then bif decide (([] : List Int).length + ((rd_T88 h64_0 x4).f1).length ≤ 17592186044416) then bif decide (h68.length + ([(S88.mk ((rd_T88 h64_0 x4).f0) (([] : List Int) ++ ((rd_T88 h64_0 x4).f1)))] : List S88).length ≤ 4398046511104) then rec (td Try.f81 3) (spec_l11Copy.s3 (w64 (x4 + 1)) h64_0 h66 (h68 ++ ([(S88.mk ((rd_T88 h64_0 x4).f0) (([] : List Int) ++ ((rd_T88 h64_0 x4).f1)))] : List S88))) else none else none else none else none else none else none else some (spec_l11Copy.e (h68)) := by kernel_rfl
set_option maxRecDepth 100000 in
theorem spec_l11Copy.te (rec : List Item → St Ty D → R) (k : Nat) (a0_0 : List S88) : spec_l11Copy.g rec k [.code (body Try.f81)] (startSt [.ag [.row 0 .t88 a0_0]] []) =
  rec (td Try.f81 3) (spec_l11Copy.s3 0 a0_0 ([] : List S88) ([] : List S88)) := by kernel_rfl
set_option maxRecDepth 100000 in
theorem spec_l11Copy.ok : ∀ k : Nat, (∀ (x4 : Int) (h64_0 : List S88) (h66 : List S88) (h68 : List S88), goF Try.f81 spec_l11Copy.ctx spec_l11Copy.sp 0 spec_l11Copy.en k (td Try.f81 3) (spec_l11Copy.s3 x4 h64_0 h66 h68) = (spec_l11Copy.c3 k x4 h64_0 h66 h68).map spec_l11Copy.e)
  | 0 => fun _ _ _ _ => rfl
  | k + 1 => by
    have ih := spec_l11Copy.ok k
    have i3 := ih
    intro x4 h64_0 h66 h68; rw [spec_l11Copy.c3]; exact (spec_l11Copy.t3 _ k x4 h64_0 h66 h68).trans (cd (cd (cd (cd (cd (cd (cd (i3 _ _ _ _) rfl) rfl) rfl) rfl) rfl) rfl) rfl)
set_option maxRecDepth 100000 in
theorem spec_l11Copy.oke (k : Nat) (a0_0 : List S88) : goF Try.f81 spec_l11Copy.ctx spec_l11Copy.sp 0 spec_l11Copy.en (k + 1) [.code (body Try.f81)] (startSt [.ag [.row 0 .t88 a0_0]] []) = (spec_l11Copy.f k a0_0).map spec_l11Copy.e := by
  have i3 := spec_l11Copy.ok k
  rw [spec_l11Copy.f]; exact (spec_l11Copy.te _ k a0_0).trans (i3 _ _ _ _)
theorem spec_l11Copy.con (k : Nat) (a0_0 : List S88) (r) (h : spec_l11Copy.f k a0_0 = some r) : Contract Try.prog kit 81 [.ag [.row 0 .t88 a0_0]] [] (spec_l11Copy.e r).1 (spec_l11Copy.e r).2.1 (spec_l11Copy.e r).2.2 :=
  con_okG kitOk mix (fun k => CtxOk.nil) (spec_l11Copy.oke k a0_0) h (by kernel_rfl) (by kernel_rfl) (by kernel_rfl) rfl (by kernel_rfl) rfl rfl
noncomputable def spec_l11Copy.x (k : Nat) : X := fun ins bs κ => match ins, bs with
  | [.ag [.row 0 .t88 a0_0]], [] => (spec_l11Copy.f k a0_0).bind fun r => κ (spec_l11Copy.e r).1 (spec_l11Copy.e r).2.1 (spec_l11Copy.e r).2.2
  | _, _ => none
theorem spec_l11Copy.xok (k : Nat) : XOk 81 (spec_l11Copy.x k) := by
  intro ins bs κ res h
  unfold spec_l11Copy.x at h
  split at h
  · obtain ⟨r, hr, h⟩ := Option.bind_eq_some_iff.1 h
    exact ⟨_, _, _, spec_l11Copy.con k _ r hr, h⟩
  · cases h

/-! ### spec_l11Has: function 97 -/
noncomputable def spec_l11Has.sp : Nat → Option (Spec Ty) := fun r => bif Nat.beq r 6 then some ⟨[(1, .keep), (2, .box [.keep]), (5, .own .t4), (6, .keep)], []⟩ else none
noncomputable def spec_l11Has.en : Option (Spec Ty) := some ⟨[(4, .own .t4)], []⟩
noncomputable def spec_l11Has.s6 (x1 : Int) (x6 : Int) (h64_0 : List S88) (h65 : List Bool) : St Ty D := ⟨(Env.put (Env.put (Env.put (Env.put E (some 1) (.sc (.int .i64 x1))) (some 2) (.pt 64 0 0)) (some 5) (.sl 65 none)) (some 6) (.sc (.int .i64 x6))), Heap.put H0 [(64, some (.box [.row 0 .t88 h64_0])), (65, some (.rowb .t4 h65 0))], 1000⟩
noncomputable def spec_l11Has.ctx (k : Nat) : Ctx Ty D := (fun _ _ _ _ => none)
noncomputable def spec_l11Has.c6 : Nat → Int → Int → (List S88) → (List Bool) → Option ((List Bool))
  | 0, _, _, _, _ => none
  | k + 1, x1, x6, h64_0, h65 => (if x6 < 4 then (if 0 ≤ x1 then (if x1 < (h64_0.length : Int) then (if 0 ≤ x6 then (if x6 < (((rd_T88 h64_0 x1).f1).length : Int) then (if (rd_T3 ((rd_T88 h64_0 x1).f1) x6) ≥ 0 then (if 0 ≤ x1 then (if x1 < (h64_0.length : Int) then (if 0 ≤ x6 then (if x6 < (((rd_T88 h64_0 x1).f1).length : Int) then (if 0 ≤ (rd_T3 ((rd_T88 h64_0 x1).f1) x6) then (if (rd_T3 ((rd_T88 h64_0 x1).f1) x6) < (h65.length : Int) then (spec_l11Has.c6 k x1 (w64 (x6 + 1)) h64_0 (h65.set ((rd_T3 ((rd_T88 h64_0 x1).f1) x6).toNat) true)) else none) else none) else none) else none) else none) else none) else (spec_l11Has.c6 k x1 (w64 (x6 + 1)) h64_0 h65)) else none) else none) else none) else none) else (some (h65)))
noncomputable def spec_l11Has.f (k : Nat) (a0_0 : List S88) (a1 : Int) : Option ((List Bool)) := (if 0 ≤ (a0_0.length : Int) then (if (a0_0.length : Int).toNat ≤ 281474976710656 then (if a1 < 0 then (some ((List.replicate ((a0_0.length : Int).toNat) z4))) else (if 0 ≤ a1 then (if a1 < ((List.replicate ((a0_0.length : Int).toNat) z4).length : Int) then (spec_l11Has.c6 k a1 0 a0_0 ((List.replicate ((a0_0.length : Int).toNat) z4).set a1.toNat true)) else none) else none)) else none) else none)
noncomputable def spec_l11Has.e (r : (List Bool)) : Res Ty D := (.sl 0 none, [], [.rowb .t4 r 0])
noncomputable abbrev spec_l11Has.g (rec : List Item → St Ty D → R) (k : Nat) := go1 Try.f97 (spec_l11Has.ctx k) spec_l11Has.sp 0 spec_l11Has.en rec
set_option maxRecDepth 100000 in
theorem spec_l11Has.t6 (rec : List Item → St Ty D → R) (k : Nat) (x1 : Int) (x6 : Int) (h64_0 : List S88) (h65 : List Bool) : spec_l11Has.g rec k (td Try.f97 6) (spec_l11Has.s6 x1 x6 h64_0 h65) =
  bif decide (x6 < 4) then bif decide (0 ≤ x1) then bif decide (x1 < (h64_0.length : Int)) then bif decide (0 ≤ x6) then bif decide (x6 < (((rd_T88 h64_0 x1).f1).length : Int)) then bif decide ((rd_T3 ((rd_T88 h64_0 x1).f1) x6) ≥ 0) then bif decide (0 ≤ x1) then bif decide (x1 < (h64_0.length : Int)) then bif decide (0 ≤ x6) then bif decide (x6 < (((rd_T88 h64_0 x1).f1).length : Int)) then bif decide (0 ≤ (rd_T3 ((rd_T88 h64_0 x1).f1) x6)) then bif decide ((rd_T3 ((rd_T88 h64_0 x1).f1) x6) < (h65.length : Int)) then rec (td Try.f97 6) (spec_l11Has.s6 x1 (w64 (x6 + 1)) h64_0 (h65.set ((rd_T3 ((rd_T88 h64_0 x1).f1) x6).toNat) true)) else none else none else none else none else none else none else rec (td Try.f97 6) (spec_l11Has.s6 x1 (w64 (x6 + 1)) h64_0 h65) else none else none else none else none else some (spec_l11Has.e (h65)) := by kernel_rfl
set_option maxRecDepth 100000 in
theorem spec_l11Has.te (rec : List Item → St Ty D → R) (k : Nat) (a0_0 : List S88) (a1 : Int) : spec_l11Has.g rec k [.code (body Try.f97)] (startSt [.ag [.row 0 .t88 a0_0], .sc (.int .i64 a1)] []) =
  bif decide ((a0_0.length : Int) = (a0_0.length : Int)) then bif decide (0 ≤ (a0_0.length : Int)) then bif decide ((a0_0.length : Int).toNat ≤ 281474976710656) then bif decide (a1 < 0) then some (spec_l11Has.e ((List.replicate ((a0_0.length : Int).toNat) z4))) else bif decide (0 ≤ a1) then bif decide (a1 < ((List.replicate ((a0_0.length : Int).toNat) z4).length : Int)) then rec (td Try.f97 6) (spec_l11Has.s6 a1 0 a0_0 ((List.replicate ((a0_0.length : Int).toNat) z4).set a1.toNat true)) else none else none else none else none else none := by kernel_rfl
set_option maxRecDepth 100000 in
theorem spec_l11Has.ok : ∀ k : Nat, (∀ (x1 : Int) (x6 : Int) (h64_0 : List S88) (h65 : List Bool), goF Try.f97 spec_l11Has.ctx spec_l11Has.sp 0 spec_l11Has.en k (td Try.f97 6) (spec_l11Has.s6 x1 x6 h64_0 h65) = (spec_l11Has.c6 k x1 x6 h64_0 h65).map spec_l11Has.e)
  | 0 => fun _ _ _ _ => rfl
  | k + 1 => by
    have ih := spec_l11Has.ok k
    have i6 := ih
    intro x1 x6 h64_0 h65; rw [spec_l11Has.c6]; exact (spec_l11Has.t6 _ k x1 x6 h64_0 h65).trans (cd (cd (cd (cd (cd (cd (cd (cd (cd (cd (cd (cd (i6 _ _ _ _) rfl) rfl) rfl) rfl) rfl) rfl) (i6 _ _ _ _)) rfl) rfl) rfl) rfl) rfl)
set_option maxRecDepth 100000 in
theorem spec_l11Has.oke (k : Nat) (a0_0 : List S88) (a1 : Int) : goF Try.f97 spec_l11Has.ctx spec_l11Has.sp 0 spec_l11Has.en (k + 1) [.code (body Try.f97)] (startSt [.ag [.row 0 .t88 a0_0], .sc (.int .i64 a1)] []) = (spec_l11Has.f k a0_0 a1).map spec_l11Has.e := by
  have i6 := spec_l11Has.ok k
  rw [spec_l11Has.f]; exact (spec_l11Has.te _ k a0_0 a1).trans (sf (cd (cd (cd rfl (cd (cd (i6 _ _ _ _) rfl) rfl)) rfl) rfl))
theorem spec_l11Has.con (k : Nat) (a0_0 : List S88) (a1 : Int) (r) (h : spec_l11Has.f k a0_0 a1 = some r) : Contract Try.prog kit 97 [.ag [.row 0 .t88 a0_0], .sc (.int .i64 a1)] [] (spec_l11Has.e r).1 (spec_l11Has.e r).2.1 (spec_l11Has.e r).2.2 :=
  con_okG kitOk mix (fun k => CtxOk.nil) (spec_l11Has.oke k a0_0 a1) h (by kernel_rfl) (by kernel_rfl) (by kernel_rfl) rfl (by kernel_rfl) rfl rfl
noncomputable def spec_l11Has.x (k : Nat) : X := fun ins bs κ => match ins, bs with
  | [.ag [.row 0 .t88 a0_0], .sc (.int .i64 a1)], [] => (spec_l11Has.f k a0_0 a1).bind fun r => κ (spec_l11Has.e r).1 (spec_l11Has.e r).2.1 (spec_l11Has.e r).2.2
  | _, _ => none
theorem spec_l11Has.xok (k : Nat) : XOk 97 (spec_l11Has.x k) := by
  intro ins bs κ res h
  unfold spec_l11Has.x at h
  split at h
  · obtain ⟨r, hr, h⟩ := Option.bind_eq_some_iff.1 h
    exact ⟨_, _, _, spec_l11Has.con k _ _ r hr, h⟩
  · cases h
end Go.Proofs.Yteideicglgpfiaa.M2

/- Plain runs of functions: each is a plain Lean function, and keeps its contract. Written by a program of this session. -/
namespace Go.Proofs.Yteideicglgpfiaa.M2
open Go Go.Proofs.Yteideicglgpfiaa.PK
set_option linter.unusedVariables false
set_option linter.unusedSimpArgs false
set_option maxHeartbeats 4000000
/-! ### spec_SweepArena: function 79 -/
noncomputable def spec_SweepArena.sp : Nat → Option (Spec Ty) := fun r => bif Nat.beq r 4 then some ⟨[(1, .keep), (2, .box [.keep]), (4, .box [.own .t88]), (6, .own .t3), (7, .keep), (8, .keep)], []⟩ else bif Nat.beq r 11 then some ⟨[(1, .keep), (2, .box [.keep]), (4, .box [.own .t88]), (6, .own .t3), (9, .own .t4), (10, .keep)], []⟩ else bif Nat.beq r 15 then some ⟨[(1, .keep), (2, .box [.keep]), (4, .box [.own .t88]), (6, .own .t3), (9, .own .t4), (10, .keep), (11, .own .t4), (12, .keep)], []⟩ else bif Nat.beq r 21 then some ⟨[(2, .box [.keep]), (4, .box [.own .t88]), (6, .own .t3), (9, .own .t4), (13, .own .t3), (14, .box [.own .t88]), (15, .keep)], []⟩ else bif Nat.beq r 26 then some ⟨[(2, .box [.keep]), (4, .box [.own .t88]), (6, .own .t3), (9, .own .t4), (13, .own .t3), (14, .box [.own .t88]), (15, .keep), (16, .box [.keep, .own .t3]), (17, .keep)], []⟩ else bif Nat.beq r 33 then some ⟨[(4, .box [.own .t88]), (6, .own .t3), (13, .own .t3), (14, .box [.own .t88]), (18, .keep)], []⟩ else none
noncomputable def spec_SweepArena.en : Option (Spec Ty) := some ⟨[(4, .box [.own .t88]), (5, .own .t3)], []⟩
noncomputable def spec_SweepArena.s4 (x1 : List Int) (x7 : Bool) (x8 : Int) (h64_0 : List S88) (h66 : List S88) (h67 : List Int) : St Ty D := ⟨(Env.put (Env.put (Env.put (Env.put (Env.put (Env.put E (some 1) (.row 0 .t3 x1)) (some 2) (.pt 64 0 0)) (some 4) (.pt 65 0 0)) (some 6) (.sl 67 none)) (some 7) (.sc (.bool x7))) (some 8) (.sc (.int .i64 x8))), Heap.put H0 [(64, some (.box [.row 0 .t88 h64_0])), (66, some (.rowb .t88 h66 0)), (65, some (.box [.sl 66 none])), (67, some (.rowb .t3 h67 0))], 1000⟩
noncomputable def spec_SweepArena.s11 (x1 : List Int) (x10 : Int) (h64_0 : List S88) (h66 : List S88) (h67 : List Int) (h68 : List Bool) : St Ty D := ⟨(Env.put (Env.put (Env.put (Env.put (Env.put (Env.put E (some 1) (.row 0 .t3 x1)) (some 2) (.pt 64 0 0)) (some 4) (.pt 65 0 0)) (some 6) (.sl 67 none)) (some 9) (.sl 68 none)) (some 10) (.sc (.int .i64 x10))), Heap.put H0 [(64, some (.box [.row 0 .t88 h64_0])), (66, some (.rowb .t88 h66 0)), (65, some (.box [.sl 66 none])), (67, some (.rowb .t3 h67 0)), (68, some (.rowb .t4 h68 0))], 1000⟩
noncomputable def spec_SweepArena.s15 (x1 : List Int) (x10 : Int) (x12 : Int) (h64_0 : List S88) (h66 : List S88) (h67 : List Int) (h68 : List Bool) (h69 : List Bool) : St Ty D := ⟨(Env.put (Env.put (Env.put (Env.put (Env.put (Env.put (Env.put (Env.put E (some 1) (.row 0 .t3 x1)) (some 2) (.pt 64 0 0)) (some 4) (.pt 65 0 0)) (some 6) (.sl 67 none)) (some 9) (.sl 68 none)) (some 10) (.sc (.int .i64 x10))) (some 11) (.sl 69 none)) (some 12) (.sc (.int .i64 x12))), Heap.put H0 [(64, some (.box [.row 0 .t88 h64_0])), (66, some (.rowb .t88 h66 0)), (65, some (.box [.sl 66 none])), (67, some (.rowb .t3 h67 0)), (68, some (.rowb .t4 h68 0)), (69, some (.rowb .t4 h69 0))], 1000⟩
noncomputable def spec_SweepArena.s21 (x15 : Int) (h64_0 : List S88) (h66 : List S88) (h67 : List Int) (h68 : List Bool) (h69 : List Int) (h71 : List S88) : St Ty D := ⟨(Env.put (Env.put (Env.put (Env.put (Env.put (Env.put (Env.put E (some 2) (.pt 64 0 0)) (some 4) (.pt 65 0 0)) (some 6) (.sl 67 none)) (some 9) (.sl 68 none)) (some 13) (.sl 69 none)) (some 14) (.pt 70 0 0)) (some 15) (.sc (.int .i64 x15))), Heap.put H0 [(64, some (.box [.row 0 .t88 h64_0])), (66, some (.rowb .t88 h66 0)), (65, some (.box [.sl 66 none])), (67, some (.rowb .t3 h67 0)), (68, some (.rowb .t4 h68 0)), (69, some (.rowb .t3 h69 0)), (71, some (.rowb .t88 h71 0)), (70, some (.box [.sl 71 none]))], 1000⟩
noncomputable def spec_SweepArena.s26 (x15 : Int) (x17 : Int) (h64_0 : List S88) (h66 : List S88) (h67 : List Int) (h68 : List Bool) (h69 : List Int) (h71 : List S88) (h73 : List Int) (h72_0 : Bool) : St Ty D := ⟨(Env.put (Env.put (Env.put (Env.put (Env.put (Env.put (Env.put (Env.put (Env.put E (some 2) (.pt 64 0 0)) (some 4) (.pt 65 0 0)) (some 6) (.sl 67 none)) (some 9) (.sl 68 none)) (some 13) (.sl 69 none)) (some 14) (.pt 70 0 0)) (some 15) (.sc (.int .i64 x15))) (some 16) (.pt 72 0 0)) (some 17) (.sc (.int .i64 x17))), Heap.put H0 [(64, some (.box [.row 0 .t88 h64_0])), (66, some (.rowb .t88 h66 0)), (65, some (.box [.sl 66 none])), (67, some (.rowb .t3 h67 0)), (68, some (.rowb .t4 h68 0)), (69, some (.rowb .t3 h69 0)), (71, some (.rowb .t88 h71 0)), (70, some (.box [.sl 71 none])), (73, some (.rowb .t3 h73 0)), (72, some (.box [.sc (.bool h72_0), .sl 73 none]))], 1000⟩
noncomputable def spec_SweepArena.s33 (x18 : Int) (h65 : List S88) (h66 : List Int) (h67 : List Int) (h69 : List S88) : St Ty D := ⟨(Env.put (Env.put (Env.put (Env.put (Env.put E (some 4) (.pt 64 0 0)) (some 6) (.sl 66 none)) (some 13) (.sl 67 none)) (some 14) (.pt 68 0 0)) (some 18) (.sc (.int .i64 x18))), Heap.put H0 [(65, some (.rowb .t88 h65 0)), (64, some (.box [.sl 65 none])), (66, some (.rowb .t3 h66 0)), (67, some (.rowb .t3 h67 0)), (69, some (.rowb .t88 h69 0)), (68, some (.box [.sl 69 none]))], 1000⟩
noncomputable def spec_SweepArena.ctx (k : Nat) : Ctx Ty D := (cons 75 (spec_ArenaOk.x k) (cons 77 (spec_l11Root.x k) (cons 81 (spec_l11Copy.x k) (cons 97 (spec_l11Has.x k) (fun _ _ _ _ => none)))))
mutual
noncomputable def spec_SweepArena.c4 : Nat → (List Int) → Bool → Int → (List S88) → (List S88) → (List Int) → Option ((List S88) × (List Int))
  | 0, _, _, _, _, _, _ => none
  | k + 1, x1, x7, x8, h64_0, h66, h67 => (if x8 < (x1.length : Int) then (if x7 = true then (if 0 ≤ x8 then (if x8 < (x1.length : Int) then ((spec_l11Root.f k h64_0 (rd_T3 x1 x8)).bind fun t2 => (spec_SweepArena.c4 k x1 t2 (w64 (x8 + 1)) h64_0 h66 h67)) else none) else none) else (if x7 = true then (if 0 ≤ (h64_0.length : Int) then (if (h64_0.length : Int).toNat ≤ 281474976710656 then (spec_SweepArena.c11 k x1 0 h64_0 h66 h67 (List.replicate ((h64_0.length : Int).toNat) z4)) else none) else none) else ((spec_l11Copy.f k h64_0).bind fun t3 => (some (t3, h67))))) else (if x7 = true then (if 0 ≤ (h64_0.length : Int) then (if (h64_0.length : Int).toNat ≤ 281474976710656 then (spec_SweepArena.c11 k x1 0 h64_0 h66 h67 (List.replicate ((h64_0.length : Int).toNat) z4)) else none) else none) else ((spec_l11Copy.f k h64_0).bind fun t4 => (some (t4, h67)))))
noncomputable def spec_SweepArena.c11 : Nat → (List Int) → Int → (List S88) → (List S88) → (List Int) → (List Bool) → Option ((List S88) × (List Int))
  | 0, _, _, _, _, _, _ => none
  | k + 1, x1, x10, h64_0, h66, h67, h68 => (if x10 < (x1.length : Int) then (if 0 ≤ x10 then (if x10 < (x1.length : Int) then ((spec_l11Has.f k h64_0 (rd_T3 x1 x10)).bind fun t5 => (spec_SweepArena.c15 k x1 x10 0 h64_0 h66 h67 h68 t5)) else none) else none) else (if 0 ≤ (h64_0.length : Int) then (if (h64_0.length : Int).toNat ≤ 35184372088832 then (spec_SweepArena.c21 k 0 h64_0 h66 h67 h68 (List.replicate ((h64_0.length : Int).toNat) z3) ([] : List S88)) else none) else none))
noncomputable def spec_SweepArena.c15 : Nat → (List Int) → Int → Int → (List S88) → (List S88) → (List Int) → (List Bool) → (List Bool) → Option ((List S88) × (List Int))
  | 0, _, _, _, _, _, _, _, _ => none
  | k + 1, x1, x10, x12, h64_0, h66, h67, h68, h69 => (if x12 < (h69.length : Int) then (if 0 ≤ x12 then (if x12 < (h68.length : Int) then (if (rd_T4 h68 x12) = true then (if 0 ≤ x12 then (if x12 < (h68.length : Int) then (spec_SweepArena.c15 k x1 x10 (w64 (x12 + 1)) h64_0 h66 h67 (h68.set x12.toNat true) h69) else none) else none) else (if 0 ≤ x12 then (if x12 < (h69.length : Int) then (if 0 ≤ x12 then (if x12 < (h68.length : Int) then (spec_SweepArena.c15 k x1 x10 (w64 (x12 + 1)) h64_0 h66 h67 (h68.set x12.toNat (rd_T4 h69 x12)) h69) else none) else none) else none) else none)) else none) else none) else (spec_SweepArena.c11 k x1 (w64 (x10 + 1)) h64_0 h66 h67 h68))
noncomputable def spec_SweepArena.c21 : Nat → Int → (List S88) → (List S88) → (List Int) → (List Bool) → (List Int) → (List S88) → Option ((List S88) × (List Int))
  | 0, _, _, _, _, _, _, _ => none
  | k + 1, x15, h64_0, h66, h67, h68, h69, h71 => (if x15 < (h64_0.length : Int) then (if 0 ≤ x15 then (if x15 < (h68.length : Int) then (if (rd_T4 h68 x15) = true then (if 0 ≤ x15 then (if x15 < (h64_0.length : Int) then (if 0 ≤ x15 then (if x15 < (h64_0.length : Int) then (if ([] : List Int).length + ((rd_T88 h64_0 x15).f1).length ≤ 17592186044416 then (spec_SweepArena.c26 k x15 0 h64_0 h66 h67 h68 h69 h71 (([] : List Int) ++ ((rd_T88 h64_0 x15).f1)) ((rd_T88 h64_0 x15).f0)) else none) else none) else none) else none) else none) else (spec_SweepArena.c21 k (w64 (x15 + 1)) h64_0 h66 h67 h68 h69 h71)) else none) else none) else (spec_SweepArena.c33 k 0 h66 h67 h69 h71))
noncomputable def spec_SweepArena.c26 : Nat → Int → Int → (List S88) → (List S88) → (List Int) → (List Bool) → (List Int) → (List S88) → (List Int) → Bool → Option ((List S88) × (List Int))
  | 0, _, _, _, _, _, _, _, _, _, _ => none
  | k + 1, x15, x17, h64_0, h66, h67, h68, h69, h71, h73, h72_0 => (if x17 < 4 then (if h72_0 = true then (if 0 ≤ x15 then (if x15 < (h69.length : Int) then (if h71.length + ([(S88.mk h72_0 h73)] : List S88).length ≤ 4398046511104 then (spec_SweepArena.c21 k (w64 (x15 + 1)) h64_0 h66 h67 h68 (h69.set x15.toNat (h71.length : Int)) (h71 ++ ([(S88.mk h72_0 h73)] : List S88))) else none) else none) else none) else (if 0 ≤ x17 then (if x17 < (h73.length : Int) then (if (rd_T3 h73 x17) ≥ 0 then (if 0 ≤ x17 then (if x17 < (h73.length : Int) then (if 0 ≤ (rd_T3 h73 x17) then (if (rd_T3 h73 x17) < (h69.length : Int) then (if 0 ≤ x17 then (if x17 < (h73.length : Int) then (spec_SweepArena.c26 k x15 (w64 (x17 + 1)) h64_0 h66 h67 h68 h69 h71 (h73.set x17.toNat (rd_T3 h69 (rd_T3 h73 x17))) h72_0) else none) else none) else none) else none) else none) else none) else (spec_SweepArena.c26 k x15 (w64 (x17 + 1)) h64_0 h66 h67 h68 h69 h71 h73 h72_0)) else none) else none)) else (if 0 ≤ x15 then (if x15 < (h69.length : Int) then (if h71.length + ([(S88.mk h72_0 h73)] : List S88).length ≤ 4398046511104 then (spec_SweepArena.c21 k (w64 (x15 + 1)) h64_0 h66 h67 h68 (h69.set x15.toNat (h71.length : Int)) (h71 ++ ([(S88.mk h72_0 h73)] : List S88))) else none) else none) else none))
noncomputable def spec_SweepArena.c33 : Nat → Int → (List S88) → (List Int) → (List Int) → (List S88) → Option ((List S88) × (List Int))
  | 0, _, _, _, _, _ => none
  | k + 1, x18, h65, h66, h67, h69 => (if x18 < (h66.length : Int) then (if 0 ≤ x18 then (if x18 < (h66.length : Int) then (if (rd_T3 h66 x18) ≥ 0 then (if 0 ≤ x18 then (if x18 < (h66.length : Int) then (if 0 ≤ (rd_T3 h66 x18) then (if (rd_T3 h66 x18) < (h67.length : Int) then (if 0 ≤ x18 then (if x18 < (h66.length : Int) then (spec_SweepArena.c33 k (w64 (x18 + 1)) h65 (h66.set x18.toNat (rd_T3 h67 (rd_T3 h66 x18))) h67 h69) else none) else none) else none) else none) else none) else none) else (spec_SweepArena.c33 k (w64 (x18 + 1)) h65 h66 h67 h69)) else none) else none) else (some (h69, h66)))
end
noncomputable def spec_SweepArena.f (k : Nat) (a0_0 : List S88) (a1 : List Int) : Option ((List S88) × (List Int)) := (if ([] : List Int).length + a1.length ≤ 17592186044416 then ((spec_ArenaOk.f k a0_0).bind fun t1 => (spec_SweepArena.c4 k a1 t1 0 a0_0 ([] : List S88) (([] : List Int) ++ a1))) else none)
noncomputable def spec_SweepArena.e (r : (List S88) × (List Int)) : Res Ty D := (.tu [.ag [.sl 0 none], .sl 1 none], [], [.rowb .t88 r.1 0, .rowb .t3 r.2 0])
noncomputable abbrev spec_SweepArena.g (rec : List Item → St Ty D → R) (k : Nat) := go1 Try.f79 (spec_SweepArena.ctx k) spec_SweepArena.sp 0 spec_SweepArena.en rec
set_option maxRecDepth 100000 in
theorem spec_SweepArena.t4 (rec : List Item → St Ty D → R) (k : Nat) (x1 : List Int) (x7 : Bool) (x8 : Int) (h64_0 : List S88) (h66 : List S88) (h67 : List Int) : spec_SweepArena.g rec k (td Try.f79 4) (spec_SweepArena.s4 x1 x7 x8 h64_0 h66 h67) =
  bif decide (x8 < (x1.length : Int)) then bif x7 then bif decide (0 ≤ x8) then bif decide (x8 < (x1.length : Int)) then (spec_l11Root.f k h64_0 (rd_T3 x1 x8)).bind fun t2 => rec (td Try.f79 4) (spec_SweepArena.s4 x1 t2 (w64 (x8 + 1)) h64_0 h66 h67) else none else none else bif !x7 then (spec_l11Copy.f k h64_0).bind fun t3 => some (spec_SweepArena.e (t3, h67)) else bif decide ((h64_0.length : Int) = (h64_0.length : Int)) then bif decide (0 ≤ (h64_0.length : Int)) then bif decide ((h64_0.length : Int).toNat ≤ 281474976710656) then rec (td Try.f79 11) (spec_SweepArena.s11 x1 0 h64_0 h66 h67 (List.replicate ((h64_0.length : Int).toNat) z4)) else none else none else none else bif !x7 then (spec_l11Copy.f k h64_0).bind fun t4 => some (spec_SweepArena.e (t4, h67)) else bif decide ((h64_0.length : Int) = (h64_0.length : Int)) then bif decide (0 ≤ (h64_0.length : Int)) then bif decide ((h64_0.length : Int).toNat ≤ 281474976710656) then rec (td Try.f79 11) (spec_SweepArena.s11 x1 0 h64_0 h66 h67 (List.replicate ((h64_0.length : Int).toNat) z4)) else none else none else none := by kernel_rfl
set_option maxRecDepth 100000 in
theorem spec_SweepArena.t11 (rec : List Item → St Ty D → R) (k : Nat) (x1 : List Int) (x10 : Int) (h64_0 : List S88) (h66 : List S88) (h67 : List Int) (h68 : List Bool) : spec_SweepArena.g rec k (td Try.f79 11) (spec_SweepArena.s11 x1 x10 h64_0 h66 h67 h68) =
  bif decide (x10 < (x1.length : Int)) then bif decide (0 ≤ x10) then bif decide (x10 < (x1.length : Int)) then (spec_l11Has.f k h64_0 (rd_T3 x1 x10)).bind fun t5 => rec (td Try.f79 15) (spec_SweepArena.s15 x1 x10 0 h64_0 h66 h67 h68 t5) else none else none else bif decide ((h64_0.length : Int) = (h64_0.length : Int)) then bif decide (0 ≤ (h64_0.length : Int)) then bif decide ((h64_0.length : Int).toNat ≤ 35184372088832) then rec (td Try.f79 21) (spec_SweepArena.s21 0 h64_0 h66 h67 h68 (List.replicate ((h64_0.length : Int).toNat) z3) ([] : List S88)) else none else none else none := by kernel_rfl
set_option maxRecDepth 100000 in
theorem spec_SweepArena.t15 (rec : List Item → St Ty D → R) (k : Nat) (x1 : List Int) (x10 : Int) (x12 : Int) (h64_0 : List S88) (h66 : List S88) (h67 : List Int) (h68 : List Bool) (h69 : List Bool) : spec_SweepArena.g rec k (td Try.f79 15) (spec_SweepArena.s15 x1 x10 x12 h64_0 h66 h67 h68 h69) =
  bif decide (x12 < (h69.length : Int)) then bif decide (0 ≤ x12) then bif decide (x12 < (h68.length : Int)) then bif (rd_T4 h68 x12) then bif decide (0 ≤ x12) then bif decide (x12 < (h68.length : Int)) then rec (td Try.f79 15) (spec_SweepArena.s15 x1 x10 (w64 (x12 + 1)) h64_0 h66 h67 (h68.set x12.toNat true) h69) else none else none else bif decide (0 ≤ x12) then bif decide (x12 < (h69.length : Int)) then bif decide (0 ≤ x12) then bif decide (x12 < (h68.length : Int)) then rec (td Try.f79 15) (spec_SweepArena.s15 x1 x10 (w64 (x12 + 1)) h64_0 h66 h67 (h68.set x12.toNat (rd_T4 h69 x12)) h69) else none else none else none else none else none else none else rec (td Try.f79 11) (spec_SweepArena.s11 x1 (w64 (x10 + 1)) h64_0 h66 h67 h68) := by kernel_rfl
set_option maxRecDepth 100000 in
theorem spec_SweepArena.t21 (rec : List Item → St Ty D → R) (k : Nat) (x15 : Int) (h64_0 : List S88) (h66 : List S88) (h67 : List Int) (h68 : List Bool) (h69 : List Int) (h71 : List S88) : spec_SweepArena.g rec k (td Try.f79 21) (spec_SweepArena.s21 x15 h64_0 h66 h67 h68 h69 h71) =
  bif decide (x15 < (h64_0.length : Int)) then bif decide (0 ≤ x15) then bif decide (x15 < (h68.length : Int)) then bif !(rd_T4 h68 x15) then rec (td Try.f79 21) (spec_SweepArena.s21 (w64 (x15 + 1)) h64_0 h66 h67 h68 h69 h71) else bif decide (0 ≤ x15) then bif decide (x15 < (h64_0.length : Int)) then bif decide (0 ≤ x15) then bif decide (x15 < (h64_0.length : Int)) then bif decide (([] : List Int).length + ((rd_T88 h64_0 x15).f1).length ≤ 17592186044416) then rec (td Try.f79 26) (spec_SweepArena.s26 x15 0 h64_0 h66 h67 h68 h69 h71 (([] : List Int) ++ ((rd_T88 h64_0 x15).f1)) ((rd_T88 h64_0 x15).f0)) else none else none else none else none else none else none else none else rec (td Try.f79 33) (spec_SweepArena.s33 0 h66 h67 h69 h71) := by kernel_rfl
set_option maxRecDepth 100000 in
theorem spec_SweepArena.t26 (rec : List Item → St Ty D → R) (k : Nat) (x15 : Int) (x17 : Int) (h64_0 : List S88) (h66 : List S88) (h67 : List Int) (h68 : List Bool) (h69 : List Int) (h71 : List S88) (h73 : List Int) (h72_0 : Bool) : spec_SweepArena.g rec k (td Try.f79 26) (spec_SweepArena.s26 x15 x17 h64_0 h66 h67 h68 h69 h71 h73 h72_0) =
  bif decide (x17 < 4) then bif !h72_0 then bif decide (0 ≤ x17) then bif decide (x17 < (h73.length : Int)) then bif decide ((rd_T3 h73 x17) ≥ 0) then bif decide (0 ≤ x17) then bif decide (x17 < (h73.length : Int)) then bif decide (0 ≤ (rd_T3 h73 x17)) then bif decide ((rd_T3 h73 x17) < (h69.length : Int)) then bif decide (0 ≤ x17) then bif decide (x17 < (h73.length : Int)) then rec (td Try.f79 26) (spec_SweepArena.s26 x15 (w64 (x17 + 1)) h64_0 h66 h67 h68 h69 h71 (h73.set x17.toNat (rd_T3 h69 (rd_T3 h73 x17))) h72_0) else none else none else none else none else none else none else rec (td Try.f79 26) (spec_SweepArena.s26 x15 (w64 (x17 + 1)) h64_0 h66 h67 h68 h69 h71 h73 h72_0) else none else none else bif decide (0 ≤ x15) then bif decide (x15 < (h69.length : Int)) then bif decide (h71.length + ([(S88.mk h72_0 h73)] : List S88).length ≤ 4398046511104) then rec (td Try.f79 21) (spec_SweepArena.s21 (w64 (x15 + 1)) h64_0 h66 h67 h68 (h69.set x15.toNat (h71.length : Int)) (h71 ++ ([(S88.mk h72_0 h73)] : List S88))) else none else none else none else bif decide (0 ≤ x15) then bif decide (x15 < (h69.length : Int)) then bif decide (h71.length + ([(S88.mk h72_0 h73)] : List S88).length ≤ 4398046511104) then rec (td Try.f79 21) (spec_SweepArena.s21 (w64 (x15 + 1)) h64_0 h66 h67 h68 (h69.set x15.toNat (h71.length : Int)) (h71 ++ ([(S88.mk h72_0 h73)] : List S88))) else none else none else none := by kernel_rfl
set_option maxRecDepth 100000 in
theorem spec_SweepArena.t33 (rec : List Item → St Ty D → R) (k : Nat) (x18 : Int) (h65 : List S88) (h66 : List Int) (h67 : List Int) (h69 : List S88) : spec_SweepArena.g rec k (td Try.f79 33) (spec_SweepArena.s33 x18 h65 h66 h67 h69) =
  bif decide (x18 < (h66.length : Int)) then bif decide (0 ≤ x18) then bif decide (x18 < (h66.length : Int)) then bif decide ((rd_T3 h66 x18) ≥ 0) then bif decide (0 ≤ x18) then bif decide (x18 < (h66.length : Int)) then bif decide (0 ≤ (rd_T3 h66 x18)) then bif decide ((rd_T3 h66 x18) < (h67.length : Int)) then bif decide (0 ≤ x18) then bif decide (x18 < (h66.length : Int)) then rec (td Try.f79 33) (spec_SweepArena.s33 (w64 (x18 + 1)) h65 (h66.set x18.toNat (rd_T3 h67 (rd_T3 h66 x18))) h67 h69) else none else none else none else none else none else none else rec (td Try.f79 33) (spec_SweepArena.s33 (w64 (x18 + 1)) h65 h66 h67 h69) else none else none else some (spec_SweepArena.e (h69, h66)) := by kernel_rfl
set_option maxRecDepth 100000 in
theorem spec_SweepArena.te (rec : List Item → St Ty D → R) (k : Nat) (a0_0 : List S88) (a1 : List Int) : spec_SweepArena.g rec k [.code (body Try.f79)] (startSt [.ag [.row 0 .t88 a0_0], .row 0 .t3 a1] []) =
  bif decide (([] : List Int).length + a1.length ≤ 17592186044416) then (spec_ArenaOk.f k a0_0).bind fun t1 => rec (td Try.f79 4) (spec_SweepArena.s4 a1 t1 0 a0_0 ([] : List S88) (([] : List Int) ++ a1)) else none := by kernel_rfl
set_option maxRecDepth 100000 in
theorem spec_SweepArena.ok : ∀ k : Nat, (∀ (x1 : List Int) (x7 : Bool) (x8 : Int) (h64_0 : List S88) (h66 : List S88) (h67 : List Int), goF Try.f79 spec_SweepArena.ctx spec_SweepArena.sp 0 spec_SweepArena.en k (td Try.f79 4) (spec_SweepArena.s4 x1 x7 x8 h64_0 h66 h67) = (spec_SweepArena.c4 k x1 x7 x8 h64_0 h66 h67).map spec_SweepArena.e) ∧ (∀ (x1 : List Int) (x10 : Int) (h64_0 : List S88) (h66 : List S88) (h67 : List Int) (h68 : List Bool), goF Try.f79 spec_SweepArena.ctx spec_SweepArena.sp 0 spec_SweepArena.en k (td Try.f79 11) (spec_SweepArena.s11 x1 x10 h64_0 h66 h67 h68) = (spec_SweepArena.c11 k x1 x10 h64_0 h66 h67 h68).map spec_SweepArena.e) ∧ (∀ (x1 : List Int) (x10 : Int) (x12 : Int) (h64_0 : List S88) (h66 : List S88) (h67 : List Int) (h68 : List Bool) (h69 : List Bool), goF Try.f79 spec_SweepArena.ctx spec_SweepArena.sp 0 spec_SweepArena.en k (td Try.f79 15) (spec_SweepArena.s15 x1 x10 x12 h64_0 h66 h67 h68 h69) = (spec_SweepArena.c15 k x1 x10 x12 h64_0 h66 h67 h68 h69).map spec_SweepArena.e) ∧ (∀ (x15 : Int) (h64_0 : List S88) (h66 : List S88) (h67 : List Int) (h68 : List Bool) (h69 : List Int) (h71 : List S88), goF Try.f79 spec_SweepArena.ctx spec_SweepArena.sp 0 spec_SweepArena.en k (td Try.f79 21) (spec_SweepArena.s21 x15 h64_0 h66 h67 h68 h69 h71) = (spec_SweepArena.c21 k x15 h64_0 h66 h67 h68 h69 h71).map spec_SweepArena.e) ∧ (∀ (x15 : Int) (x17 : Int) (h64_0 : List S88) (h66 : List S88) (h67 : List Int) (h68 : List Bool) (h69 : List Int) (h71 : List S88) (h73 : List Int) (h72_0 : Bool), goF Try.f79 spec_SweepArena.ctx spec_SweepArena.sp 0 spec_SweepArena.en k (td Try.f79 26) (spec_SweepArena.s26 x15 x17 h64_0 h66 h67 h68 h69 h71 h73 h72_0) = (spec_SweepArena.c26 k x15 x17 h64_0 h66 h67 h68 h69 h71 h73 h72_0).map spec_SweepArena.e) ∧ (∀ (x18 : Int) (h65 : List S88) (h66 : List Int) (h67 : List Int) (h69 : List S88), goF Try.f79 spec_SweepArena.ctx spec_SweepArena.sp 0 spec_SweepArena.en k (td Try.f79 33) (spec_SweepArena.s33 x18 h65 h66 h67 h69) = (spec_SweepArena.c33 k x18 h65 h66 h67 h69).map spec_SweepArena.e)
  | 0 => ⟨fun _ _ _ _ _ _ => rfl, fun _ _ _ _ _ _ => rfl, fun _ _ _ _ _ _ _ _ => rfl, fun _ _ _ _ _ _ _ => rfl, fun _ _ _ _ _ _ _ _ _ _ => rfl, fun _ _ _ _ _ => rfl⟩
  | k + 1 => by
    have ih := spec_SweepArena.ok k
    obtain ⟨i4, i11, i15, i21, i26, i33⟩ := ih
    refine ⟨?_, ?_, ?_, ?_, ?_, ?_⟩
    · intro x1 x7 x8 h64_0 h66 h67; rw [spec_SweepArena.c4]; exact (spec_SweepArena.t4 _ k x1 x7 x8 h64_0 h66 h67).trans (cd (cb (cd (cd (bn (fun t2 => (i4 _ _ _ _ _ _))) rfl) rfl) (nb (bn (fun t3 => rfl)) (sf (cd (cd (i11 _ _ _ _ _ _) rfl) rfl)))) (nb (bn (fun t4 => rfl)) (sf (cd (cd (i11 _ _ _ _ _ _) rfl) rfl))))
    · intro x1 x10 h64_0 h66 h67 h68; rw [spec_SweepArena.c11]; exact (spec_SweepArena.t11 _ k x1 x10 h64_0 h66 h67 h68).trans (cd (cd (cd (bn (fun t5 => (i15 _ _ _ _ _ _ _ _))) rfl) rfl) (sf (cd (cd (i21 _ _ _ _ _ _ _) rfl) rfl)))
    · intro x1 x10 x12 h64_0 h66 h67 h68 h69; rw [spec_SweepArena.c15]; exact (spec_SweepArena.t15 _ k x1 x10 x12 h64_0 h66 h67 h68 h69).trans (cd (cd (cd (cb (cd (cd (i15 _ _ _ _ _ _ _ _) rfl) rfl) (cd (cd (cd (cd (i15 _ _ _ _ _ _ _ _) rfl) rfl) rfl) rfl)) rfl) rfl) (i11 _ _ _ _ _ _))
    · intro x15 h64_0 h66 h67 h68 h69 h71; rw [spec_SweepArena.c21]; exact (spec_SweepArena.t21 _ k x15 h64_0 h66 h67 h68 h69 h71).trans (cd (cd (cd (nb (i21 _ _ _ _ _ _ _) (cd (cd (cd (cd (cd (i26 _ _ _ _ _ _ _ _ _ _) rfl) rfl) rfl) rfl) rfl)) rfl) rfl) (i33 _ _ _ _ _))
    · intro x15 x17 h64_0 h66 h67 h68 h69 h71 h73 h72_0; rw [spec_SweepArena.c26]; exact (spec_SweepArena.t26 _ k x15 x17 h64_0 h66 h67 h68 h69 h71 h73 h72_0).trans (cd (nb (cd (cd (cd (cd (cd (cd (cd (cd (cd (i26 _ _ _ _ _ _ _ _ _ _) rfl) rfl) rfl) rfl) rfl) rfl) (i26 _ _ _ _ _ _ _ _ _ _)) rfl) rfl) (cd (cd (cd (i21 _ _ _ _ _ _ _) rfl) rfl) rfl)) (cd (cd (cd (i21 _ _ _ _ _ _ _) rfl) rfl) rfl))
    · intro x18 h65 h66 h67 h69; rw [spec_SweepArena.c33]; exact (spec_SweepArena.t33 _ k x18 h65 h66 h67 h69).trans (cd (cd (cd (cd (cd (cd (cd (cd (cd (cd (i33 _ _ _ _ _) rfl) rfl) rfl) rfl) rfl) rfl) (i33 _ _ _ _ _)) rfl) rfl) rfl)
set_option maxRecDepth 100000 in
theorem spec_SweepArena.oke (k : Nat) (a0_0 : List S88) (a1 : List Int) : goF Try.f79 spec_SweepArena.ctx spec_SweepArena.sp 0 spec_SweepArena.en (k + 1) [.code (body Try.f79)] (startSt [.ag [.row 0 .t88 a0_0], .row 0 .t3 a1] []) = (spec_SweepArena.f k a0_0 a1).map spec_SweepArena.e := by
  obtain ⟨i4, i11, i15, i21, i26, i33⟩ := spec_SweepArena.ok k
  rw [spec_SweepArena.f]; exact (spec_SweepArena.te _ k a0_0 a1).trans (cd (bn (fun t1 => (i4 _ _ _ _ _ _))) rfl)
theorem spec_SweepArena.con (k : Nat) (a0_0 : List S88) (a1 : List Int) (r) (h : spec_SweepArena.f k a0_0 a1 = some r) : Contract Try.prog kit 79 [.ag [.row 0 .t88 a0_0], .row 0 .t3 a1] [] (spec_SweepArena.e r).1 (spec_SweepArena.e r).2.1 (spec_SweepArena.e r).2.2 :=
  con_okG kitOk mix (fun k => (CtxOk.cons (spec_ArenaOk.xok k) (CtxOk.cons (spec_l11Root.xok k) (CtxOk.cons (spec_l11Copy.xok k) (CtxOk.cons (spec_l11Has.xok k) CtxOk.nil))))) (spec_SweepArena.oke k a0_0 a1) h (by kernel_rfl) (by kernel_rfl) (by kernel_rfl) rfl (by kernel_rfl) rfl rfl
noncomputable def spec_SweepArena.x (k : Nat) : X := fun ins bs κ => match ins, bs with
  | [.ag [.row 0 .t88 a0_0], .row 0 .t3 a1], [] => (spec_SweepArena.f k a0_0 a1).bind fun r => κ (spec_SweepArena.e r).1 (spec_SweepArena.e r).2.1 (spec_SweepArena.e r).2.2
  | _, _ => none
theorem spec_SweepArena.xok (k : Nat) : XOk 79 (spec_SweepArena.x k) := by
  intro ins bs κ res h
  unfold spec_SweepArena.x at h
  split at h
  · obtain ⟨r, hr, h⟩ := Option.bind_eq_some_iff.1 h
    exact ⟨_, _, _, spec_SweepArena.con k _ _ r hr, h⟩
  · cases h

/-! ### spec_l12Roots: function 80 -/
noncomputable def spec_l12Roots.sp : Nat → Option (Spec Ty) := fun r => bif Nat.beq r 3 then some ⟨[(1, .box [.keep, .keep, .keep]), (3, .own .t3), (4, .keep)], []⟩ else none
noncomputable def spec_l12Roots.en : Option (Spec Ty) := some ⟨[(2, .own .t3)], []⟩
noncomputable def spec_l12Roots.s3 (x4 : Int) (h64_0 : List S53) (h64_1 : List S88) (h64_2 : Int) (h65 : List Int) : St Ty D := ⟨(Env.put (Env.put (Env.put E (some 1) (.pt 64 0 0)) (some 3) (.sl 65 none)) (some 4) (.sc (.int .i64 x4))), Heap.put H0 [(64, some (.box [.row 0 .t53 h64_0, .row 0 .t88 h64_1, .sc (.int .i64 h64_2)])), (65, some (.rowb .t3 h65 0))], 1000⟩
noncomputable def spec_l12Roots.ctx (k : Nat) : Ctx Ty D := (fun _ _ _ _ => none)
noncomputable def spec_l12Roots.c3 : Nat → Int → (List S53) → (List S88) → Int → (List Int) → Option ((List Int))
  | 0, _, _, _, _, _ => none
  | k + 1, x4, h64_0, h64_1, h64_2, h65 => (if x4 < (h64_0.length : Int) then (if 0 ≤ x4 then (if x4 < (h64_0.length : Int) then (if h65.length + ([(rd_T53 h64_0 x4).f1] : List Int).length ≤ 17592186044416 then (spec_l12Roots.c3 k (w64 (x4 + 1)) h64_0 h64_1 h64_2 (h65 ++ ([(rd_T53 h64_0 x4).f1] : List Int))) else none) else none) else none) else (some (h65)))
noncomputable def spec_l12Roots.f (k : Nat) (a0_0 : List S53) (a0_1 : List S88) (a0_2 : Int) : Option ((List Int)) := (spec_l12Roots.c3 k 0 a0_0 a0_1 a0_2 ([] : List Int))
noncomputable def spec_l12Roots.e (r : (List Int)) : Res Ty D := (.sl 0 none, [], [.rowb .t3 r 0])
noncomputable abbrev spec_l12Roots.g (rec : List Item → St Ty D → R) (k : Nat) := go1 Try.f80 (spec_l12Roots.ctx k) spec_l12Roots.sp 0 spec_l12Roots.en rec
set_option maxRecDepth 100000 in
theorem spec_l12Roots.t3 (rec : List Item → St Ty D → R) (k : Nat) (x4 : Int) (h64_0 : List S53) (h64_1 : List S88) (h64_2 : Int) (h65 : List Int) : spec_l12Roots.g rec k (td Try.f80 3) (spec_l12Roots.s3 x4 h64_0 h64_1 h64_2 h65) =
  bif decide (x4 < (h64_0.length : Int)) then bif decide (0 ≤ x4) then bif decide (x4 < (h64_0.length : Int)) then bif decide (h65.length + ([(rd_T53 h64_0 x4).f1] : List Int).length ≤ 17592186044416) then rec (td Try.f80 3) (spec_l12Roots.s3 (w64 (x4 + 1)) h64_0 h64_1 h64_2 (h65 ++ ([(rd_T53 h64_0 x4).f1] : List Int))) else none else none else none else some (spec_l12Roots.e (h65)) := by kernel_rfl
set_option maxRecDepth 100000 in
theorem spec_l12Roots.te (rec : List Item → St Ty D → R) (k : Nat) (a0_0 : List S53) (a0_1 : List S88) (a0_2 : Int) : spec_l12Roots.g rec k [.code (body Try.f80)] (startSt [.ag [.row 0 .t53 a0_0, .row 0 .t88 a0_1, .sc (.int .i64 a0_2)]] []) =
  rec (td Try.f80 3) (spec_l12Roots.s3 0 a0_0 a0_1 a0_2 ([] : List Int)) := by kernel_rfl
set_option maxRecDepth 100000 in
theorem spec_l12Roots.ok : ∀ k : Nat, (∀ (x4 : Int) (h64_0 : List S53) (h64_1 : List S88) (h64_2 : Int) (h65 : List Int), goF Try.f80 spec_l12Roots.ctx spec_l12Roots.sp 0 spec_l12Roots.en k (td Try.f80 3) (spec_l12Roots.s3 x4 h64_0 h64_1 h64_2 h65) = (spec_l12Roots.c3 k x4 h64_0 h64_1 h64_2 h65).map spec_l12Roots.e)
  | 0 => fun _ _ _ _ _ => rfl
  | k + 1 => by
    have ih := spec_l12Roots.ok k
    have i3 := ih
    intro x4 h64_0 h64_1 h64_2 h65; rw [spec_l12Roots.c3]; exact (spec_l12Roots.t3 _ k x4 h64_0 h64_1 h64_2 h65).trans (cd (cd (cd (cd (i3 _ _ _ _ _) rfl) rfl) rfl) rfl)
set_option maxRecDepth 100000 in
theorem spec_l12Roots.oke (k : Nat) (a0_0 : List S53) (a0_1 : List S88) (a0_2 : Int) : goF Try.f80 spec_l12Roots.ctx spec_l12Roots.sp 0 spec_l12Roots.en (k + 1) [.code (body Try.f80)] (startSt [.ag [.row 0 .t53 a0_0, .row 0 .t88 a0_1, .sc (.int .i64 a0_2)]] []) = (spec_l12Roots.f k a0_0 a0_1 a0_2).map spec_l12Roots.e := by
  have i3 := spec_l12Roots.ok k
  rw [spec_l12Roots.f]; exact (spec_l12Roots.te _ k a0_0 a0_1 a0_2).trans (i3 _ _ _ _ _)
theorem spec_l12Roots.con (k : Nat) (a0_0 : List S53) (a0_1 : List S88) (a0_2 : Int) (r) (h : spec_l12Roots.f k a0_0 a0_1 a0_2 = some r) : Contract Try.prog kit 80 [.ag [.row 0 .t53 a0_0, .row 0 .t88 a0_1, .sc (.int .i64 a0_2)]] [] (spec_l12Roots.e r).1 (spec_l12Roots.e r).2.1 (spec_l12Roots.e r).2.2 :=
  con_okG kitOk mix (fun k => CtxOk.nil) (spec_l12Roots.oke k a0_0 a0_1 a0_2) h (by kernel_rfl) (by kernel_rfl) (by kernel_rfl) rfl (by kernel_rfl) rfl rfl
noncomputable def spec_l12Roots.x (k : Nat) : X := fun ins bs κ => match ins, bs with
  | [.ag [.row 0 .t53 a0_0, .row 0 .t88 a0_1, .sc (.int .i64 a0_2)]], [] => (spec_l12Roots.f k a0_0 a0_1 a0_2).bind fun r => κ (spec_l12Roots.e r).1 (spec_l12Roots.e r).2.1 (spec_l12Roots.e r).2.2
  | _, _ => none
theorem spec_l12Roots.xok (k : Nat) : XOk 80 (spec_l12Roots.x k) := by
  intro ins bs κ res h
  unfold spec_l12Roots.x at h
  split at h
  · obtain ⟨r, hr, h⟩ := Option.bind_eq_some_iff.1 h
    exact ⟨_, _, _, spec_l12Roots.con k _ _ _ r hr, h⟩
  · cases h

/-! ### spec_StoreOk: function 36 -/
noncomputable def spec_StoreOk.sp : Nat → Option (Spec Ty) := fun r => bif Nat.beq r 4 then some ⟨[(1, .box [.own .t53, .own .t88, .keep]), (3, .keep)], [(1, none), (0, none)]⟩ else bif Nat.beq r 10 then some ⟨[(1, .box [.own .t53, .own .t88, .keep]), (3, .keep), (4, .box [.keep, .keep]), (5, .keep), (41, .keep), (42, .keep), (43, .keep), (54, .keep), (57, .box [.own .t53, .own .t88, .keep]), (58, .ag [.own .t88]), (59, .box [.keep, .keep]), (60, .keep), (61, .keep), (62, .keep)], [(1, none), (0, none)]⟩ else none
noncomputable def spec_StoreOk.en : Option (Spec Ty) := none
noncomputable def spec_StoreOk.s4 (x3 : Int) (h1 : List S88) (h0 : List S53) (h64_2 : Int) : St Ty D := ⟨(Env.put (Env.put E (some 1) (.pt 64 0 0)) (some 3) (.sc (.int .i64 x3))), Heap.put H0 [(1, some (.rowb .t88 h1 0)), (0, some (.rowb .t53 h0 0)), (64, some (.box [.sl 0 none, .sl 1 none, .sc (.int .i64 h64_2)]))], 1000⟩
noncomputable def spec_StoreOk.s10 (x3 : Int) (x5 : Int) (x41 : Int) (x42 : Bool) (x43 : Bool) (x54 : Bool) (x60 : Int) (x61 : Bool) (x62 : Bool) (h1 : List S88) (h0 : List S53) (h64_2 : Int) (h65_0 : Int) (h65_1 : Int) : St Ty D := ⟨(Env.put (Env.put (Env.put (Env.put (Env.put (Env.put (Env.put (Env.put (Env.put (Env.put (Env.put (Env.put (Env.put (Env.put E (some 1) (.pt 64 0 0)) (some 3) (.sc (.int .i64 x3))) (some 4) (.pt 65 0 0)) (some 5) (.sc (.int .i64 x5))) (some 41) (.sc (.int .i64 x41))) (some 42) (.sc (.bool x42))) (some 43) (.sc (.bool x43))) (some 54) (.sc (.bool x54))) (some 57) (.pt 64 0 1)) (some 58) (.ag [.sl 1 none])) (some 59) (.pt 65 0 1)) (some 60) (.sc (.int .i64 x60))) (some 61) (.sc (.bool x61))) (some 62) (.sc (.bool x62))), Heap.put H0 [(1, some (.rowb .t88 h1 0)), (0, some (.rowb .t53 h0 0)), (64, some (.box [.sl 0 none, .sl 1 none, .sc (.int .i64 h64_2)])), (65, some (.box [.sc (.int .i64 h65_0), .sc (.int .i64 h65_1)]))], 1000⟩
noncomputable def spec_StoreOk.ctx (k : Nat) : Ctx Ty D := (cons 75 (spec_ArenaOk.x k) (cons 76 (spec_l01In.x k) (cons 77 (spec_l11Root.x k) (cons 78 (spec_l11Get.x k) (cons 79 (spec_SweepArena.x k) (cons 80 (spec_l12Roots.x k) (fun _ _ _ _ => none)))))))
mutual
noncomputable def spec_StoreOk.c4 : Nat → Int → (List S88) → (List S53) → Int → Option (Bool × (List S53) × (List S88))
  | 0, _, _, _, _ => none
  | k + 1, x3, h1, h0, h64_2 => (if x3 < (h0.length : Int) then (if 0 ≤ x3 then (if x3 < (h0.length : Int) then ((spec_l01In.f k ((rd_T53 h0 x3).f0) 1 9).bind fun t3 => (if t3 = true then (if x3 > 0 then (if 0 ≤ (w64 (x3 - 1)) then (if (w64 (x3 - 1)) < (h0.length : Int) then (if ((rd_T53 h0 (w64 (x3 - 1))).f0) ≥ ((rd_T53 h0 x3).f0) then (some (false, h0, h1)) else ((spec_l11Root.f k h1 ((rd_T53 h0 x3).f1)).bind fun t4 => (if t4 = true then (spec_StoreOk.c10 k x3 0 x3 (decide (x3 > 0)) true (decide (((rd_T53 h0 (w64 (x3 - 1))).f0) ≥ ((rd_T53 h0 x3).f0))) ((rd_T53 h0 x3).f1) t4 (!t4) h1 h0 h64_2 ((rd_T53 h0 x3).f0) ((rd_T53 h0 x3).f1)) else (some (false, h0, h1))))) else none) else none) else ((spec_l11Root.f k h1 ((rd_T53 h0 x3).f1)).bind fun t5 => (if t5 = true then (spec_StoreOk.c10 k x3 0 x3 (decide (x3 > 0)) false false ((rd_T53 h0 x3).f1) t5 (!t5) h1 h0 h64_2 ((rd_T53 h0 x3).f0) ((rd_T53 h0 x3).f1)) else (some (false, h0, h1))))) else (some (false, h0, h1)))) else none) else none) else ((spec_l12Roots.f k h0 h1 h64_2).bind fun t6 => ((spec_SweepArena.f k h1 t6).bind fun t7 => (some ((decide ((t7.1.length : Int) = (h1.length : Int))), h0, h1)))))
noncomputable def spec_StoreOk.c10 : Nat → Int → Int → Int → Bool → Bool → Bool → Int → Bool → Bool → (List S88) → (List S53) → Int → Int → Int → Option (Bool × (List S53) × (List S88))
  | 0, _, _, _, _, _, _, _, _, _, _, _, _, _, _ => none
  | k + 1, x3, x5, x41, x42, x43, x54, x60, x61, x62, h1, h0, h64_2, h65_0, h65_1 => (if x5 < 16 then ((spec_l11Get.f k h1 h65_1 x5).bind fun t8 => (if t8 ≥ h64_2 then (some (false, h0, h1)) else (spec_StoreOk.c10 k x3 (w64 (x5 + 1)) x41 x42 x43 x54 x60 x61 x62 h1 h0 h64_2 h65_0 h65_1))) else (spec_StoreOk.c4 k (w64 (x3 + 1)) h1 h0 h64_2))
end
noncomputable def spec_StoreOk.f (k : Nat) (a0_2 : Int) (a0_0 : List S53) (a0_1 : List S88) : Option (Bool × (List S53) × (List S88)) := (if (a0_0.length : Int) > 3 then (some (false, a0_0, a0_1)) else ((spec_ArenaOk.f k a0_1).bind fun t1 => (if t1 = true then ((spec_l01In.f k a0_2 1 1000000000).bind fun t2 => (if t2 = true then (spec_StoreOk.c4 k 0 a0_1 a0_0 a0_2) else (some (false, a0_0, a0_1)))) else (some (false, a0_0, a0_1)))))
noncomputable def spec_StoreOk.e (r : Bool × (List S53) × (List S88)) : Res Ty D := (.sc (.bool r.1), [some (.rowb .t53 r.2.1 0), some (.rowb .t88 r.2.2 0)], [])
noncomputable abbrev spec_StoreOk.g (rec : List Item → St Ty D → R) (k : Nat) := go1 Try.f36 (spec_StoreOk.ctx k) spec_StoreOk.sp 2 spec_StoreOk.en rec
set_option maxRecDepth 100000 in
theorem spec_StoreOk.t4 (rec : List Item → St Ty D → R) (k : Nat) (x3 : Int) (h1 : List S88) (h0 : List S53) (h64_2 : Int) : spec_StoreOk.g rec k (td Try.f36 4) (spec_StoreOk.s4 x3 h1 h0 h64_2) =
  bif decide (x3 < (h0.length : Int)) then bif decide (0 ≤ x3) then bif decide (x3 < (h0.length : Int)) then (spec_l01In.f k ((rd_T53 h0 x3).f0) 1 9).bind fun t3 => bif !t3 then some (spec_StoreOk.e (false, h0, h1)) else bif decide (x3 > 0) then bif decide (0 ≤ (w64 (x3 - 1))) then bif decide ((w64 (x3 - 1)) < (h0.length : Int)) then bif decide (((rd_T53 h0 (w64 (x3 - 1))).f0) ≥ ((rd_T53 h0 x3).f0)) then some (spec_StoreOk.e (false, h0, h1)) else (spec_l11Root.f k h1 ((rd_T53 h0 x3).f1)).bind fun t4 => bif !t4 then some (spec_StoreOk.e (false, h0, h1)) else rec (td Try.f36 10) (spec_StoreOk.s10 x3 0 x3 (decide (x3 > 0)) true (decide (((rd_T53 h0 (w64 (x3 - 1))).f0) ≥ ((rd_T53 h0 x3).f0))) ((rd_T53 h0 x3).f1) t4 (!t4) h1 h0 h64_2 ((rd_T53 h0 x3).f0) ((rd_T53 h0 x3).f1)) else none else none else (spec_l11Root.f k h1 ((rd_T53 h0 x3).f1)).bind fun t5 => bif !t5 then some (spec_StoreOk.e (false, h0, h1)) else rec (td Try.f36 10) (spec_StoreOk.s10 x3 0 x3 (decide (x3 > 0)) false false ((rd_T53 h0 x3).f1) t5 (!t5) h1 h0 h64_2 ((rd_T53 h0 x3).f0) ((rd_T53 h0 x3).f1)) else none else none else (spec_l12Roots.f k h0 h1 h64_2).bind fun t6 => (spec_SweepArena.f k h1 t6).bind fun t7 => some (spec_StoreOk.e ((decide ((t7.1.length : Int) = (h1.length : Int))), h0, h1)) := by kernel_rfl
set_option maxRecDepth 100000 in
theorem spec_StoreOk.t10 (rec : List Item → St Ty D → R) (k : Nat) (x3 : Int) (x5 : Int) (x41 : Int) (x42 : Bool) (x43 : Bool) (x54 : Bool) (x60 : Int) (x61 : Bool) (x62 : Bool) (h1 : List S88) (h0 : List S53) (h64_2 : Int) (h65_0 : Int) (h65_1 : Int) : spec_StoreOk.g rec k (td Try.f36 10) (spec_StoreOk.s10 x3 x5 x41 x42 x43 x54 x60 x61 x62 h1 h0 h64_2 h65_0 h65_1) =
  bif decide (x5 < 16) then (spec_l11Get.f k h1 h65_1 x5).bind fun t8 => bif decide (t8 ≥ h64_2) then some (spec_StoreOk.e (false, h0, h1)) else rec (td Try.f36 10) (spec_StoreOk.s10 x3 (w64 (x5 + 1)) x41 x42 x43 x54 x60 x61 x62 h1 h0 h64_2 h65_0 h65_1) else rec (td Try.f36 4) (spec_StoreOk.s4 (w64 (x3 + 1)) h1 h0 h64_2) := by kernel_rfl
set_option maxRecDepth 100000 in
theorem spec_StoreOk.te (rec : List Item → St Ty D → R) (k : Nat) (a0_2 : Int) (a0_0 : List S53) (a0_1 : List S88) : spec_StoreOk.g rec k [.code (body Try.f36)] (startSt [.ag [.sl 0 none, .sl 1 none, .sc (.int .i64 a0_2)]] [.rowb .t53 a0_0 0, .rowb .t88 a0_1 0]) =
  bif decide ((a0_0.length : Int) > 3) then some (spec_StoreOk.e (false, a0_0, a0_1)) else (spec_ArenaOk.f k a0_1).bind fun t1 => bif !t1 then some (spec_StoreOk.e (false, a0_0, a0_1)) else (spec_l01In.f k a0_2 1 1000000000).bind fun t2 => bif !t2 then some (spec_StoreOk.e (false, a0_0, a0_1)) else rec (td Try.f36 4) (spec_StoreOk.s4 0 a0_1 a0_0 a0_2) := by kernel_rfl
set_option maxRecDepth 100000 in
theorem spec_StoreOk.ok : ∀ k : Nat, (∀ (x3 : Int) (h1 : List S88) (h0 : List S53) (h64_2 : Int), goF Try.f36 spec_StoreOk.ctx spec_StoreOk.sp 2 spec_StoreOk.en k (td Try.f36 4) (spec_StoreOk.s4 x3 h1 h0 h64_2) = (spec_StoreOk.c4 k x3 h1 h0 h64_2).map spec_StoreOk.e) ∧ (∀ (x3 : Int) (x5 : Int) (x41 : Int) (x42 : Bool) (x43 : Bool) (x54 : Bool) (x60 : Int) (x61 : Bool) (x62 : Bool) (h1 : List S88) (h0 : List S53) (h64_2 : Int) (h65_0 : Int) (h65_1 : Int), goF Try.f36 spec_StoreOk.ctx spec_StoreOk.sp 2 spec_StoreOk.en k (td Try.f36 10) (spec_StoreOk.s10 x3 x5 x41 x42 x43 x54 x60 x61 x62 h1 h0 h64_2 h65_0 h65_1) = (spec_StoreOk.c10 k x3 x5 x41 x42 x43 x54 x60 x61 x62 h1 h0 h64_2 h65_0 h65_1).map spec_StoreOk.e)
  | 0 => ⟨fun _ _ _ _ => rfl, fun _ _ _ _ _ _ _ _ _ _ _ _ _ _ => rfl⟩
  | k + 1 => by
    have ih := spec_StoreOk.ok k
    obtain ⟨i4, i10⟩ := ih
    refine ⟨?_, ?_⟩
    · intro x3 h1 h0 h64_2; rw [spec_StoreOk.c4]; exact (spec_StoreOk.t4 _ k x3 h1 h0 h64_2).trans (cd (cd (cd (bn (fun t3 => (nb rfl (cd (cd (cd (cd rfl (bn (fun t4 => (nb rfl (i10 _ _ _ _ _ _ _ _ _ _ _ _ _ _))))) rfl) rfl) (bn (fun t5 => (nb rfl (i10 _ _ _ _ _ _ _ _ _ _ _ _ _ _)))))))) rfl) rfl) (bn (fun t6 => (bn (fun t7 => rfl)))))
    · intro x3 x5 x41 x42 x43 x54 x60 x61 x62 h1 h0 h64_2 h65_0 h65_1; rw [spec_StoreOk.c10]; exact (spec_StoreOk.t10 _ k x3 x5 x41 x42 x43 x54 x60 x61 x62 h1 h0 h64_2 h65_0 h65_1).trans (cd (bn (fun t8 => (cd rfl (i10 _ _ _ _ _ _ _ _ _ _ _ _ _ _)))) (i4 _ _ _ _))
set_option maxRecDepth 100000 in
theorem spec_StoreOk.oke (k : Nat) (a0_2 : Int) (a0_0 : List S53) (a0_1 : List S88) : goF Try.f36 spec_StoreOk.ctx spec_StoreOk.sp 2 spec_StoreOk.en (k + 1) [.code (body Try.f36)] (startSt [.ag [.sl 0 none, .sl 1 none, .sc (.int .i64 a0_2)]] [.rowb .t53 a0_0 0, .rowb .t88 a0_1 0]) = (spec_StoreOk.f k a0_2 a0_0 a0_1).map spec_StoreOk.e := by
  obtain ⟨i4, i10⟩ := spec_StoreOk.ok k
  rw [spec_StoreOk.f]; exact (spec_StoreOk.te _ k a0_2 a0_0 a0_1).trans (cd rfl (bn (fun t1 => (nb rfl (bn (fun t2 => (nb rfl (i4 _ _ _ _))))))))
theorem spec_StoreOk.con (k : Nat) (a0_2 : Int) (a0_0 : List S53) (a0_1 : List S88) (r) (h : spec_StoreOk.f k a0_2 a0_0 a0_1 = some r) : Contract Try.prog kit 36 [.ag [.sl 0 none, .sl 1 none, .sc (.int .i64 a0_2)]] [.rowb .t53 a0_0 0, .rowb .t88 a0_1 0] (spec_StoreOk.e r).1 (spec_StoreOk.e r).2.1 (spec_StoreOk.e r).2.2 :=
  con_okG kitOk mix (fun k => (CtxOk.cons (spec_ArenaOk.xok k) (CtxOk.cons (spec_l01In.xok k) (CtxOk.cons (spec_l11Root.xok k) (CtxOk.cons (spec_l11Get.xok k) (CtxOk.cons (spec_SweepArena.xok k) (CtxOk.cons (spec_l12Roots.xok k) CtxOk.nil))))))) (spec_StoreOk.oke k a0_2 a0_0 a0_1) h (by kernel_rfl) (by kernel_rfl) (by kernel_rfl) rfl (by kernel_rfl) rfl rfl
noncomputable def spec_StoreOk.x (k : Nat) : X := fun ins bs κ => match ins, bs with
  | [.ag [.sl 0 none, .sl 1 none, .sc (.int .i64 a0_2)]], [.rowb .t53 a0_0 0, .rowb .t88 a0_1 0] => (spec_StoreOk.f k a0_2 a0_0 a0_1).bind fun r => κ (spec_StoreOk.e r).1 (spec_StoreOk.e r).2.1 (spec_StoreOk.e r).2.2
  | _, _ => none
theorem spec_StoreOk.xok (k : Nat) : XOk 36 (spec_StoreOk.x k) := by
  intro ins bs κ res h
  unfold spec_StoreOk.x at h
  split at h
  · obtain ⟨r, hr, h⟩ := Option.bind_eq_some_iff.1 h
    exact ⟨_, _, _, spec_StoreOk.con k _ _ _ r hr, h⟩
  · cases h
end Go.Proofs.Yteideicglgpfiaa.M2

/- Plain runs of functions: each is a plain Lean function, and keeps its contract. Written by a program of this session. -/
namespace Go.Proofs.Yteideicglgpfiaa.M2
open Go Go.Proofs.Yteideicglgpfiaa.PK
set_option linter.unusedVariables false
set_option linter.unusedSimpArgs false
set_option maxHeartbeats 4000000
/-! ### spec_RecOk: function 37 -/
noncomputable def spec_RecOk.sp : Nat → Option (Spec Ty) := fun r => none
noncomputable def spec_RecOk.en : Option (Spec Ty) := none
noncomputable def spec_RecOk.ctx (k : Nat) : Ctx Ty D := (cons 76 (spec_l01In.x k) (fun _ _ _ _ => none))
noncomputable def spec_RecOk.f (k : Nat) (a0_0 : Int) (a0_1 : Int) (a0_2 : Int) (a0_3 : Int) : Option (Bool) := ((spec_l01In.f k a0_2 0 1000000000).bind fun t1 => (if t1 = true then (if a0_0 = 1 then (if a0_1 = 0 then (some ((decide (a0_3 = 0)))) else (some (false))) else ((spec_l01In.f k a0_0 2 5).bind fun t2 => (if t2 = true then ((spec_l01In.f k a0_1 1 9).bind fun t3 => (if t3 = true then (if a0_0 = 4 then (if a0_0 = 2 then (some ((decide (a0_2 ≤ 9)))) else (if a0_0 = 3 then (some ((decide (a0_2 = 0)))) else (if a0_0 = 4 then (if a0_2 < 16 then ((spec_l01In.f k a0_3 1 1000000000).bind fun t5 => (some (t5))) else (some (false))) else (some ((decide (a0_2 < 16))))))) else (if a0_3 = 0 then (if a0_0 = 2 then (some ((decide (a0_2 ≤ 9)))) else (if a0_0 = 3 then (some ((decide (a0_2 = 0)))) else (if a0_0 = 4 then (if a0_2 < 16 then ((spec_l01In.f k a0_3 1 1000000000).bind fun t4 => (some (t4))) else (some (false))) else (some ((decide (a0_2 < 16))))))) else (some (false)))) else (some (false)))) else (some (false))))) else (some (false))))
noncomputable def spec_RecOk.e (r : Bool) : Res Ty D := (.sc (.bool r), [], [])
noncomputable abbrev spec_RecOk.g (rec : List Item → St Ty D → R) (k : Nat) := go1 Try.f37 (spec_RecOk.ctx k) spec_RecOk.sp 0 spec_RecOk.en rec
set_option maxRecDepth 100000 in
theorem spec_RecOk.te (rec : List Item → St Ty D → R) (k : Nat) (a0_0 : Int) (a0_1 : Int) (a0_2 : Int) (a0_3 : Int) : spec_RecOk.g rec k [.code (body Try.f37)] (startSt [.ag [.sc (.int .i64 a0_0), .sc (.int .i64 a0_1), .sc (.int .i64 a0_2), .sc (.int .i64 a0_3)]] []) =
  (spec_l01In.f k a0_2 0 1000000000).bind fun t1 => bif !t1 then some (spec_RecOk.e (false)) else bif decide (a0_0 = 1) then bif decide (a0_1 = 0) then some (spec_RecOk.e ((decide (a0_3 = 0)))) else some (spec_RecOk.e (false)) else (spec_l01In.f k a0_0 2 5).bind fun t2 => bif !t2 then some (spec_RecOk.e (false)) else (spec_l01In.f k a0_1 1 9).bind fun t3 => bif !t3 then some (spec_RecOk.e (false)) else bif !decide (a0_0 = 4) then bif !decide (a0_3 = 0) then some (spec_RecOk.e (false)) else bif decide (a0_0 = 2) then some (spec_RecOk.e ((decide (a0_2 ≤ 9)))) else bif decide (a0_0 = 3) then some (spec_RecOk.e ((decide (a0_2 = 0)))) else bif decide (a0_0 = 4) then bif decide (a0_2 < 16) then (spec_l01In.f k a0_3 1 1000000000).bind fun t4 => some (spec_RecOk.e (t4)) else some (spec_RecOk.e (false)) else some (spec_RecOk.e ((decide (a0_2 < 16)))) else bif decide (a0_0 = 2) then some (spec_RecOk.e ((decide (a0_2 ≤ 9)))) else bif decide (a0_0 = 3) then some (spec_RecOk.e ((decide (a0_2 = 0)))) else bif decide (a0_0 = 4) then bif decide (a0_2 < 16) then (spec_l01In.f k a0_3 1 1000000000).bind fun t5 => some (spec_RecOk.e (t5)) else some (spec_RecOk.e (false)) else some (spec_RecOk.e ((decide (a0_2 < 16)))) := by kernel_rfl
set_option maxRecDepth 100000 in
theorem spec_RecOk.oke (k : Nat) (a0_0 : Int) (a0_1 : Int) (a0_2 : Int) (a0_3 : Int) : goF Try.f37 spec_RecOk.ctx spec_RecOk.sp 0 spec_RecOk.en (k + 1) [.code (body Try.f37)] (startSt [.ag [.sc (.int .i64 a0_0), .sc (.int .i64 a0_1), .sc (.int .i64 a0_2), .sc (.int .i64 a0_3)]] []) = (spec_RecOk.f k a0_0 a0_1 a0_2 a0_3).map spec_RecOk.e := by
  rw [spec_RecOk.f]; exact (spec_RecOk.te _ k a0_0 a0_1 a0_2 a0_3).trans (bn (fun t1 => (nb rfl (cd (cd rfl rfl) (bn (fun t2 => (nb rfl (bn (fun t3 => (nb rfl (nd (nd rfl (cd rfl (cd rfl (cd (cd (bn (fun t4 => rfl)) rfl) rfl)))) (cd rfl (cd rfl (cd (cd (bn (fun t5 => rfl)) rfl) rfl))))))))))))))
theorem spec_RecOk.con (k : Nat) (a0_0 : Int) (a0_1 : Int) (a0_2 : Int) (a0_3 : Int) (r) (h : spec_RecOk.f k a0_0 a0_1 a0_2 a0_3 = some r) : Contract Try.prog kit 37 [.ag [.sc (.int .i64 a0_0), .sc (.int .i64 a0_1), .sc (.int .i64 a0_2), .sc (.int .i64 a0_3)]] [] (spec_RecOk.e r).1 (spec_RecOk.e r).2.1 (spec_RecOk.e r).2.2 :=
  con_okG kitOk mix (fun k => (CtxOk.cons (spec_l01In.xok k) CtxOk.nil)) (spec_RecOk.oke k a0_0 a0_1 a0_2 a0_3) h (by kernel_rfl) (by kernel_rfl) (by kernel_rfl) rfl (by kernel_rfl) rfl rfl
noncomputable def spec_RecOk.x (k : Nat) : X := fun ins bs κ => match ins, bs with
  | [.ag [.sc (.int .i64 a0_0), .sc (.int .i64 a0_1), .sc (.int .i64 a0_2), .sc (.int .i64 a0_3)]], [] => (spec_RecOk.f k a0_0 a0_1 a0_2 a0_3).bind fun r => κ (spec_RecOk.e r).1 (spec_RecOk.e r).2.1 (spec_RecOk.e r).2.2
  | _, _ => none
theorem spec_RecOk.xok (k : Nat) : XOk 37 (spec_RecOk.x k) := by
  intro ins bs κ res h
  unfold spec_RecOk.x at h
  split at h
  · obtain ⟨r, hr, h⟩ := Option.bind_eq_some_iff.1 h
    exact ⟨_, _, _, spec_RecOk.con k _ _ _ _ r hr, h⟩
  · cases h

/-! ### spec_l12Copy: function 38 -/
noncomputable def spec_l12Copy.sp : Nat → Option (Spec Ty) := fun r => none
noncomputable def spec_l12Copy.en : Option (Spec Ty) := some ⟨[(2, .box [.own .t53, .own .t88, .keep])], []⟩
noncomputable def spec_l12Copy.ctx (k : Nat) : Ctx Ty D := (cons 81 (spec_l11Copy.x k) (fun _ _ _ _ => none))
noncomputable def spec_l12Copy.f (k : Nat) (a0_0 : List S53) (a0_1 : List S88) (a0_2 : Int) : Option ((List S53) × (List S88) × Int) := (if ([] : List S53).length + a0_0.length ≤ 8796093022208 then ((spec_l11Copy.f k a0_1).bind fun t1 => (some ((([] : List S53) ++ a0_0), t1, a0_2))) else none)
noncomputable def spec_l12Copy.e (r : (List S53) × (List S88) × Int) : Res Ty D := (.ag [.sl 0 none, .sl 1 none, .sc (.int .i64 r.2.2)], [], [.rowb .t53 r.1 0, .rowb .t88 r.2.1 0])
noncomputable abbrev spec_l12Copy.g (rec : List Item → St Ty D → R) (k : Nat) := go1 Try.f38 (spec_l12Copy.ctx k) spec_l12Copy.sp 0 spec_l12Copy.en rec
set_option maxRecDepth 100000 in
theorem spec_l12Copy.te (rec : List Item → St Ty D → R) (k : Nat) (a0_0 : List S53) (a0_1 : List S88) (a0_2 : Int) : spec_l12Copy.g rec k [.code (body Try.f38)] (startSt [.ag [.row 0 .t53 a0_0, .row 0 .t88 a0_1, .sc (.int .i64 a0_2)]] []) =
  bif decide (([] : List S53).length + a0_0.length ≤ 8796093022208) then (spec_l11Copy.f k a0_1).bind fun t1 => some (spec_l12Copy.e ((([] : List S53) ++ a0_0), t1, a0_2)) else none := by kernel_rfl
set_option maxRecDepth 100000 in
theorem spec_l12Copy.oke (k : Nat) (a0_0 : List S53) (a0_1 : List S88) (a0_2 : Int) : goF Try.f38 spec_l12Copy.ctx spec_l12Copy.sp 0 spec_l12Copy.en (k + 1) [.code (body Try.f38)] (startSt [.ag [.row 0 .t53 a0_0, .row 0 .t88 a0_1, .sc (.int .i64 a0_2)]] []) = (spec_l12Copy.f k a0_0 a0_1 a0_2).map spec_l12Copy.e := by
  rw [spec_l12Copy.f]; exact (spec_l12Copy.te _ k a0_0 a0_1 a0_2).trans (cd (bn (fun t1 => rfl)) rfl)
theorem spec_l12Copy.con (k : Nat) (a0_0 : List S53) (a0_1 : List S88) (a0_2 : Int) (r) (h : spec_l12Copy.f k a0_0 a0_1 a0_2 = some r) : Contract Try.prog kit 38 [.ag [.row 0 .t53 a0_0, .row 0 .t88 a0_1, .sc (.int .i64 a0_2)]] [] (spec_l12Copy.e r).1 (spec_l12Copy.e r).2.1 (spec_l12Copy.e r).2.2 :=
  con_okG kitOk mix (fun k => (CtxOk.cons (spec_l11Copy.xok k) CtxOk.nil)) (spec_l12Copy.oke k a0_0 a0_1 a0_2) h (by kernel_rfl) (by kernel_rfl) (by kernel_rfl) rfl (by kernel_rfl) rfl rfl
noncomputable def spec_l12Copy.x (k : Nat) : X := fun ins bs κ => match ins, bs with
  | [.ag [.row 0 .t53 a0_0, .row 0 .t88 a0_1, .sc (.int .i64 a0_2)]], [] => (spec_l12Copy.f k a0_0 a0_1 a0_2).bind fun r => κ (spec_l12Copy.e r).1 (spec_l12Copy.e r).2.1 (spec_l12Copy.e r).2.2
  | _, _ => none
theorem spec_l12Copy.xok (k : Nat) : XOk 38 (spec_l12Copy.x k) := by
  intro ins bs κ res h
  unfold spec_l12Copy.x at h
  split at h
  · obtain ⟨r, hr, h⟩ := Option.bind_eq_some_iff.1 h
    exact ⟨_, _, _, spec_l12Copy.con k _ _ _ r hr, h⟩
  · cases h

/-! ### spec_l12At: function 40 -/
noncomputable def spec_l12At.sp : Nat → Option (Spec Ty) := fun r => bif Nat.beq r 2 then some ⟨[(1, .keep), (2, .box [.keep, .keep, .keep]), (5, .keep)], []⟩ else none
noncomputable def spec_l12At.en : Option (Spec Ty) := none
noncomputable def spec_l12At.s2 (x1 : Int) (x5 : Int) (h64_0 : List S53) (h64_1 : List S88) (h64_2 : Int) : St Ty D := ⟨(Env.put (Env.put (Env.put E (some 1) (.sc (.int .i64 x1))) (some 2) (.pt 64 0 0)) (some 5) (.sc (.int .i64 x5))), Heap.put H0 [(64, some (.box [.row 0 .t53 h64_0, .row 0 .t88 h64_1, .sc (.int .i64 h64_2)]))], 1000⟩
noncomputable def spec_l12At.ctx (k : Nat) : Ctx Ty D := (fun _ _ _ _ => none)
noncomputable def spec_l12At.c2 : Nat → Int → Int → (List S53) → (List S88) → Int → Option (Int)
  | 0, _, _, _, _, _ => none
  | k + 1, x1, x5, h64_0, h64_1, h64_2 => (if x5 < (h64_0.length : Int) then (if 0 ≤ x5 then (if x5 < (h64_0.length : Int) then (if ((rd_T53 h64_0 x5).f0) = x1 then (some (x5)) else (spec_l12At.c2 k x1 (w64 (x5 + 1)) h64_0 h64_1 h64_2)) else none) else none) else (some ((-1))))
noncomputable def spec_l12At.f (k : Nat) (a0_0 : List S53) (a0_1 : List S88) (a0_2 : Int) (a1 : Int) : Option (Int) := (spec_l12At.c2 k a1 0 a0_0 a0_1 a0_2)
noncomputable def spec_l12At.e (r : Int) : Res Ty D := (.sc (.int .i64 r), [], [])
noncomputable abbrev spec_l12At.g (rec : List Item → St Ty D → R) (k : Nat) := go1 Try.f40 (spec_l12At.ctx k) spec_l12At.sp 0 spec_l12At.en rec
set_option maxRecDepth 100000 in
theorem spec_l12At.t2 (rec : List Item → St Ty D → R) (k : Nat) (x1 : Int) (x5 : Int) (h64_0 : List S53) (h64_1 : List S88) (h64_2 : Int) : spec_l12At.g rec k (td Try.f40 2) (spec_l12At.s2 x1 x5 h64_0 h64_1 h64_2) =
  bif decide (x5 < (h64_0.length : Int)) then bif decide (0 ≤ x5) then bif decide (x5 < (h64_0.length : Int)) then bif decide (((rd_T53 h64_0 x5).f0) = x1) then some (spec_l12At.e (x5)) else rec (td Try.f40 2) (spec_l12At.s2 x1 (w64 (x5 + 1)) h64_0 h64_1 h64_2) else none else none else some (spec_l12At.e ((-1))) := by kernel_rfl
set_option maxRecDepth 100000 in
theorem spec_l12At.te (rec : List Item → St Ty D → R) (k : Nat) (a0_0 : List S53) (a0_1 : List S88) (a0_2 : Int) (a1 : Int) : spec_l12At.g rec k [.code (body Try.f40)] (startSt [.ag [.row 0 .t53 a0_0, .row 0 .t88 a0_1, .sc (.int .i64 a0_2)], .sc (.int .i64 a1)] []) =
  rec (td Try.f40 2) (spec_l12At.s2 a1 0 a0_0 a0_1 a0_2) := by kernel_rfl
set_option maxRecDepth 100000 in
theorem spec_l12At.ok : ∀ k : Nat, (∀ (x1 : Int) (x5 : Int) (h64_0 : List S53) (h64_1 : List S88) (h64_2 : Int), goF Try.f40 spec_l12At.ctx spec_l12At.sp 0 spec_l12At.en k (td Try.f40 2) (spec_l12At.s2 x1 x5 h64_0 h64_1 h64_2) = (spec_l12At.c2 k x1 x5 h64_0 h64_1 h64_2).map spec_l12At.e)
  | 0 => fun _ _ _ _ _ => rfl
  | k + 1 => by
    have ih := spec_l12At.ok k
    have i2 := ih
    intro x1 x5 h64_0 h64_1 h64_2; rw [spec_l12At.c2]; exact (spec_l12At.t2 _ k x1 x5 h64_0 h64_1 h64_2).trans (cd (cd (cd (cd rfl (i2 _ _ _ _ _)) rfl) rfl) rfl)
set_option maxRecDepth 100000 in
theorem spec_l12At.oke (k : Nat) (a0_0 : List S53) (a0_1 : List S88) (a0_2 : Int) (a1 : Int) : goF Try.f40 spec_l12At.ctx spec_l12At.sp 0 spec_l12At.en (k + 1) [.code (body Try.f40)] (startSt [.ag [.row 0 .t53 a0_0, .row 0 .t88 a0_1, .sc (.int .i64 a0_2)], .sc (.int .i64 a1)] []) = (spec_l12At.f k a0_0 a0_1 a0_2 a1).map spec_l12At.e := by
  have i2 := spec_l12At.ok k
  rw [spec_l12At.f]; exact (spec_l12At.te _ k a0_0 a0_1 a0_2 a1).trans (i2 _ _ _ _ _)
theorem spec_l12At.con (k : Nat) (a0_0 : List S53) (a0_1 : List S88) (a0_2 : Int) (a1 : Int) (r) (h : spec_l12At.f k a0_0 a0_1 a0_2 a1 = some r) : Contract Try.prog kit 40 [.ag [.row 0 .t53 a0_0, .row 0 .t88 a0_1, .sc (.int .i64 a0_2)], .sc (.int .i64 a1)] [] (spec_l12At.e r).1 (spec_l12At.e r).2.1 (spec_l12At.e r).2.2 :=
  con_okG kitOk mix (fun k => CtxOk.nil) (spec_l12At.oke k a0_0 a0_1 a0_2 a1) h (by kernel_rfl) (by kernel_rfl) (by kernel_rfl) rfl (by kernel_rfl) rfl rfl
noncomputable def spec_l12At.x (k : Nat) : X := fun ins bs κ => match ins, bs with
  | [.ag [.row 0 .t53 a0_0, .row 0 .t88 a0_1, .sc (.int .i64 a0_2)], .sc (.int .i64 a1)], [] => (spec_l12At.f k a0_0 a0_1 a0_2 a1).bind fun r => κ (spec_l12At.e r).1 (spec_l12At.e r).2.1 (spec_l12At.e r).2.2
  | _, _ => none
theorem spec_l12At.xok (k : Nat) : XOk 40 (spec_l12At.x k) := by
  intro ins bs κ res h
  unfold spec_l12At.x at h
  split at h
  · obtain ⟨r, hr, h⟩ := Option.bind_eq_some_iff.1 h
    exact ⟨_, _, _, spec_l12At.con k _ _ _ _ r hr, h⟩
  · cases h

/-! ### spec_l12Vol: function 39 -/
noncomputable def spec_l12Vol.sp : Nat → Option (Spec Ty) := fun r => bif Nat.beq r 12 then some ⟨[(2, .box [.keep, .keep, .keep]), (3, .box [.keep, .keep, .keep, .keep]), (4, .box [.own .t53, .own .t88, .keep]), (6, .keep), (8, .box [.own .t53, .own .t88, .keep]), (9, .own .t53), (10, .keep)], []⟩ else bif Nat.beq r 18 then some ⟨[(2, .box [.keep, .keep, .keep]), (3, .box [.keep, .keep, .keep, .keep]), (4, .box [.own .t53, .own .t88, .keep]), (8, .box [.own .t53, .own .t88, .keep]), (9, .own .t53), (11, .keep)], []⟩ else none
noncomputable def spec_l12Vol.en : Option (Spec Ty) := some ⟨[(4, .box [.own .t53, .own .t88, .keep]), (5, .keep)], []⟩
noncomputable def spec_l12Vol.s12 (x6 : Int) (x10 : Int) (h64_0 : List S53) (h64_1 : List S88) (h64_2 : Int) (h65_0 : Int) (h65_1 : Int) (h65_2 : Int) (h65_3 : Int) (h67 : List S53) (h68 : List S88) (h66_2 : Int) (h70 : List S53) (h71 : List S88) (h69_2 : Int) (h72 : List S53) : St Ty D := ⟨(Env.put (Env.put (Env.put (Env.put (Env.put (Env.put (Env.put E (some 2) (.pt 64 0 0)) (some 3) (.pt 65 0 0)) (some 4) (.pt 66 0 0)) (some 6) (.sc (.int .i64 x6))) (some 8) (.pt 69 0 0)) (some 9) (.sl 72 none)) (some 10) (.sc (.int .i64 x10))), Heap.put H0 [(64, some (.box [.row 0 .t53 h64_0, .row 0 .t88 h64_1, .sc (.int .i64 h64_2)])), (65, some (.box [.sc (.int .i64 h65_0), .sc (.int .i64 h65_1), .sc (.int .i64 h65_2), .sc (.int .i64 h65_3)])), (67, some (.rowb .t53 h67 0)), (68, some (.rowb .t88 h68 0)), (66, some (.box [.sl 67 none, .sl 68 none, .sc (.int .i64 h66_2)])), (70, some (.rowb .t53 h70 0)), (71, some (.rowb .t88 h71 0)), (69, some (.box [.sl 70 none, .sl 71 none, .sc (.int .i64 h69_2)])), (72, some (.rowb .t53 h72 0))], 1000⟩
noncomputable def spec_l12Vol.s18 (x11 : Int) (h64_0 : List S53) (h64_1 : List S88) (h64_2 : Int) (h65_0 : Int) (h65_1 : Int) (h65_2 : Int) (h65_3 : Int) (h67 : List S53) (h68 : List S88) (h66_2 : Int) (h70 : List S53) (h71 : List S88) (h69_2 : Int) (h72 : List S53) : St Ty D := ⟨(Env.put (Env.put (Env.put (Env.put (Env.put (Env.put E (some 2) (.pt 64 0 0)) (some 3) (.pt 65 0 0)) (some 4) (.pt 66 0 0)) (some 8) (.pt 69 0 0)) (some 9) (.sl 72 none)) (some 11) (.sc (.int .i64 x11))), Heap.put H0 [(64, some (.box [.row 0 .t53 h64_0, .row 0 .t88 h64_1, .sc (.int .i64 h64_2)])), (65, some (.box [.sc (.int .i64 h65_0), .sc (.int .i64 h65_1), .sc (.int .i64 h65_2), .sc (.int .i64 h65_3)])), (67, some (.rowb .t53 h67 0)), (68, some (.rowb .t88 h68 0)), (66, some (.box [.sl 67 none, .sl 68 none, .sc (.int .i64 h66_2)])), (70, some (.rowb .t53 h70 0)), (71, some (.rowb .t88 h71 0)), (69, some (.box [.sl 70 none, .sl 71 none, .sc (.int .i64 h69_2)])), (72, some (.rowb .t53 h72 0))], 1000⟩
noncomputable def spec_l12Vol.ctx (k : Nat) : Ctx Ty D := (cons 38 (spec_l12Copy.x k) (cons 40 (spec_l12At.x k) (fun _ _ _ _ => none)))
mutual
noncomputable def spec_l12Vol.c12 : Nat → Int → Int → (List S53) → (List S88) → Int → Int → Int → Int → Int → (List S53) → (List S88) → Int → (List S53) → (List S88) → Int → (List S53) → Option ((List S53) × (List S88) × Int × Bool)
  | 0, _, _, _, _, _, _, _, _, _, _, _, _, _, _, _, _ => none
  | k + 1, x6, x10, h64_0, h64_1, h64_2, h65_0, h65_1, h65_2, h65_3, h67, h68, h66_2, h70, h71, h69_2, h72 => (if x10 < (h64_0.length : Int) then (if 0 ≤ x10 then (if x10 < (h64_0.length : Int) then (if ((rd_T53 h64_0 x10).f0) < h65_1 then (if 0 ≤ x10 then (if x10 < (h64_0.length : Int) then (if h72.length + ([(S53.mk ((rd_T53 h64_0 x10).f0) ((rd_T53 h64_0 x10).f1))] : List S53).length ≤ 8796093022208 then (spec_l12Vol.c12 k x6 (w64 (x10 + 1)) h64_0 h64_1 h64_2 h65_0 h65_1 h65_2 h65_3 h67 h68 h66_2 h70 h71 h69_2 (h72 ++ ([(S53.mk ((rd_T53 h64_0 x10).f0) ((rd_T53 h64_0 x10).f1))] : List S53))) else none) else none) else none) else (spec_l12Vol.c12 k x6 (w64 (x10 + 1)) h64_0 h64_1 h64_2 h65_0 h65_1 h65_2 h65_3 h67 h68 h66_2 h70 h71 h69_2 h72)) else none) else none) else (if h72.length + ([(S53.mk h65_1 x6)] : List S53).length ≤ 8796093022208 then (spec_l12Vol.c18 k 0 h64_0 h64_1 h64_2 h65_0 h65_1 h65_2 h65_3 h67 h68 h66_2 h70 h71 h69_2 (h72 ++ ([(S53.mk h65_1 x6)] : List S53))) else none))
noncomputable def spec_l12Vol.c18 : Nat → Int → (List S53) → (List S88) → Int → Int → Int → Int → Int → (List S53) → (List S88) → Int → (List S53) → (List S88) → Int → (List S53) → Option ((List S53) × (List S88) × Int × Bool)
  | 0, _, _, _, _, _, _, _, _, _, _, _, _, _, _, _ => none
  | k + 1, x11, h64_0, h64_1, h64_2, h65_0, h65_1, h65_2, h65_3, h67, h68, h66_2, h70, h71, h69_2, h72 => (if x11 < (h64_0.length : Int) then (if 0 ≤ x11 then (if x11 < (h64_0.length : Int) then (if ((rd_T53 h64_0 x11).f0) > h65_1 then (if 0 ≤ x11 then (if x11 < (h64_0.length : Int) then (if h72.length + ([(S53.mk ((rd_T53 h64_0 x11).f0) ((rd_T53 h64_0 x11).f1))] : List S53).length ≤ 8796093022208 then (spec_l12Vol.c18 k (w64 (x11 + 1)) h64_0 h64_1 h64_2 h65_0 h65_1 h65_2 h65_3 h67 h68 h66_2 h70 h71 h69_2 (h72 ++ ([(S53.mk ((rd_T53 h64_0 x11).f0) ((rd_T53 h64_0 x11).f1))] : List S53))) else none) else none) else none) else (spec_l12Vol.c18 k (w64 (x11 + 1)) h64_0 h64_1 h64_2 h65_0 h65_1 h65_2 h65_3 h67 h68 h66_2 h70 h71 h69_2 h72)) else none) else none) else (some (h72, h71, h69_2, true)))
end
noncomputable def spec_l12Vol.f (k : Nat) (a0_0 : List S53) (a0_1 : List S88) (a0_2 : Int) (a1_0 : Int) (a1_1 : Int) (a1_2 : Int) (a1_3 : Int) : Option ((List S53) × (List S88) × Int × Bool) := (if a1_2 > 0 then ((spec_l12At.f k a0_0 a0_1 a0_2 a1_2).bind fun t1 => (if t1 < 0 then ((spec_l12Copy.f k a0_0 a0_1 a0_2).bind fun t2 => (some (t2.1, t2.2.1, t2.2.2, false))) else (if 0 ≤ t1 then (if t1 < (a0_0.length : Int) then ((spec_l12At.f k a0_0 a0_1 a0_2 a1_1).bind fun t3 => (if t3 ≥ 0 then ((spec_l12Copy.f k a0_0 a0_1 a0_2).bind fun t4 => (some (t4.1, t4.2.1, t4.2.2, false))) else (if (a0_0.length : Int) = 3 then ((spec_l12Copy.f k a0_0 a0_1 a0_2).bind fun t5 => (some (t5.1, t5.2.1, t5.2.2, false))) else ((spec_l12Copy.f k a0_0 a0_1 a0_2).bind fun t6 => (spec_l12Vol.c12 k ((rd_T53 a0_0 t1).f1) 0 a0_0 a0_1 a0_2 a1_0 a1_1 a1_2 a1_3 ([] : List S53) ([] : List S88) 0 t6.1 t6.2.1 t6.2.2 ([] : List S53)))))) else none) else none))) else ((spec_l12At.f k a0_0 a0_1 a0_2 a1_1).bind fun t7 => (if t7 ≥ 0 then ((spec_l12Copy.f k a0_0 a0_1 a0_2).bind fun t8 => (some (t8.1, t8.2.1, t8.2.2, false))) else (if (a0_0.length : Int) = 3 then ((spec_l12Copy.f k a0_0 a0_1 a0_2).bind fun t9 => (some (t9.1, t9.2.1, t9.2.2, false))) else ((spec_l12Copy.f k a0_0 a0_1 a0_2).bind fun t10 => (spec_l12Vol.c12 k (-1) 0 a0_0 a0_1 a0_2 a1_0 a1_1 a1_2 a1_3 ([] : List S53) ([] : List S88) 0 t10.1 t10.2.1 t10.2.2 ([] : List S53)))))))
noncomputable def spec_l12Vol.e (r : (List S53) × (List S88) × Int × Bool) : Res Ty D := (.tu [.ag [.sl 0 none, .sl 1 none, .sc (.int .i64 r.2.2.1)], .sc (.bool r.2.2.2)], [], [.rowb .t53 r.1 0, .rowb .t88 r.2.1 0])
noncomputable abbrev spec_l12Vol.g (rec : List Item → St Ty D → R) (k : Nat) := go1 Try.f39 (spec_l12Vol.ctx k) spec_l12Vol.sp 0 spec_l12Vol.en rec
set_option maxRecDepth 100000 in
theorem spec_l12Vol.t12 (rec : List Item → St Ty D → R) (k : Nat) (x6 : Int) (x10 : Int) (h64_0 : List S53) (h64_1 : List S88) (h64_2 : Int) (h65_0 : Int) (h65_1 : Int) (h65_2 : Int) (h65_3 : Int) (h67 : List S53) (h68 : List S88) (h66_2 : Int) (h70 : List S53) (h71 : List S88) (h69_2 : Int) (h72 : List S53) : spec_l12Vol.g rec k (td Try.f39 12) (spec_l12Vol.s12 x6 x10 h64_0 h64_1 h64_2 h65_0 h65_1 h65_2 h65_3 h67 h68 h66_2 h70 h71 h69_2 h72) =
  bif decide (x10 < (h64_0.length : Int)) then bif decide (0 ≤ x10) then bif decide (x10 < (h64_0.length : Int)) then bif decide (((rd_T53 h64_0 x10).f0) < h65_1) then bif decide (0 ≤ x10) then bif decide (x10 < (h64_0.length : Int)) then bif decide (h72.length + ([(S53.mk ((rd_T53 h64_0 x10).f0) ((rd_T53 h64_0 x10).f1))] : List S53).length ≤ 8796093022208) then rec (td Try.f39 12) (spec_l12Vol.s12 x6 (w64 (x10 + 1)) h64_0 h64_1 h64_2 h65_0 h65_1 h65_2 h65_3 h67 h68 h66_2 h70 h71 h69_2 (h72 ++ ([(S53.mk ((rd_T53 h64_0 x10).f0) ((rd_T53 h64_0 x10).f1))] : List S53))) else none else none else none else rec (td Try.f39 12) (spec_l12Vol.s12 x6 (w64 (x10 + 1)) h64_0 h64_1 h64_2 h65_0 h65_1 h65_2 h65_3 h67 h68 h66_2 h70 h71 h69_2 h72) else none else none else bif decide (h72.length + ([(S53.mk h65_1 x6)] : List S53).length ≤ 8796093022208) then rec (td Try.f39 18) (spec_l12Vol.s18 0 h64_0 h64_1 h64_2 h65_0 h65_1 h65_2 h65_3 h67 h68 h66_2 h70 h71 h69_2 (h72 ++ ([(S53.mk h65_1 x6)] : List S53))) else none := by kernel_rfl
set_option maxRecDepth 100000 in
theorem spec_l12Vol.t18 (rec : List Item → St Ty D → R) (k : Nat) (x11 : Int) (h64_0 : List S53) (h64_1 : List S88) (h64_2 : Int) (h65_0 : Int) (h65_1 : Int) (h65_2 : Int) (h65_3 : Int) (h67 : List S53) (h68 : List S88) (h66_2 : Int) (h70 : List S53) (h71 : List S88) (h69_2 : Int) (h72 : List S53) : spec_l12Vol.g rec k (td Try.f39 18) (spec_l12Vol.s18 x11 h64_0 h64_1 h64_2 h65_0 h65_1 h65_2 h65_3 h67 h68 h66_2 h70 h71 h69_2 h72) =
  bif decide (x11 < (h64_0.length : Int)) then bif decide (0 ≤ x11) then bif decide (x11 < (h64_0.length : Int)) then bif decide (((rd_T53 h64_0 x11).f0) > h65_1) then bif decide (0 ≤ x11) then bif decide (x11 < (h64_0.length : Int)) then bif decide (h72.length + ([(S53.mk ((rd_T53 h64_0 x11).f0) ((rd_T53 h64_0 x11).f1))] : List S53).length ≤ 8796093022208) then rec (td Try.f39 18) (spec_l12Vol.s18 (w64 (x11 + 1)) h64_0 h64_1 h64_2 h65_0 h65_1 h65_2 h65_3 h67 h68 h66_2 h70 h71 h69_2 (h72 ++ ([(S53.mk ((rd_T53 h64_0 x11).f0) ((rd_T53 h64_0 x11).f1))] : List S53))) else none else none else none else rec (td Try.f39 18) (spec_l12Vol.s18 (w64 (x11 + 1)) h64_0 h64_1 h64_2 h65_0 h65_1 h65_2 h65_3 h67 h68 h66_2 h70 h71 h69_2 h72) else none else none else some (spec_l12Vol.e (h72, h71, h69_2, true)) := by kernel_rfl
set_option maxRecDepth 100000 in
theorem spec_l12Vol.te (rec : List Item → St Ty D → R) (k : Nat) (a0_0 : List S53) (a0_1 : List S88) (a0_2 : Int) (a1_0 : Int) (a1_1 : Int) (a1_2 : Int) (a1_3 : Int) : spec_l12Vol.g rec k [.code (body Try.f39)] (startSt [.ag [.row 0 .t53 a0_0, .row 0 .t88 a0_1, .sc (.int .i64 a0_2)], .ag [.sc (.int .i64 a1_0), .sc (.int .i64 a1_1), .sc (.int .i64 a1_2), .sc (.int .i64 a1_3)]] []) =
  bif decide (a1_2 > 0) then (spec_l12At.f k a0_0 a0_1 a0_2 a1_2).bind fun t1 => bif decide (t1 < 0) then (spec_l12Copy.f k a0_0 a0_1 a0_2).bind fun t2 => some (spec_l12Vol.e (t2.1, t2.2.1, t2.2.2, false)) else bif decide (0 ≤ t1) then bif decide (t1 < (a0_0.length : Int)) then (spec_l12At.f k a0_0 a0_1 a0_2 a1_1).bind fun t3 => bif decide (t3 ≥ 0) then (spec_l12Copy.f k a0_0 a0_1 a0_2).bind fun t4 => some (spec_l12Vol.e (t4.1, t4.2.1, t4.2.2, false)) else bif decide ((a0_0.length : Int) = 3) then (spec_l12Copy.f k a0_0 a0_1 a0_2).bind fun t5 => some (spec_l12Vol.e (t5.1, t5.2.1, t5.2.2, false)) else (spec_l12Copy.f k a0_0 a0_1 a0_2).bind fun t6 => rec (td Try.f39 12) (spec_l12Vol.s12 ((rd_T53 a0_0 t1).f1) 0 a0_0 a0_1 a0_2 a1_0 a1_1 a1_2 a1_3 ([] : List S53) ([] : List S88) 0 t6.1 t6.2.1 t6.2.2 ([] : List S53)) else none else none else (spec_l12At.f k a0_0 a0_1 a0_2 a1_1).bind fun t7 => bif decide (t7 ≥ 0) then (spec_l12Copy.f k a0_0 a0_1 a0_2).bind fun t8 => some (spec_l12Vol.e (t8.1, t8.2.1, t8.2.2, false)) else bif decide ((a0_0.length : Int) = 3) then (spec_l12Copy.f k a0_0 a0_1 a0_2).bind fun t9 => some (spec_l12Vol.e (t9.1, t9.2.1, t9.2.2, false)) else (spec_l12Copy.f k a0_0 a0_1 a0_2).bind fun t10 => rec (td Try.f39 12) (spec_l12Vol.s12 (-1) 0 a0_0 a0_1 a0_2 a1_0 a1_1 a1_2 a1_3 ([] : List S53) ([] : List S88) 0 t10.1 t10.2.1 t10.2.2 ([] : List S53)) := by kernel_rfl
set_option maxRecDepth 100000 in
theorem spec_l12Vol.ok : ∀ k : Nat, (∀ (x6 : Int) (x10 : Int) (h64_0 : List S53) (h64_1 : List S88) (h64_2 : Int) (h65_0 : Int) (h65_1 : Int) (h65_2 : Int) (h65_3 : Int) (h67 : List S53) (h68 : List S88) (h66_2 : Int) (h70 : List S53) (h71 : List S88) (h69_2 : Int) (h72 : List S53), goF Try.f39 spec_l12Vol.ctx spec_l12Vol.sp 0 spec_l12Vol.en k (td Try.f39 12) (spec_l12Vol.s12 x6 x10 h64_0 h64_1 h64_2 h65_0 h65_1 h65_2 h65_3 h67 h68 h66_2 h70 h71 h69_2 h72) = (spec_l12Vol.c12 k x6 x10 h64_0 h64_1 h64_2 h65_0 h65_1 h65_2 h65_3 h67 h68 h66_2 h70 h71 h69_2 h72).map spec_l12Vol.e) ∧ (∀ (x11 : Int) (h64_0 : List S53) (h64_1 : List S88) (h64_2 : Int) (h65_0 : Int) (h65_1 : Int) (h65_2 : Int) (h65_3 : Int) (h67 : List S53) (h68 : List S88) (h66_2 : Int) (h70 : List S53) (h71 : List S88) (h69_2 : Int) (h72 : List S53), goF Try.f39 spec_l12Vol.ctx spec_l12Vol.sp 0 spec_l12Vol.en k (td Try.f39 18) (spec_l12Vol.s18 x11 h64_0 h64_1 h64_2 h65_0 h65_1 h65_2 h65_3 h67 h68 h66_2 h70 h71 h69_2 h72) = (spec_l12Vol.c18 k x11 h64_0 h64_1 h64_2 h65_0 h65_1 h65_2 h65_3 h67 h68 h66_2 h70 h71 h69_2 h72).map spec_l12Vol.e)
  | 0 => ⟨fun _ _ _ _ _ _ _ _ _ _ _ _ _ _ _ _ => rfl, fun _ _ _ _ _ _ _ _ _ _ _ _ _ _ _ => rfl⟩
  | k + 1 => by
    have ih := spec_l12Vol.ok k
    obtain ⟨i12, i18⟩ := ih
    refine ⟨?_, ?_⟩
    · intro x6 x10 h64_0 h64_1 h64_2 h65_0 h65_1 h65_2 h65_3 h67 h68 h66_2 h70 h71 h69_2 h72; rw [spec_l12Vol.c12]; exact (spec_l12Vol.t12 _ k x6 x10 h64_0 h64_1 h64_2 h65_0 h65_1 h65_2 h65_3 h67 h68 h66_2 h70 h71 h69_2 h72).trans (cd (cd (cd (cd (cd (cd (cd (i12 _ _ _ _ _ _ _ _ _ _ _ _ _ _ _ _) rfl) rfl) rfl) (i12 _ _ _ _ _ _ _ _ _ _ _ _ _ _ _ _)) rfl) rfl) (cd (i18 _ _ _ _ _ _ _ _ _ _ _ _ _ _ _) rfl))
    · intro x11 h64_0 h64_1 h64_2 h65_0 h65_1 h65_2 h65_3 h67 h68 h66_2 h70 h71 h69_2 h72; rw [spec_l12Vol.c18]; exact (spec_l12Vol.t18 _ k x11 h64_0 h64_1 h64_2 h65_0 h65_1 h65_2 h65_3 h67 h68 h66_2 h70 h71 h69_2 h72).trans (cd (cd (cd (cd (cd (cd (cd (i18 _ _ _ _ _ _ _ _ _ _ _ _ _ _ _) rfl) rfl) rfl) (i18 _ _ _ _ _ _ _ _ _ _ _ _ _ _ _)) rfl) rfl) rfl)
set_option maxRecDepth 100000 in
theorem spec_l12Vol.oke (k : Nat) (a0_0 : List S53) (a0_1 : List S88) (a0_2 : Int) (a1_0 : Int) (a1_1 : Int) (a1_2 : Int) (a1_3 : Int) : goF Try.f39 spec_l12Vol.ctx spec_l12Vol.sp 0 spec_l12Vol.en (k + 1) [.code (body Try.f39)] (startSt [.ag [.row 0 .t53 a0_0, .row 0 .t88 a0_1, .sc (.int .i64 a0_2)], .ag [.sc (.int .i64 a1_0), .sc (.int .i64 a1_1), .sc (.int .i64 a1_2), .sc (.int .i64 a1_3)]] []) = (spec_l12Vol.f k a0_0 a0_1 a0_2 a1_0 a1_1 a1_2 a1_3).map spec_l12Vol.e := by
  obtain ⟨i12, i18⟩ := spec_l12Vol.ok k
  rw [spec_l12Vol.f]; exact (spec_l12Vol.te _ k a0_0 a0_1 a0_2 a1_0 a1_1 a1_2 a1_3).trans (cd (bn (fun t1 => (cd (bn (fun t2 => rfl)) (cd (cd (bn (fun t3 => (cd (bn (fun t4 => rfl)) (cd (bn (fun t5 => rfl)) (bn (fun t6 => (i12 _ _ _ _ _ _ _ _ _ _ _ _ _ _ _ _))))))) rfl) rfl)))) (bn (fun t7 => (cd (bn (fun t8 => rfl)) (cd (bn (fun t9 => rfl)) (bn (fun t10 => (i12 _ _ _ _ _ _ _ _ _ _ _ _ _ _ _ _))))))))
theorem spec_l12Vol.con (k : Nat) (a0_0 : List S53) (a0_1 : List S88) (a0_2 : Int) (a1_0 : Int) (a1_1 : Int) (a1_2 : Int) (a1_3 : Int) (r) (h : spec_l12Vol.f k a0_0 a0_1 a0_2 a1_0 a1_1 a1_2 a1_3 = some r) : Contract Try.prog kit 39 [.ag [.row 0 .t53 a0_0, .row 0 .t88 a0_1, .sc (.int .i64 a0_2)], .ag [.sc (.int .i64 a1_0), .sc (.int .i64 a1_1), .sc (.int .i64 a1_2), .sc (.int .i64 a1_3)]] [] (spec_l12Vol.e r).1 (spec_l12Vol.e r).2.1 (spec_l12Vol.e r).2.2 :=
  con_okG kitOk mix (fun k => (CtxOk.cons (spec_l12Copy.xok k) (CtxOk.cons (spec_l12At.xok k) CtxOk.nil))) (spec_l12Vol.oke k a0_0 a0_1 a0_2 a1_0 a1_1 a1_2 a1_3) h (by kernel_rfl) (by kernel_rfl) (by kernel_rfl) rfl (by kernel_rfl) rfl rfl
noncomputable def spec_l12Vol.x (k : Nat) : X := fun ins bs κ => match ins, bs with
  | [.ag [.row 0 .t53 a0_0, .row 0 .t88 a0_1, .sc (.int .i64 a0_2)], .ag [.sc (.int .i64 a1_0), .sc (.int .i64 a1_1), .sc (.int .i64 a1_2), .sc (.int .i64 a1_3)]], [] => (spec_l12Vol.f k a0_0 a0_1 a0_2 a1_0 a1_1 a1_2 a1_3).bind fun r => κ (spec_l12Vol.e r).1 (spec_l12Vol.e r).2.1 (spec_l12Vol.e r).2.2
  | _, _ => none
theorem spec_l12Vol.xok (k : Nat) : XOk 39 (spec_l12Vol.x k) := by
  intro ins bs κ res h
  unfold spec_l12Vol.x at h
  split at h
  · obtain ⟨r, hr, h⟩ := Option.bind_eq_some_iff.1 h
    exact ⟨_, _, _, spec_l12Vol.con k _ _ _ _ _ _ _ r hr, h⟩
  · cases h

/-! ### spec_l12Swept: function 41 -/
noncomputable def spec_l12Swept.sp : Nat → Option (Spec Ty) := fun r => bif Nat.beq r 4 then some ⟨[(2, .box [.own .t53, .own .t88, .keep]), (4, .own .t3), (5, .box [.own .t53, .own .t88, .keep]), (6, .keep)], []⟩ else none
noncomputable def spec_l12Swept.en : Option (Spec Ty) := some ⟨[(2, .box [.own .t53, .own .t88, .keep])], []⟩
noncomputable def spec_l12Swept.s4 (x6 : Int) (h65 : List S53) (h66 : List S88) (h64_2 : Int) (h67 : List Int) (h69 : List S53) (h70 : List S88) (h68_2 : Int) : St Ty D := ⟨(Env.put (Env.put (Env.put (Env.put E (some 2) (.pt 64 0 0)) (some 4) (.sl 67 none)) (some 5) (.pt 68 0 0)) (some 6) (.sc (.int .i64 x6))), Heap.put H0 [(65, some (.rowb .t53 h65 0)), (66, some (.rowb .t88 h66 0)), (64, some (.box [.sl 65 none, .sl 66 none, .sc (.int .i64 h64_2)])), (67, some (.rowb .t3 h67 0)), (69, some (.rowb .t53 h69 0)), (70, some (.rowb .t88 h70 0)), (68, some (.box [.sl 69 none, .sl 70 none, .sc (.int .i64 h68_2)]))], 1000⟩
noncomputable def spec_l12Swept.ctx (k : Nat) : Ctx Ty D := (cons 79 (spec_SweepArena.x k) (cons 80 (spec_l12Roots.x k) (fun _ _ _ _ => none)))
noncomputable def spec_l12Swept.c4 : Nat → Int → (List S53) → (List S88) → Int → (List Int) → (List S53) → (List S88) → Int → Option ((List S53) × (List S88) × Int)
  | 0, _, _, _, _, _, _, _, _ => none
  | k + 1, x6, h65, h66, h64_2, h67, h69, h70, h68_2 => (if x6 < (h69.length : Int) then (if 0 ≤ x6 then (if x6 < (h67.length : Int) then (if 0 ≤ x6 then (if x6 < (h69.length : Int) then (spec_l12Swept.c4 k (w64 (x6 + 1)) h65 h66 h64_2 h67 (h69.set x6.toNat (S53.mk ((rd_T53 h69 x6).f0) (rd_T3 h67 x6))) h70 h68_2) else none) else none) else none) else none) else (some (h69, h70, h68_2)))
noncomputable def spec_l12Swept.f (k : Nat) (a0_0 : List S53) (a0_1 : List S88) (a0_2 : Int) : Option ((List S53) × (List S88) × Int) := ((spec_l12Roots.f k a0_0 a0_1 a0_2).bind fun t1 => ((spec_SweepArena.f k a0_1 t1).bind fun t2 => (if ([] : List S53).length + a0_0.length ≤ 8796093022208 then (spec_l12Swept.c4 k 0 ([] : List S53) ([] : List S88) 0 t2.2 (([] : List S53) ++ a0_0) t2.1 a0_2) else none)))
noncomputable def spec_l12Swept.e (r : (List S53) × (List S88) × Int) : Res Ty D := (.ag [.sl 0 none, .sl 1 none, .sc (.int .i64 r.2.2)], [], [.rowb .t53 r.1 0, .rowb .t88 r.2.1 0])
noncomputable abbrev spec_l12Swept.g (rec : List Item → St Ty D → R) (k : Nat) := go1 Try.f41 (spec_l12Swept.ctx k) spec_l12Swept.sp 0 spec_l12Swept.en rec
set_option maxRecDepth 100000 in
theorem spec_l12Swept.t4 (rec : List Item → St Ty D → R) (k : Nat) (x6 : Int) (h65 : List S53) (h66 : List S88) (h64_2 : Int) (h67 : List Int) (h69 : List S53) (h70 : List S88) (h68_2 : Int) : spec_l12Swept.g rec k (td Try.f41 4) (spec_l12Swept.s4 x6 h65 h66 h64_2 h67 h69 h70 h68_2) =
  bif decide (x6 < (h69.length : Int)) then bif decide (0 ≤ x6) then bif decide (x6 < (h67.length : Int)) then bif decide (0 ≤ x6) then bif decide (x6 < (h69.length : Int)) then rec (td Try.f41 4) (spec_l12Swept.s4 (w64 (x6 + 1)) h65 h66 h64_2 h67 (h69.set x6.toNat (S53.mk ((rd_T53 h69 x6).f0) (rd_T3 h67 x6))) h70 h68_2) else none else none else none else none else some (spec_l12Swept.e (h69, h70, h68_2)) := by kernel_rfl
set_option maxRecDepth 100000 in
theorem spec_l12Swept.te (rec : List Item → St Ty D → R) (k : Nat) (a0_0 : List S53) (a0_1 : List S88) (a0_2 : Int) : spec_l12Swept.g rec k [.code (body Try.f41)] (startSt [.ag [.row 0 .t53 a0_0, .row 0 .t88 a0_1, .sc (.int .i64 a0_2)]] []) =
  (spec_l12Roots.f k a0_0 a0_1 a0_2).bind fun t1 => (spec_SweepArena.f k a0_1 t1).bind fun t2 => bif decide (([] : List S53).length + a0_0.length ≤ 8796093022208) then rec (td Try.f41 4) (spec_l12Swept.s4 0 ([] : List S53) ([] : List S88) 0 t2.2 (([] : List S53) ++ a0_0) t2.1 a0_2) else none := by kernel_rfl
set_option maxRecDepth 100000 in
theorem spec_l12Swept.ok : ∀ k : Nat, (∀ (x6 : Int) (h65 : List S53) (h66 : List S88) (h64_2 : Int) (h67 : List Int) (h69 : List S53) (h70 : List S88) (h68_2 : Int), goF Try.f41 spec_l12Swept.ctx spec_l12Swept.sp 0 spec_l12Swept.en k (td Try.f41 4) (spec_l12Swept.s4 x6 h65 h66 h64_2 h67 h69 h70 h68_2) = (spec_l12Swept.c4 k x6 h65 h66 h64_2 h67 h69 h70 h68_2).map spec_l12Swept.e)
  | 0 => fun _ _ _ _ _ _ _ _ => rfl
  | k + 1 => by
    have ih := spec_l12Swept.ok k
    have i4 := ih
    intro x6 h65 h66 h64_2 h67 h69 h70 h68_2; rw [spec_l12Swept.c4]; exact (spec_l12Swept.t4 _ k x6 h65 h66 h64_2 h67 h69 h70 h68_2).trans (cd (cd (cd (cd (cd (i4 _ _ _ _ _ _ _ _) rfl) rfl) rfl) rfl) rfl)
set_option maxRecDepth 100000 in
theorem spec_l12Swept.oke (k : Nat) (a0_0 : List S53) (a0_1 : List S88) (a0_2 : Int) : goF Try.f41 spec_l12Swept.ctx spec_l12Swept.sp 0 spec_l12Swept.en (k + 1) [.code (body Try.f41)] (startSt [.ag [.row 0 .t53 a0_0, .row 0 .t88 a0_1, .sc (.int .i64 a0_2)]] []) = (spec_l12Swept.f k a0_0 a0_1 a0_2).map spec_l12Swept.e := by
  have i4 := spec_l12Swept.ok k
  rw [spec_l12Swept.f]; exact (spec_l12Swept.te _ k a0_0 a0_1 a0_2).trans (bn (fun t1 => (bn (fun t2 => (cd (i4 _ _ _ _ _ _ _ _) rfl)))))
theorem spec_l12Swept.con (k : Nat) (a0_0 : List S53) (a0_1 : List S88) (a0_2 : Int) (r) (h : spec_l12Swept.f k a0_0 a0_1 a0_2 = some r) : Contract Try.prog kit 41 [.ag [.row 0 .t53 a0_0, .row 0 .t88 a0_1, .sc (.int .i64 a0_2)]] [] (spec_l12Swept.e r).1 (spec_l12Swept.e r).2.1 (spec_l12Swept.e r).2.2 :=
  con_okG kitOk mix (fun k => (CtxOk.cons (spec_SweepArena.xok k) (CtxOk.cons (spec_l12Roots.xok k) CtxOk.nil))) (spec_l12Swept.oke k a0_0 a0_1 a0_2) h (by kernel_rfl) (by kernel_rfl) (by kernel_rfl) rfl (by kernel_rfl) rfl rfl
noncomputable def spec_l12Swept.x (k : Nat) : X := fun ins bs κ => match ins, bs with
  | [.ag [.row 0 .t53 a0_0, .row 0 .t88 a0_1, .sc (.int .i64 a0_2)]], [] => (spec_l12Swept.f k a0_0 a0_1 a0_2).bind fun r => κ (spec_l12Swept.e r).1 (spec_l12Swept.e r).2.1 (spec_l12Swept.e r).2.2
  | _, _ => none
theorem spec_l12Swept.xok (k : Nat) : XOk 41 (spec_l12Swept.x k) := by
  intro ins bs κ res h
  unfold spec_l12Swept.x at h
  split at h
  · obtain ⟨r, hr, h⟩ := Option.bind_eq_some_iff.1 h
    exact ⟨_, _, _, spec_l12Swept.con k _ _ _ r hr, h⟩
  · cases h

/-! ### spec_PutAt: function 42 -/
noncomputable def spec_PutAt.sp : Nat → Option (Spec Ty) := fun r => none
noncomputable def spec_PutAt.en : Option (Spec Ty) := some ⟨[(8, .box [.own .t88]), (9, .keep)], []⟩
noncomputable def spec_PutAt.ctx (k : Nat) : Ctx Ty D := (cons 75 (spec_ArenaOk.x k) (cons 76 (spec_l01In.x k) (cons 77 (spec_l11Root.x k) (cons 81 (spec_l11Copy.x k) (fun _ _ _ _ => none)))))
noncomputable def spec_PutAt.f (k : Nat) (a0_0 : List S88) (a1 : Int) (a2 : Int) (a3 : Int) : Option ((List S88) × Int) := ((spec_l11Copy.f k a0_0).bind fun t1 => ((spec_ArenaOk.f k a0_0).bind fun t2 => (if t2 = true then ((spec_l11Root.f k a0_0 a1).bind fun t3 => (if t3 = true then ((spec_l01In.f k a2 0 15).bind fun t4 => (if t4 = true then (if a3 < 0 then (some (t1, a1)) else (if a1 ≥ 0 then (if 0 ≤ a1 then (if a1 < (a0_0.length : Int) then (if ([] : List Int).length + ((rd_T88 a0_0 a1).f1).length ≤ 17592186044416 then (if 0 ≤ (w64 (Int.tdiv a2 4)) then (if (w64 (Int.tdiv a2 4)) < ((([] : List Int) ++ ((rd_T88 a0_0 a1).f1)).length : Int) then (if (rd_T3 (([] : List Int) ++ ((rd_T88 a0_0 a1).f1)) (w64 (Int.tdiv a2 4))) ≥ 0 then (if 0 ≤ (rd_T3 (([] : List Int) ++ ((rd_T88 a0_0 a1).f1)) (w64 (Int.tdiv a2 4))) then (if (rd_T3 (([] : List Int) ++ ((rd_T88 a0_0 a1).f1)) (w64 (Int.tdiv a2 4))) < (a0_0.length : Int) then (if ([] : List Int).length + ((rd_T88 a0_0 (rd_T3 (([] : List Int) ++ ((rd_T88 a0_0 a1).f1)) (w64 (Int.tdiv a2 4)))).f1).length ≤ 17592186044416 then (if 0 ≤ (Int.tmod a2 4) then (if (Int.tmod a2 4) < ((([] : List Int) ++ ((rd_T88 a0_0 (rd_T3 (([] : List Int) ++ ((rd_T88 a0_0 a1).f1)) (w64 (Int.tdiv a2 4)))).f1)).length : Int) then (if 0 ≤ (w64 (Int.tdiv a2 4)) then (if (w64 (Int.tdiv a2 4)) < ((([] : List Int) ++ ((rd_T88 a0_0 a1).f1)).length : Int) then (if t1.length + ([(S88.mk true ((([] : List Int) ++ ((rd_T88 a0_0 (rd_T3 (([] : List Int) ++ ((rd_T88 a0_0 a1).f1)) (w64 (Int.tdiv a2 4)))).f1)).set ((Int.tmod a2 4).toNat) a3)), (S88.mk false ((([] : List Int) ++ ((rd_T88 a0_0 a1).f1)).set ((w64 (Int.tdiv a2 4)).toNat) (t1.length : Int)))] : List S88).length ≤ 4398046511104 then (some ((t1 ++ ([(S88.mk true ((([] : List Int) ++ ((rd_T88 a0_0 (rd_T3 (([] : List Int) ++ ((rd_T88 a0_0 a1).f1)) (w64 (Int.tdiv a2 4)))).f1)).set ((Int.tmod a2 4).toNat) a3)), (S88.mk false ((([] : List Int) ++ ((rd_T88 a0_0 a1).f1)).set ((w64 (Int.tdiv a2 4)).toNat) (t1.length : Int)))] : List S88)), (w64 (((t1 ++ ([(S88.mk true ((([] : List Int) ++ ((rd_T88 a0_0 (rd_T3 (([] : List Int) ++ ((rd_T88 a0_0 a1).f1)) (w64 (Int.tdiv a2 4)))).f1)).set ((Int.tmod a2 4).toNat) a3)), (S88.mk false ((([] : List Int) ++ ((rd_T88 a0_0 a1).f1)).set ((w64 (Int.tdiv a2 4)).toNat) (t1.length : Int)))] : List S88)).length : Int) - 1)))) else none) else none) else none) else none) else none) else none) else none) else none) else (if 0 ≤ (Int.tmod a2 4) then (if (Int.tmod a2 4) < ((List.replicate 4 z3).length : Int) then (if 0 ≤ (w64 (Int.tdiv a2 4)) then (if (w64 (Int.tdiv a2 4)) < ((([] : List Int) ++ ((rd_T88 a0_0 a1).f1)).length : Int) then (if t1.length + ([(S88.mk true ((List.replicate 4 z3).set ((Int.tmod a2 4).toNat) a3)), (S88.mk false ((([] : List Int) ++ ((rd_T88 a0_0 a1).f1)).set ((w64 (Int.tdiv a2 4)).toNat) (t1.length : Int)))] : List S88).length ≤ 4398046511104 then (some ((t1 ++ ([(S88.mk true ((List.replicate 4 z3).set ((Int.tmod a2 4).toNat) a3)), (S88.mk false ((([] : List Int) ++ ((rd_T88 a0_0 a1).f1)).set ((w64 (Int.tdiv a2 4)).toNat) (t1.length : Int)))] : List S88)), (w64 (((t1 ++ ([(S88.mk true ((List.replicate 4 z3).set ((Int.tmod a2 4).toNat) a3)), (S88.mk false ((([] : List Int) ++ ((rd_T88 a0_0 a1).f1)).set ((w64 (Int.tdiv a2 4)).toNat) (t1.length : Int)))] : List S88)).length : Int) - 1)))) else none) else none) else none) else none) else none)) else none) else none) else none) else none) else none) else (if 0 ≤ (Int.tmod a2 4) then (if (Int.tmod a2 4) < ((List.replicate 4 z3).length : Int) then (if 0 ≤ (w64 (Int.tdiv a2 4)) then (if (w64 (Int.tdiv a2 4)) < (([(-1), (-1), (-1), (-1)] : List Int).length : Int) then (if t1.length + ([(S88.mk true ((List.replicate 4 z3).set ((Int.tmod a2 4).toNat) a3)), (S88.mk false (([(-1), (-1), (-1), (-1)] : List Int).set ((w64 (Int.tdiv a2 4)).toNat) (t1.length : Int)))] : List S88).length ≤ 4398046511104 then (some ((t1 ++ ([(S88.mk true ((List.replicate 4 z3).set ((Int.tmod a2 4).toNat) a3)), (S88.mk false (([(-1), (-1), (-1), (-1)] : List Int).set ((w64 (Int.tdiv a2 4)).toNat) (t1.length : Int)))] : List S88)), (w64 (((t1 ++ ([(S88.mk true ((List.replicate 4 z3).set ((Int.tmod a2 4).toNat) a3)), (S88.mk false (([(-1), (-1), (-1), (-1)] : List Int).set ((w64 (Int.tdiv a2 4)).toNat) (t1.length : Int)))] : List S88)).length : Int) - 1)))) else none) else none) else none) else none) else none))) else (some (t1, a1)))) else (some (t1, a1)))) else (some (t1, a1)))))
noncomputable def spec_PutAt.e (r : (List S88) × Int) : Res Ty D := (.tu [.ag [.sl 0 none], .sc (.int .i64 r.2)], [], [.rowb .t88 r.1 0])
noncomputable abbrev spec_PutAt.g (rec : List Item → St Ty D → R) (k : Nat) := go1 Try.f42 (spec_PutAt.ctx k) spec_PutAt.sp 0 spec_PutAt.en rec
set_option maxRecDepth 100000 in
theorem spec_PutAt.te (rec : List Item → St Ty D → R) (k : Nat) (a0_0 : List S88) (a1 : Int) (a2 : Int) (a3 : Int) : spec_PutAt.g rec k [.code (body Try.f42)] (startSt [.ag [.row 0 .t88 a0_0], .sc (.int .i64 a1), .sc (.int .i64 a2), .sc (.int .i64 a3)] []) =
  (spec_l11Copy.f k a0_0).bind fun t1 => (spec_ArenaOk.f k a0_0).bind fun t2 => bif !t2 then some (spec_PutAt.e (t1, a1)) else (spec_l11Root.f k a0_0 a1).bind fun t3 => bif !t3 then some (spec_PutAt.e (t1, a1)) else (spec_l01In.f k a2 0 15).bind fun t4 => bif !t4 then some (spec_PutAt.e (t1, a1)) else bif decide (a3 < 0) then some (spec_PutAt.e (t1, a1)) else bif decide (a1 ≥ 0) then bif decide (0 ≤ a1) then bif decide (a1 < (a0_0.length : Int)) then bif decide (([] : List Int).length + ((rd_T88 a0_0 a1).f1).length ≤ 17592186044416) then bif decide (0 ≤ (w64 (Int.tdiv a2 4))) then bif decide ((w64 (Int.tdiv a2 4)) < ((([] : List Int) ++ ((rd_T88 a0_0 a1).f1)).length : Int)) then bif decide ((rd_T3 (([] : List Int) ++ ((rd_T88 a0_0 a1).f1)) (w64 (Int.tdiv a2 4))) ≥ 0) then bif decide (0 ≤ (rd_T3 (([] : List Int) ++ ((rd_T88 a0_0 a1).f1)) (w64 (Int.tdiv a2 4)))) then bif decide ((rd_T3 (([] : List Int) ++ ((rd_T88 a0_0 a1).f1)) (w64 (Int.tdiv a2 4))) < (a0_0.length : Int)) then bif decide (([] : List Int).length + ((rd_T88 a0_0 (rd_T3 (([] : List Int) ++ ((rd_T88 a0_0 a1).f1)) (w64 (Int.tdiv a2 4)))).f1).length ≤ 17592186044416) then bif decide (0 ≤ (Int.tmod a2 4)) then bif decide ((Int.tmod a2 4) < ((([] : List Int) ++ ((rd_T88 a0_0 (rd_T3 (([] : List Int) ++ ((rd_T88 a0_0 a1).f1)) (w64 (Int.tdiv a2 4)))).f1)).length : Int)) then bif decide (0 ≤ (w64 (Int.tdiv a2 4))) then bif decide ((w64 (Int.tdiv a2 4)) < ((([] : List Int) ++ ((rd_T88 a0_0 a1).f1)).length : Int)) then bif decide (t1.length + ([(S88.mk true ((([] : List Int) ++ ((rd_T88 a0_0 (rd_T3 (([] : List Int) ++ ((rd_T88 a0_0 a1).f1)) (w64 (Int.tdiv a2 4)))).f1)).set ((Int.tmod a2 4).toNat) a3)), (S88.mk false ((([] : List Int) ++ ((rd_T88 a0_0 a1).f1)).set ((w64 (Int.tdiv a2 4)).toNat) (t1.length : Int)))] : List S88).length ≤ 4398046511104) then some (spec_PutAt.e ((t1 ++ ([(S88.mk true ((([] : List Int) ++ ((rd_T88 a0_0 (rd_T3 (([] : List Int) ++ ((rd_T88 a0_0 a1).f1)) (w64 (Int.tdiv a2 4)))).f1)).set ((Int.tmod a2 4).toNat) a3)), (S88.mk false ((([] : List Int) ++ ((rd_T88 a0_0 a1).f1)).set ((w64 (Int.tdiv a2 4)).toNat) (t1.length : Int)))] : List S88)), (w64 (((t1 ++ ([(S88.mk true ((([] : List Int) ++ ((rd_T88 a0_0 (rd_T3 (([] : List Int) ++ ((rd_T88 a0_0 a1).f1)) (w64 (Int.tdiv a2 4)))).f1)).set ((Int.tmod a2 4).toNat) a3)), (S88.mk false ((([] : List Int) ++ ((rd_T88 a0_0 a1).f1)).set ((w64 (Int.tdiv a2 4)).toNat) (t1.length : Int)))] : List S88)).length : Int) - 1)))) else none else none else none else none else none else none else none else none else bif decide (0 ≤ (Int.tmod a2 4)) then bif decide ((Int.tmod a2 4) < ((List.replicate 4 z3).length : Int)) then bif decide (0 ≤ (w64 (Int.tdiv a2 4))) then bif decide ((w64 (Int.tdiv a2 4)) < ((([] : List Int) ++ ((rd_T88 a0_0 a1).f1)).length : Int)) then bif decide (t1.length + ([(S88.mk true ((List.replicate 4 z3).set ((Int.tmod a2 4).toNat) a3)), (S88.mk false ((([] : List Int) ++ ((rd_T88 a0_0 a1).f1)).set ((w64 (Int.tdiv a2 4)).toNat) (t1.length : Int)))] : List S88).length ≤ 4398046511104) then some (spec_PutAt.e ((t1 ++ ([(S88.mk true ((List.replicate 4 z3).set ((Int.tmod a2 4).toNat) a3)), (S88.mk false ((([] : List Int) ++ ((rd_T88 a0_0 a1).f1)).set ((w64 (Int.tdiv a2 4)).toNat) (t1.length : Int)))] : List S88)), (w64 (((t1 ++ ([(S88.mk true ((List.replicate 4 z3).set ((Int.tmod a2 4).toNat) a3)), (S88.mk false ((([] : List Int) ++ ((rd_T88 a0_0 a1).f1)).set ((w64 (Int.tdiv a2 4)).toNat) (t1.length : Int)))] : List S88)).length : Int) - 1)))) else none else none else none else none else none else none else none else none else none else none else bif decide (0 ≤ (Int.tmod a2 4)) then bif decide ((Int.tmod a2 4) < ((List.replicate 4 z3).length : Int)) then bif decide (0 ≤ (w64 (Int.tdiv a2 4))) then bif decide ((w64 (Int.tdiv a2 4)) < (([(-1), (-1), (-1), (-1)] : List Int).length : Int)) then bif decide (t1.length + ([(S88.mk true ((List.replicate 4 z3).set ((Int.tmod a2 4).toNat) a3)), (S88.mk false (([(-1), (-1), (-1), (-1)] : List Int).set ((w64 (Int.tdiv a2 4)).toNat) (t1.length : Int)))] : List S88).length ≤ 4398046511104) then some (spec_PutAt.e ((t1 ++ ([(S88.mk true ((List.replicate 4 z3).set ((Int.tmod a2 4).toNat) a3)), (S88.mk false (([(-1), (-1), (-1), (-1)] : List Int).set ((w64 (Int.tdiv a2 4)).toNat) (t1.length : Int)))] : List S88)), (w64 (((t1 ++ ([(S88.mk true ((List.replicate 4 z3).set ((Int.tmod a2 4).toNat) a3)), (S88.mk false (([(-1), (-1), (-1), (-1)] : List Int).set ((w64 (Int.tdiv a2 4)).toNat) (t1.length : Int)))] : List S88)).length : Int) - 1)))) else none else none else none else none else none := by kernel_rfl
set_option maxRecDepth 100000 in
theorem spec_PutAt.oke (k : Nat) (a0_0 : List S88) (a1 : Int) (a2 : Int) (a3 : Int) : goF Try.f42 spec_PutAt.ctx spec_PutAt.sp 0 spec_PutAt.en (k + 1) [.code (body Try.f42)] (startSt [.ag [.row 0 .t88 a0_0], .sc (.int .i64 a1), .sc (.int .i64 a2), .sc (.int .i64 a3)] []) = (spec_PutAt.f k a0_0 a1 a2 a3).map spec_PutAt.e := by
  rw [spec_PutAt.f]; exact (spec_PutAt.te _ k a0_0 a1 a2 a3).trans (bn (fun t1 => (bn (fun t2 => (nb rfl (bn (fun t3 => (nb rfl (bn (fun t4 => (nb rfl (cd rfl (cd (cd (cd (cd (cd (cd (cd (cd (cd (cd (cd (cd (cd (cd (cd rfl rfl) rfl) rfl) rfl) rfl) rfl) rfl) rfl) (cd (cd (cd (cd (cd rfl rfl) rfl) rfl) rfl) rfl)) rfl) rfl) rfl) rfl) rfl) (cd (cd (cd (cd (cd rfl rfl) rfl) rfl) rfl) rfl))))))))))))))
theorem spec_PutAt.con (k : Nat) (a0_0 : List S88) (a1 : Int) (a2 : Int) (a3 : Int) (r) (h : spec_PutAt.f k a0_0 a1 a2 a3 = some r) : Contract Try.prog kit 42 [.ag [.row 0 .t88 a0_0], .sc (.int .i64 a1), .sc (.int .i64 a2), .sc (.int .i64 a3)] [] (spec_PutAt.e r).1 (spec_PutAt.e r).2.1 (spec_PutAt.e r).2.2 :=
  con_okG kitOk mix (fun k => (CtxOk.cons (spec_ArenaOk.xok k) (CtxOk.cons (spec_l01In.xok k) (CtxOk.cons (spec_l11Root.xok k) (CtxOk.cons (spec_l11Copy.xok k) CtxOk.nil))))) (spec_PutAt.oke k a0_0 a1 a2 a3) h (by kernel_rfl) (by kernel_rfl) (by kernel_rfl) rfl (by kernel_rfl) rfl rfl
noncomputable def spec_PutAt.x (k : Nat) : X := fun ins bs κ => match ins, bs with
  | [.ag [.row 0 .t88 a0_0], .sc (.int .i64 a1), .sc (.int .i64 a2), .sc (.int .i64 a3)], [] => (spec_PutAt.f k a0_0 a1 a2 a3).bind fun r => κ (spec_PutAt.e r).1 (spec_PutAt.e r).2.1 (spec_PutAt.e r).2.2
  | _, _ => none
theorem spec_PutAt.xok (k : Nat) : XOk 42 (spec_PutAt.x k) := by
  intro ins bs κ res h
  unfold spec_PutAt.x at h
  split at h
  · obtain ⟨r, hr, h⟩ := Option.bind_eq_some_iff.1 h
    exact ⟨_, _, _, spec_PutAt.con k _ _ _ _ r hr, h⟩
  · cases h
end Go.Proofs.Yteideicglgpfiaa.M2

/- Plain runs of functions: each is a plain Lean function, and keeps its contract. Written by a program of this session. -/
namespace Go.Proofs.Yteideicglgpfiaa.M2
open Go Go.Proofs.Yteideicglgpfiaa.PK
set_option linter.unusedVariables false
set_option linter.unusedSimpArgs false
set_option maxHeartbeats 4000000
/-! ### spec_Enter: function 10 -/
noncomputable def spec_Enter.sp : Nat → Option (Spec Ty) := fun r => none
noncomputable def spec_Enter.en : Option (Spec Ty) := some ⟨[(4, .box [.own .t53, .own .t88, .keep]), (5, .keep)], [(1, none), (0, none)]⟩
noncomputable def spec_Enter.ctx (k : Nat) : Ctx Ty D := (cons 36 (spec_StoreOk.x k) (cons 37 (spec_RecOk.x k) (cons 38 (spec_l12Copy.x k) (cons 39 (spec_l12Vol.x k) (cons 40 (spec_l12At.x k) (cons 41 (spec_l12Swept.x k) (cons 42 (spec_PutAt.x k) (fun _ _ _ _ => none))))))))
noncomputable def spec_Enter.f (k : Nat) (a0_2 : Int) (a1_0 : Int) (a1_1 : Int) (a1_2 : Int) (a1_3 : Int) (a0_0 : List S53) (a0_1 : List S88) : Option ((List S53) × (List S88) × Int × Bool × (List S53) × (List S88)) := ((spec_StoreOk.f k a0_2 a0_0 a0_1).bind fun t1 => (if t1.1 = true then ((spec_RecOk.f k a1_0 a1_1 a1_2 a1_3).bind fun t3 => (if t3 = true then (if a1_0 = 1 then (if a1_2 = 0 then (some (([] : List S53), ([] : List S88), 1, true, t1.2.1, t1.2.2)) else (some (([] : List S53), ([] : List S88), a1_2, true, t1.2.1, t1.2.2))) else (if a1_0 = 2 then ((spec_l12Vol.f k t1.2.1 t1.2.2 a0_2 a1_0 a1_1 a1_2 a1_3).bind fun t5 => (some (t5.1, t5.2.1, t5.2.2.1, t5.2.2.2, t1.2.1, t1.2.2))) else ((spec_l12At.f k t1.2.1 t1.2.2 a0_2 a1_1).bind fun t6 => (if t6 < 0 then ((spec_l12Copy.f k t1.2.1 t1.2.2 a0_2).bind fun t7 => (some (t7.1, t7.2.1, t7.2.2, false, t1.2.1, t1.2.2))) else (if a1_3 = 1000000000 then ((spec_l12Copy.f k t1.2.1 t1.2.2 a0_2).bind fun t8 => (some (t8.1, t8.2.1, t8.2.2, false, t1.2.1, t1.2.2))) else ((spec_l12Copy.f k t1.2.1 t1.2.2 a0_2).bind fun t9 => (if a1_0 = 3 then (if 0 ≤ t6 then (if t6 ≤ (t1.2.1.length : Int) then (if ([] : List S53).length + ((t1.2.1.drop 0).take (t6.toNat - 0)).length ≤ 8796093022208 then (if 0 ≤ (w64 (t6 + 1)) then (if (w64 (t6 + 1)) ≤ (t1.2.1.length : Int) then (if (([] : List S53) ++ ((t1.2.1.drop 0).take (t6.toNat - 0))).length + ((t1.2.1.drop ((w64 (t6 + 1)).toNat)).take (t1.2.1.length - (w64 (t6 + 1)).toNat)).length ≤ 8796093022208 then ((spec_l12Swept.f k ((([] : List S53) ++ ((t1.2.1.drop 0).take (t6.toNat - 0))) ++ ((t1.2.1.drop ((w64 (t6 + 1)).toNat)).take (t1.2.1.length - (w64 (t6 + 1)).toNat))) t9.2.1 t9.2.2).bind fun t10 => (some (t10.1, t10.2.1, t10.2.2, true, t1.2.1, t1.2.2))) else none) else none) else none) else none) else none) else none) else (if 0 ≤ t6 then (if t6 < (t1.2.1.length : Int) then ((spec_PutAt.f k t1.2.2 ((rd_T53 t1.2.1 t6).f1) a1_2 a1_3).bind fun t11 => (if 0 ≤ t6 then (if t6 < (t9.1.length : Int) then (if a1_3 ≥ t9.2.2 then ((spec_l12Swept.f k (t9.1.set t6.toNat (S53.mk ((rd_T53 t9.1 t6).f0) t11.2)) t11.1 (w64 (a1_3 + 1))).bind fun t12 => (some (t12.1, t12.2.1, t12.2.2, true, t1.2.1, t1.2.2))) else ((spec_l12Swept.f k (t9.1.set t6.toNat (S53.mk ((rd_T53 t9.1 t6).f0) t11.2)) t11.1 t9.2.2).bind fun t13 => (some (t13.1, t13.2.1, t13.2.2, true, t1.2.1, t1.2.2)))) else none) else none)) else none) else none)))))))) else ((spec_l12Copy.f k t1.2.1 t1.2.2 a0_2).bind fun t4 => (some (t4.1, t4.2.1, t4.2.2, false, t1.2.1, t1.2.2))))) else ((spec_l12Copy.f k t1.2.1 t1.2.2 a0_2).bind fun t2 => (some (t2.1, t2.2.1, t2.2.2, false, t1.2.1, t1.2.2)))))
noncomputable def spec_Enter.e (r : (List S53) × (List S88) × Int × Bool × (List S53) × (List S88)) : Res Ty D := (.tu [.ag [.sl 2 none, .sl 3 none, .sc (.int .i64 r.2.2.1)], .sc (.bool r.2.2.2.1)], [some (.rowb .t53 r.2.2.2.2.1 0), some (.rowb .t88 r.2.2.2.2.2 0)], [.rowb .t53 r.1 0, .rowb .t88 r.2.1 0])
noncomputable abbrev spec_Enter.g (rec : List Item → St Ty D → R) (k : Nat) := go1 Try.f10 (spec_Enter.ctx k) spec_Enter.sp 2 spec_Enter.en rec
set_option maxRecDepth 100000 in
theorem spec_Enter.te (rec : List Item → St Ty D → R) (k : Nat) (a0_2 : Int) (a1_0 : Int) (a1_1 : Int) (a1_2 : Int) (a1_3 : Int) (a0_0 : List S53) (a0_1 : List S88) : spec_Enter.g rec k [.code (body Try.f10)] (startSt [.ag [.sl 0 none, .sl 1 none, .sc (.int .i64 a0_2)], .ag [.sc (.int .i64 a1_0), .sc (.int .i64 a1_1), .sc (.int .i64 a1_2), .sc (.int .i64 a1_3)]] [.rowb .t53 a0_0 0, .rowb .t88 a0_1 0]) =
  (spec_StoreOk.f k a0_2 a0_0 a0_1).bind fun t1 => bif !t1.1 then (spec_l12Copy.f k t1.2.1 t1.2.2 a0_2).bind fun t2 => some (spec_Enter.e (t2.1, t2.2.1, t2.2.2, false, t1.2.1, t1.2.2)) else (spec_RecOk.f k a1_0 a1_1 a1_2 a1_3).bind fun t3 => bif !t3 then (spec_l12Copy.f k t1.2.1 t1.2.2 a0_2).bind fun t4 => some (spec_Enter.e (t4.1, t4.2.1, t4.2.2, false, t1.2.1, t1.2.2)) else bif decide (a1_0 = 1) then bif decide (a1_2 = 0) then some (spec_Enter.e (([] : List S53), ([] : List S88), 1, true, t1.2.1, t1.2.2)) else some (spec_Enter.e (([] : List S53), ([] : List S88), a1_2, true, t1.2.1, t1.2.2)) else bif decide (a1_0 = 2) then (spec_l12Vol.f k t1.2.1 t1.2.2 a0_2 a1_0 a1_1 a1_2 a1_3).bind fun t5 => some (spec_Enter.e (t5.1, t5.2.1, t5.2.2.1, t5.2.2.2, t1.2.1, t1.2.2)) else (spec_l12At.f k t1.2.1 t1.2.2 a0_2 a1_1).bind fun t6 => bif decide (t6 < 0) then (spec_l12Copy.f k t1.2.1 t1.2.2 a0_2).bind fun t7 => some (spec_Enter.e (t7.1, t7.2.1, t7.2.2, false, t1.2.1, t1.2.2)) else bif decide (a1_3 = 1000000000) then (spec_l12Copy.f k t1.2.1 t1.2.2 a0_2).bind fun t8 => some (spec_Enter.e (t8.1, t8.2.1, t8.2.2, false, t1.2.1, t1.2.2)) else (spec_l12Copy.f k t1.2.1 t1.2.2 a0_2).bind fun t9 => bif decide (a1_0 = 3) then bif decide (0 ≤ t6) then bif decide (t6 ≤ (t1.2.1.length : Int)) then bif decide (([] : List S53).length + ((t1.2.1.drop 0).take (t6.toNat - 0)).length ≤ 8796093022208) then bif decide (0 ≤ (w64 (t6 + 1))) then bif decide ((w64 (t6 + 1)) ≤ (t1.2.1.length : Int)) then bif decide ((([] : List S53) ++ ((t1.2.1.drop 0).take (t6.toNat - 0))).length + ((t1.2.1.drop ((w64 (t6 + 1)).toNat)).take (t1.2.1.length - (w64 (t6 + 1)).toNat)).length ≤ 8796093022208) then (spec_l12Swept.f k ((([] : List S53) ++ ((t1.2.1.drop 0).take (t6.toNat - 0))) ++ ((t1.2.1.drop ((w64 (t6 + 1)).toNat)).take (t1.2.1.length - (w64 (t6 + 1)).toNat))) t9.2.1 t9.2.2).bind fun t10 => some (spec_Enter.e (t10.1, t10.2.1, t10.2.2, true, t1.2.1, t1.2.2)) else none else none else none else none else none else none else bif decide (0 ≤ t6) then bif decide (t6 < (t1.2.1.length : Int)) then (spec_PutAt.f k t1.2.2 ((rd_T53 t1.2.1 t6).f1) a1_2 a1_3).bind fun t11 => bif decide (0 ≤ t6) then bif decide (t6 < (t9.1.length : Int)) then bif decide (a1_3 ≥ t9.2.2) then (spec_l12Swept.f k (t9.1.set t6.toNat (S53.mk ((rd_T53 t9.1 t6).f0) t11.2)) t11.1 (w64 (a1_3 + 1))).bind fun t12 => some (spec_Enter.e (t12.1, t12.2.1, t12.2.2, true, t1.2.1, t1.2.2)) else (spec_l12Swept.f k (t9.1.set t6.toNat (S53.mk ((rd_T53 t9.1 t6).f0) t11.2)) t11.1 t9.2.2).bind fun t13 => some (spec_Enter.e (t13.1, t13.2.1, t13.2.2, true, t1.2.1, t1.2.2)) else none else none else none else none := by kernel_rfl
set_option maxRecDepth 100000 in
theorem spec_Enter.oke (k : Nat) (a0_2 : Int) (a1_0 : Int) (a1_1 : Int) (a1_2 : Int) (a1_3 : Int) (a0_0 : List S53) (a0_1 : List S88) : goF Try.f10 spec_Enter.ctx spec_Enter.sp 2 spec_Enter.en (k + 1) [.code (body Try.f10)] (startSt [.ag [.sl 0 none, .sl 1 none, .sc (.int .i64 a0_2)], .ag [.sc (.int .i64 a1_0), .sc (.int .i64 a1_1), .sc (.int .i64 a1_2), .sc (.int .i64 a1_3)]] [.rowb .t53 a0_0 0, .rowb .t88 a0_1 0]) = (spec_Enter.f k a0_2 a1_0 a1_1 a1_2 a1_3 a0_0 a0_1).map spec_Enter.e := by
  rw [spec_Enter.f]; exact (spec_Enter.te _ k a0_2 a1_0 a1_1 a1_2 a1_3 a0_0 a0_1).trans (bn (fun t1 => (nb (bn (fun t2 => rfl)) (bn (fun t3 => (nb (bn (fun t4 => rfl)) (cd (cd rfl rfl) (cd (bn (fun t5 => rfl)) (bn (fun t6 => (cd (bn (fun t7 => rfl)) (cd (bn (fun t8 => rfl)) (bn (fun t9 => (cd (cd (cd (cd (cd (cd (cd (bn (fun t10 => rfl)) rfl) rfl) rfl) rfl) rfl) rfl) (cd (cd (bn (fun t11 => (cd (cd (cd (bn (fun t12 => rfl)) (bn (fun t13 => rfl))) rfl) rfl))) rfl) rfl))))))))))))))))
theorem spec_Enter.con (k : Nat) (a0_2 : Int) (a1_0 : Int) (a1_1 : Int) (a1_2 : Int) (a1_3 : Int) (a0_0 : List S53) (a0_1 : List S88) (r) (h : spec_Enter.f k a0_2 a1_0 a1_1 a1_2 a1_3 a0_0 a0_1 = some r) : Contract Try.prog kit 10 [.ag [.sl 0 none, .sl 1 none, .sc (.int .i64 a0_2)], .ag [.sc (.int .i64 a1_0), .sc (.int .i64 a1_1), .sc (.int .i64 a1_2), .sc (.int .i64 a1_3)]] [.rowb .t53 a0_0 0, .rowb .t88 a0_1 0] (spec_Enter.e r).1 (spec_Enter.e r).2.1 (spec_Enter.e r).2.2 :=
  con_okG kitOk mix (fun k => (CtxOk.cons (spec_StoreOk.xok k) (CtxOk.cons (spec_RecOk.xok k) (CtxOk.cons (spec_l12Copy.xok k) (CtxOk.cons (spec_l12Vol.xok k) (CtxOk.cons (spec_l12At.xok k) (CtxOk.cons (spec_l12Swept.xok k) (CtxOk.cons (spec_PutAt.xok k) CtxOk.nil)))))))) (spec_Enter.oke k a0_2 a1_0 a1_1 a1_2 a1_3 a0_0 a0_1) h (by kernel_rfl) (by kernel_rfl) (by kernel_rfl) rfl (by kernel_rfl) rfl rfl
noncomputable def spec_Enter.x (k : Nat) : X := fun ins bs κ => match ins, bs with
  | [.ag [.sl 0 none, .sl 1 none, .sc (.int .i64 a0_2)], .ag [.sc (.int .i64 a1_0), .sc (.int .i64 a1_1), .sc (.int .i64 a1_2), .sc (.int .i64 a1_3)]], [.rowb .t53 a0_0 0, .rowb .t88 a0_1 0] => (spec_Enter.f k a0_2 a1_0 a1_1 a1_2 a1_3 a0_0 a0_1).bind fun r => κ (spec_Enter.e r).1 (spec_Enter.e r).2.1 (spec_Enter.e r).2.2
  | _, _ => none
theorem spec_Enter.xok (k : Nat) : XOk 10 (spec_Enter.x k) := by
  intro ins bs κ res h
  unfold spec_Enter.x at h
  split at h
  · obtain ⟨r, hr, h⟩ := Option.bind_eq_some_iff.1 h
    exact ⟨_, _, _, spec_Enter.con k _ _ _ _ _ _ _ r hr, h⟩
  · cases h

/-! ### laws_toVol: function 82 -/
noncomputable def laws_toVol.sp : Nat → Option (Spec Ty) := fun r => none
noncomputable def laws_toVol.en : Option (Spec Ty) := none
noncomputable def laws_toVol.ctx (k : Nat) : Ctx Ty D := (fun _ _ _ _ => none)
noncomputable def laws_toVol.f (k : Nat) (a0_0 : Int) (a0_1 : Int) : Option (Int × Int) := (some (a0_0, a0_1))
noncomputable def laws_toVol.e (r : Int × Int) : Res Ty D := (.ag [.sc (.int .i64 r.1), .sc (.int .i64 r.2)], [], [])
noncomputable abbrev laws_toVol.g (rec : List Item → St Ty D → R) (k : Nat) := go1 Try.f82 (laws_toVol.ctx k) laws_toVol.sp 0 laws_toVol.en rec
set_option maxRecDepth 100000 in
theorem laws_toVol.te (rec : List Item → St Ty D → R) (k : Nat) (a0_0 : Int) (a0_1 : Int) : laws_toVol.g rec k [.code (body Try.f82)] (startSt [.ag [.sc (.int .i64 a0_0), .sc (.int .i64 a0_1)]] []) =
  some (laws_toVol.e (a0_0, a0_1)) := by kernel_rfl
set_option maxRecDepth 100000 in
theorem laws_toVol.oke (k : Nat) (a0_0 : Int) (a0_1 : Int) : goF Try.f82 laws_toVol.ctx laws_toVol.sp 0 laws_toVol.en (k + 1) [.code (body Try.f82)] (startSt [.ag [.sc (.int .i64 a0_0), .sc (.int .i64 a0_1)]] []) = (laws_toVol.f k a0_0 a0_1).map laws_toVol.e := by
  rw [laws_toVol.f]; exact (laws_toVol.te _ k a0_0 a0_1).trans rfl
theorem laws_toVol.con (k : Nat) (a0_0 : Int) (a0_1 : Int) (r) (h : laws_toVol.f k a0_0 a0_1 = some r) : Contract Try.prog kit 82 [.ag [.sc (.int .i64 a0_0), .sc (.int .i64 a0_1)]] [] (laws_toVol.e r).1 (laws_toVol.e r).2.1 (laws_toVol.e r).2.2 :=
  con_okG kitOk mix (fun k => CtxOk.nil) (laws_toVol.oke k a0_0 a0_1) h (by kernel_rfl) (by kernel_rfl) (by kernel_rfl) rfl (by kernel_rfl) rfl rfl
noncomputable def laws_toVol.x (k : Nat) : X := fun ins bs κ => match ins, bs with
  | [.ag [.sc (.int .i64 a0_0), .sc (.int .i64 a0_1)]], [] => (laws_toVol.f k a0_0 a0_1).bind fun r => κ (laws_toVol.e r).1 (laws_toVol.e r).2.1 (laws_toVol.e r).2.2
  | _, _ => none
theorem laws_toVol.xok (k : Nat) : XOk 82 (laws_toVol.x k) := by
  intro ins bs κ res h
  unfold laws_toVol.x at h
  split at h
  · obtain ⟨r, hr, h⟩ := Option.bind_eq_some_iff.1 h
    exact ⟨_, _, _, laws_toVol.con k _ _ r hr, h⟩
  · cases h

/-! ### laws_toVolS: function 43 -/
noncomputable def laws_toVolS.sp : Nat → Option (Spec Ty) := fun r => bif Nat.beq r 3 then some ⟨[(0, .keep), (3, .own .t53), (4, .keep)], []⟩ else none
noncomputable def laws_toVolS.en : Option (Spec Ty) := some ⟨[(2, .own .t53)], []⟩
noncomputable def laws_toVolS.s3 (x0 : List S96) (x4 : Int) (h64 : List S53) : St Ty D := ⟨(Env.put (Env.put (Env.put E (some 0) (.row 0 .t96 x0)) (some 3) (.sl 64 none)) (some 4) (.sc (.int .i64 x4))), Heap.put H0 [(64, some (.rowb .t53 h64 0))], 1000⟩
noncomputable def laws_toVolS.ctx (k : Nat) : Ctx Ty D := (cons 82 (laws_toVol.x k) (fun _ _ _ _ => none))
noncomputable def laws_toVolS.c3 : Nat → (List S96) → Int → (List S53) → Option ((List S53))
  | 0, _, _, _ => none
  | k + 1, x0, x4, h64 => (if x4 < (x0.length : Int) then (if 0 ≤ x4 then (if x4 < (x0.length : Int) then ((laws_toVol.f k ((rd_T96 x0 x4).f0) ((rd_T96 x0 x4).f1)).bind fun t1 => (if 0 ≤ x4 then (if x4 < (h64.length : Int) then (laws_toVolS.c3 k x0 (w64 (x4 + 1)) (h64.set x4.toNat (S53.mk t1.1 t1.2))) else none) else none)) else none) else none) else (some (h64)))
noncomputable def laws_toVolS.f (k : Nat) (a0 : List S96) : Option ((List S53)) := (if 0 ≤ (a0.length : Int) then (if (a0.length : Int).toNat ≤ 17592186044416 then (laws_toVolS.c3 k a0 0 (List.replicate ((a0.length : Int).toNat) z53)) else none) else none)
noncomputable def laws_toVolS.e (r : (List S53)) : Res Ty D := (.sl 0 none, [], [.rowb .t53 r 0])
noncomputable abbrev laws_toVolS.g (rec : List Item → St Ty D → R) (k : Nat) := go1 Try.f43 (laws_toVolS.ctx k) laws_toVolS.sp 0 laws_toVolS.en rec
set_option maxRecDepth 100000 in
theorem laws_toVolS.t3 (rec : List Item → St Ty D → R) (k : Nat) (x0 : List S96) (x4 : Int) (h64 : List S53) : laws_toVolS.g rec k (td Try.f43 3) (laws_toVolS.s3 x0 x4 h64) =
  bif decide (x4 < (x0.length : Int)) then bif decide (0 ≤ x4) then bif decide (x4 < (x0.length : Int)) then (laws_toVol.f k ((rd_T96 x0 x4).f0) ((rd_T96 x0 x4).f1)).bind fun t1 => bif decide (0 ≤ x4) then bif decide (x4 < (h64.length : Int)) then rec (td Try.f43 3) (laws_toVolS.s3 x0 (w64 (x4 + 1)) (h64.set x4.toNat (S53.mk t1.1 t1.2))) else none else none else none else none else some (laws_toVolS.e (h64)) := by kernel_rfl
set_option maxRecDepth 100000 in
theorem laws_toVolS.te (rec : List Item → St Ty D → R) (k : Nat) (a0 : List S96) : laws_toVolS.g rec k [.code (body Try.f43)] (startSt [.row 0 .t96 a0] []) =
  bif decide ((a0.length : Int) = (a0.length : Int)) then bif decide (0 ≤ (a0.length : Int)) then bif decide ((a0.length : Int).toNat ≤ 17592186044416) then rec (td Try.f43 3) (laws_toVolS.s3 a0 0 (List.replicate ((a0.length : Int).toNat) z53)) else none else none else none := by kernel_rfl
set_option maxRecDepth 100000 in
theorem laws_toVolS.ok : ∀ k : Nat, (∀ (x0 : List S96) (x4 : Int) (h64 : List S53), goF Try.f43 laws_toVolS.ctx laws_toVolS.sp 0 laws_toVolS.en k (td Try.f43 3) (laws_toVolS.s3 x0 x4 h64) = (laws_toVolS.c3 k x0 x4 h64).map laws_toVolS.e)
  | 0 => fun _ _ _ => rfl
  | k + 1 => by
    have ih := laws_toVolS.ok k
    have i3 := ih
    intro x0 x4 h64; rw [laws_toVolS.c3]; exact (laws_toVolS.t3 _ k x0 x4 h64).trans (cd (cd (cd (bn (fun t1 => (cd (cd (i3 _ _ _) rfl) rfl))) rfl) rfl) rfl)
set_option maxRecDepth 100000 in
theorem laws_toVolS.oke (k : Nat) (a0 : List S96) : goF Try.f43 laws_toVolS.ctx laws_toVolS.sp 0 laws_toVolS.en (k + 1) [.code (body Try.f43)] (startSt [.row 0 .t96 a0] []) = (laws_toVolS.f k a0).map laws_toVolS.e := by
  have i3 := laws_toVolS.ok k
  rw [laws_toVolS.f]; exact (laws_toVolS.te _ k a0).trans (sf (cd (cd (i3 _ _ _) rfl) rfl))
theorem laws_toVolS.con (k : Nat) (a0 : List S96) (r) (h : laws_toVolS.f k a0 = some r) : Contract Try.prog kit 43 [.row 0 .t96 a0] [] (laws_toVolS.e r).1 (laws_toVolS.e r).2.1 (laws_toVolS.e r).2.2 :=
  con_okG kitOk mix (fun k => (CtxOk.cons (laws_toVol.xok k) CtxOk.nil)) (laws_toVolS.oke k a0) h (by kernel_rfl) (by kernel_rfl) (by kernel_rfl) rfl (by kernel_rfl) rfl rfl
noncomputable def laws_toVolS.x (k : Nat) : X := fun ins bs κ => match ins, bs with
  | [.row 0 .t96 a0], [] => (laws_toVolS.f k a0).bind fun r => κ (laws_toVolS.e r).1 (laws_toVolS.e r).2.1 (laws_toVolS.e r).2.2
  | _, _ => none
theorem laws_toVolS.xok (k : Nat) : XOk 43 (laws_toVolS.x k) := by
  intro ins bs κ res h
  unfold laws_toVolS.x at h
  split at h
  · obtain ⟨r, hr, h⟩ := Option.bind_eq_some_iff.1 h
    exact ⟨_, _, _, laws_toVolS.con k _ r hr, h⟩
  · cases h

/-! ### laws_toIntS: function 108 -/
noncomputable def laws_toIntS.sp : Nat → Option (Spec Ty) := fun r => bif Nat.beq r 3 then some ⟨[(0, .keep), (3, .own .t3), (4, .keep)], []⟩ else none
noncomputable def laws_toIntS.en : Option (Spec Ty) := some ⟨[(2, .own .t3)], []⟩
noncomputable def laws_toIntS.s3 (x0 : List Int) (x4 : Int) (h64 : List Int) : St Ty D := ⟨(Env.put (Env.put (Env.put E (some 0) (.row 0 .t3 x0)) (some 3) (.sl 64 none)) (some 4) (.sc (.int .i64 x4))), Heap.put H0 [(64, some (.rowb .t3 h64 0))], 1000⟩
noncomputable def laws_toIntS.ctx (k : Nat) : Ctx Ty D := (fun _ _ _ _ => none)
noncomputable def laws_toIntS.c3 : Nat → (List Int) → Int → (List Int) → Option ((List Int))
  | 0, _, _, _ => none
  | k + 1, x0, x4, h64 => (if x4 < (x0.length : Int) then (if 0 ≤ x4 then (if x4 < (x0.length : Int) then (if 0 ≤ x4 then (if x4 < (h64.length : Int) then (laws_toIntS.c3 k x0 (w64 (x4 + 1)) (h64.set x4.toNat (rd_T3 x0 x4))) else none) else none) else none) else none) else (some (h64)))
noncomputable def laws_toIntS.f (k : Nat) (a0 : List Int) : Option ((List Int)) := (if 0 ≤ (a0.length : Int) then (if (a0.length : Int).toNat ≤ 35184372088832 then (laws_toIntS.c3 k a0 0 (List.replicate ((a0.length : Int).toNat) z3)) else none) else none)
noncomputable def laws_toIntS.e (r : (List Int)) : Res Ty D := (.sl 0 none, [], [.rowb .t3 r 0])
noncomputable abbrev laws_toIntS.g (rec : List Item → St Ty D → R) (k : Nat) := go1 Try.f108 (laws_toIntS.ctx k) laws_toIntS.sp 0 laws_toIntS.en rec
set_option maxRecDepth 100000 in
theorem laws_toIntS.t3 (rec : List Item → St Ty D → R) (k : Nat) (x0 : List Int) (x4 : Int) (h64 : List Int) : laws_toIntS.g rec k (td Try.f108 3) (laws_toIntS.s3 x0 x4 h64) =
  bif decide (x4 < (x0.length : Int)) then bif decide (0 ≤ x4) then bif decide (x4 < (x0.length : Int)) then bif decide (0 ≤ x4) then bif decide (x4 < (h64.length : Int)) then rec (td Try.f108 3) (laws_toIntS.s3 x0 (w64 (x4 + 1)) (h64.set x4.toNat (rd_T3 x0 x4))) else none else none else none else none else some (laws_toIntS.e (h64)) := by kernel_rfl
set_option maxRecDepth 100000 in
theorem laws_toIntS.te (rec : List Item → St Ty D → R) (k : Nat) (a0 : List Int) : laws_toIntS.g rec k [.code (body Try.f108)] (startSt [.row 0 .t3 a0] []) =
  bif decide ((a0.length : Int) = (a0.length : Int)) then bif decide (0 ≤ (a0.length : Int)) then bif decide ((a0.length : Int).toNat ≤ 35184372088832) then rec (td Try.f108 3) (laws_toIntS.s3 a0 0 (List.replicate ((a0.length : Int).toNat) z3)) else none else none else none := by kernel_rfl
set_option maxRecDepth 100000 in
theorem laws_toIntS.ok : ∀ k : Nat, (∀ (x0 : List Int) (x4 : Int) (h64 : List Int), goF Try.f108 laws_toIntS.ctx laws_toIntS.sp 0 laws_toIntS.en k (td Try.f108 3) (laws_toIntS.s3 x0 x4 h64) = (laws_toIntS.c3 k x0 x4 h64).map laws_toIntS.e)
  | 0 => fun _ _ _ => rfl
  | k + 1 => by
    have ih := laws_toIntS.ok k
    have i3 := ih
    intro x0 x4 h64; rw [laws_toIntS.c3]; exact (laws_toIntS.t3 _ k x0 x4 h64).trans (cd (cd (cd (cd (cd (i3 _ _ _) rfl) rfl) rfl) rfl) rfl)
set_option maxRecDepth 100000 in
theorem laws_toIntS.oke (k : Nat) (a0 : List Int) : goF Try.f108 laws_toIntS.ctx laws_toIntS.sp 0 laws_toIntS.en (k + 1) [.code (body Try.f108)] (startSt [.row 0 .t3 a0] []) = (laws_toIntS.f k a0).map laws_toIntS.e := by
  have i3 := laws_toIntS.ok k
  rw [laws_toIntS.f]; exact (laws_toIntS.te _ k a0).trans (sf (cd (cd (i3 _ _ _) rfl) rfl))
theorem laws_toIntS.con (k : Nat) (a0 : List Int) (r) (h : laws_toIntS.f k a0 = some r) : Contract Try.prog kit 108 [.row 0 .t3 a0] [] (laws_toIntS.e r).1 (laws_toIntS.e r).2.1 (laws_toIntS.e r).2.2 :=
  con_okG kitOk mix (fun k => CtxOk.nil) (laws_toIntS.oke k a0) h (by kernel_rfl) (by kernel_rfl) (by kernel_rfl) rfl (by kernel_rfl) rfl rfl
noncomputable def laws_toIntS.x (k : Nat) : X := fun ins bs κ => match ins, bs with
  | [.row 0 .t3 a0], [] => (laws_toIntS.f k a0).bind fun r => κ (laws_toIntS.e r).1 (laws_toIntS.e r).2.1 (laws_toIntS.e r).2.2
  | _, _ => none
theorem laws_toIntS.xok (k : Nat) : XOk 108 (laws_toIntS.x k) := by
  intro ins bs κ res h
  unfold laws_toIntS.x at h
  split at h
  · obtain ⟨r, hr, h⟩ := Option.bind_eq_some_iff.1 h
    exact ⟨_, _, _, laws_toIntS.con k _ r hr, h⟩
  · cases h

/-! ### laws_toKnot: function 98 -/
noncomputable def laws_toKnot.sp : Nat → Option (Spec Ty) := fun r => none
noncomputable def laws_toKnot.en : Option (Spec Ty) := some ⟨[(2, .box [.keep, .own .t3])], []⟩
noncomputable def laws_toKnot.ctx (k : Nat) : Ctx Ty D := (cons 108 (laws_toIntS.x k) (fun _ _ _ _ => none))
noncomputable def laws_toKnot.f (k : Nat) (a0_0 : Bool) (a0_1 : List Int) : Option (Bool × (List Int)) := ((laws_toIntS.f k a0_1).bind fun t1 => (some (a0_0, t1)))
noncomputable def laws_toKnot.e (r : Bool × (List Int)) : Res Ty D := (.ag [.sc (.bool r.1), .sl 0 none], [], [.rowb .t3 r.2 0])
noncomputable abbrev laws_toKnot.g (rec : List Item → St Ty D → R) (k : Nat) := go1 Try.f98 (laws_toKnot.ctx k) laws_toKnot.sp 0 laws_toKnot.en rec
set_option maxRecDepth 100000 in
theorem laws_toKnot.te (rec : List Item → St Ty D → R) (k : Nat) (a0_0 : Bool) (a0_1 : List Int) : laws_toKnot.g rec k [.code (body Try.f98)] (startSt [.ag [.sc (.bool a0_0), .row 0 .t3 a0_1]] []) =
  (laws_toIntS.f k a0_1).bind fun t1 => some (laws_toKnot.e (a0_0, t1)) := by kernel_rfl
set_option maxRecDepth 100000 in
theorem laws_toKnot.oke (k : Nat) (a0_0 : Bool) (a0_1 : List Int) : goF Try.f98 laws_toKnot.ctx laws_toKnot.sp 0 laws_toKnot.en (k + 1) [.code (body Try.f98)] (startSt [.ag [.sc (.bool a0_0), .row 0 .t3 a0_1]] []) = (laws_toKnot.f k a0_0 a0_1).map laws_toKnot.e := by
  rw [laws_toKnot.f]; exact (laws_toKnot.te _ k a0_0 a0_1).trans (bn (fun t1 => rfl))
theorem laws_toKnot.con (k : Nat) (a0_0 : Bool) (a0_1 : List Int) (r) (h : laws_toKnot.f k a0_0 a0_1 = some r) : Contract Try.prog kit 98 [.ag [.sc (.bool a0_0), .row 0 .t3 a0_1]] [] (laws_toKnot.e r).1 (laws_toKnot.e r).2.1 (laws_toKnot.e r).2.2 :=
  con_okG kitOk mix (fun k => (CtxOk.cons (laws_toIntS.xok k) CtxOk.nil)) (laws_toKnot.oke k a0_0 a0_1) h (by kernel_rfl) (by kernel_rfl) (by kernel_rfl) rfl (by kernel_rfl) rfl rfl
noncomputable def laws_toKnot.x (k : Nat) : X := fun ins bs κ => match ins, bs with
  | [.ag [.sc (.bool a0_0), .row 0 .t3 a0_1]], [] => (laws_toKnot.f k a0_0 a0_1).bind fun r => κ (laws_toKnot.e r).1 (laws_toKnot.e r).2.1 (laws_toKnot.e r).2.2
  | _, _ => none
theorem laws_toKnot.xok (k : Nat) : XOk 98 (laws_toKnot.x k) := by
  intro ins bs κ res h
  unfold laws_toKnot.x at h
  split at h
  · obtain ⟨r, hr, h⟩ := Option.bind_eq_some_iff.1 h
    exact ⟨_, _, _, laws_toKnot.con k _ _ r hr, h⟩
  · cases h

/-! ### laws_toKnotS: function 83 -/
noncomputable def laws_toKnotS.sp : Nat → Option (Spec Ty) := fun r => bif Nat.beq r 3 then some ⟨[(0, .keep), (3, .own .t88), (4, .keep)], []⟩ else none
noncomputable def laws_toKnotS.en : Option (Spec Ty) := some ⟨[(2, .own .t88)], []⟩
noncomputable def laws_toKnotS.s3 (x0 : List S108) (x4 : Int) (h64 : List S88) : St Ty D := ⟨(Env.put (Env.put (Env.put E (some 0) (.row 0 .t108 x0)) (some 3) (.sl 64 none)) (some 4) (.sc (.int .i64 x4))), Heap.put H0 [(64, some (.rowb .t88 h64 0))], 1000⟩
noncomputable def laws_toKnotS.ctx (k : Nat) : Ctx Ty D := (cons 98 (laws_toKnot.x k) (fun _ _ _ _ => none))
noncomputable def laws_toKnotS.c3 : Nat → (List S108) → Int → (List S88) → Option ((List S88))
  | 0, _, _, _ => none
  | k + 1, x0, x4, h64 => (if x4 < (x0.length : Int) then (if 0 ≤ x4 then (if x4 < (x0.length : Int) then ((laws_toKnot.f k ((rd_T108 x0 x4).f0) ((rd_T108 x0 x4).f1)).bind fun t1 => (if 0 ≤ x4 then (if x4 < (h64.length : Int) then (laws_toKnotS.c3 k x0 (w64 (x4 + 1)) (h64.set x4.toNat (S88.mk t1.1 t1.2))) else none) else none)) else none) else none) else (some (h64)))
noncomputable def laws_toKnotS.f (k : Nat) (a0 : List S108) : Option ((List S88)) := (if 0 ≤ (a0.length : Int) then (if (a0.length : Int).toNat ≤ 8796093022208 then (laws_toKnotS.c3 k a0 0 (List.replicate ((a0.length : Int).toNat) z88)) else none) else none)
noncomputable def laws_toKnotS.e (r : (List S88)) : Res Ty D := (.sl 0 none, [], [.rowb .t88 r 0])
noncomputable abbrev laws_toKnotS.g (rec : List Item → St Ty D → R) (k : Nat) := go1 Try.f83 (laws_toKnotS.ctx k) laws_toKnotS.sp 0 laws_toKnotS.en rec
set_option maxRecDepth 100000 in
theorem laws_toKnotS.t3 (rec : List Item → St Ty D → R) (k : Nat) (x0 : List S108) (x4 : Int) (h64 : List S88) : laws_toKnotS.g rec k (td Try.f83 3) (laws_toKnotS.s3 x0 x4 h64) =
  bif decide (x4 < (x0.length : Int)) then bif decide (0 ≤ x4) then bif decide (x4 < (x0.length : Int)) then (laws_toKnot.f k ((rd_T108 x0 x4).f0) ((rd_T108 x0 x4).f1)).bind fun t1 => bif decide (0 ≤ x4) then bif decide (x4 < (h64.length : Int)) then rec (td Try.f83 3) (laws_toKnotS.s3 x0 (w64 (x4 + 1)) (h64.set x4.toNat (S88.mk t1.1 t1.2))) else none else none else none else none else some (laws_toKnotS.e (h64)) := by kernel_rfl
set_option maxRecDepth 100000 in
theorem laws_toKnotS.te (rec : List Item → St Ty D → R) (k : Nat) (a0 : List S108) : laws_toKnotS.g rec k [.code (body Try.f83)] (startSt [.row 0 .t108 a0] []) =
  bif decide ((a0.length : Int) = (a0.length : Int)) then bif decide (0 ≤ (a0.length : Int)) then bif decide ((a0.length : Int).toNat ≤ 8796093022208) then rec (td Try.f83 3) (laws_toKnotS.s3 a0 0 (List.replicate ((a0.length : Int).toNat) z88)) else none else none else none := by kernel_rfl
set_option maxRecDepth 100000 in
theorem laws_toKnotS.ok : ∀ k : Nat, (∀ (x0 : List S108) (x4 : Int) (h64 : List S88), goF Try.f83 laws_toKnotS.ctx laws_toKnotS.sp 0 laws_toKnotS.en k (td Try.f83 3) (laws_toKnotS.s3 x0 x4 h64) = (laws_toKnotS.c3 k x0 x4 h64).map laws_toKnotS.e)
  | 0 => fun _ _ _ => rfl
  | k + 1 => by
    have ih := laws_toKnotS.ok k
    have i3 := ih
    intro x0 x4 h64; rw [laws_toKnotS.c3]; exact (laws_toKnotS.t3 _ k x0 x4 h64).trans (cd (cd (cd (bn (fun t1 => (cd (cd (i3 _ _ _) rfl) rfl))) rfl) rfl) rfl)
set_option maxRecDepth 100000 in
theorem laws_toKnotS.oke (k : Nat) (a0 : List S108) : goF Try.f83 laws_toKnotS.ctx laws_toKnotS.sp 0 laws_toKnotS.en (k + 1) [.code (body Try.f83)] (startSt [.row 0 .t108 a0] []) = (laws_toKnotS.f k a0).map laws_toKnotS.e := by
  have i3 := laws_toKnotS.ok k
  rw [laws_toKnotS.f]; exact (laws_toKnotS.te _ k a0).trans (sf (cd (cd (i3 _ _ _) rfl) rfl))
theorem laws_toKnotS.con (k : Nat) (a0 : List S108) (r) (h : laws_toKnotS.f k a0 = some r) : Contract Try.prog kit 83 [.row 0 .t108 a0] [] (laws_toKnotS.e r).1 (laws_toKnotS.e r).2.1 (laws_toKnotS.e r).2.2 :=
  con_okG kitOk mix (fun k => (CtxOk.cons (laws_toKnot.xok k) CtxOk.nil)) (laws_toKnotS.oke k a0) h (by kernel_rfl) (by kernel_rfl) (by kernel_rfl) rfl (by kernel_rfl) rfl rfl
noncomputable def laws_toKnotS.x (k : Nat) : X := fun ins bs κ => match ins, bs with
  | [.row 0 .t108 a0], [] => (laws_toKnotS.f k a0).bind fun r => κ (laws_toKnotS.e r).1 (laws_toKnotS.e r).2.1 (laws_toKnotS.e r).2.2
  | _, _ => none
theorem laws_toKnotS.xok (k : Nat) : XOk 83 (laws_toKnotS.x k) := by
  intro ins bs κ res h
  unfold laws_toKnotS.x at h
  split at h
  · obtain ⟨r, hr, h⟩ := Option.bind_eq_some_iff.1 h
    exact ⟨_, _, _, laws_toKnotS.con k _ r hr, h⟩
  · cases h

/-! ### laws_toArena: function 44 -/
noncomputable def laws_toArena.sp : Nat → Option (Spec Ty) := fun r => none
noncomputable def laws_toArena.en : Option (Spec Ty) := some ⟨[(2, .box [.own .t88])], []⟩
noncomputable def laws_toArena.ctx (k : Nat) : Ctx Ty D := (cons 83 (laws_toKnotS.x k) (fun _ _ _ _ => none))
noncomputable def laws_toArena.f (k : Nat) (a0_0 : List S108) : Option ((List S88)) := ((laws_toKnotS.f k a0_0).bind fun t1 => (some (t1)))
noncomputable def laws_toArena.e (r : (List S88)) : Res Ty D := (.ag [.sl 0 none], [], [.rowb .t88 r 0])
noncomputable abbrev laws_toArena.g (rec : List Item → St Ty D → R) (k : Nat) := go1 Try.f44 (laws_toArena.ctx k) laws_toArena.sp 0 laws_toArena.en rec
set_option maxRecDepth 100000 in
theorem laws_toArena.te (rec : List Item → St Ty D → R) (k : Nat) (a0_0 : List S108) : laws_toArena.g rec k [.code (body Try.f44)] (startSt [.ag [.row 0 .t108 a0_0]] []) =
  (laws_toKnotS.f k a0_0).bind fun t1 => some (laws_toArena.e (t1)) := by kernel_rfl
set_option maxRecDepth 100000 in
theorem laws_toArena.oke (k : Nat) (a0_0 : List S108) : goF Try.f44 laws_toArena.ctx laws_toArena.sp 0 laws_toArena.en (k + 1) [.code (body Try.f44)] (startSt [.ag [.row 0 .t108 a0_0]] []) = (laws_toArena.f k a0_0).map laws_toArena.e := by
  rw [laws_toArena.f]; exact (laws_toArena.te _ k a0_0).trans (bn (fun t1 => rfl))
theorem laws_toArena.con (k : Nat) (a0_0 : List S108) (r) (h : laws_toArena.f k a0_0 = some r) : Contract Try.prog kit 44 [.ag [.row 0 .t108 a0_0]] [] (laws_toArena.e r).1 (laws_toArena.e r).2.1 (laws_toArena.e r).2.2 :=
  con_okG kitOk mix (fun k => (CtxOk.cons (laws_toKnotS.xok k) CtxOk.nil)) (laws_toArena.oke k a0_0) h (by kernel_rfl) (by kernel_rfl) (by kernel_rfl) rfl (by kernel_rfl) rfl rfl
noncomputable def laws_toArena.x (k : Nat) : X := fun ins bs κ => match ins, bs with
  | [.ag [.row 0 .t108 a0_0]], [] => (laws_toArena.f k a0_0).bind fun r => κ (laws_toArena.e r).1 (laws_toArena.e r).2.1 (laws_toArena.e r).2.2
  | _, _ => none
theorem laws_toArena.xok (k : Nat) : XOk 44 (laws_toArena.x k) := by
  intro ins bs κ res h
  unfold laws_toArena.x at h
  split at h
  · obtain ⟨r, hr, h⟩ := Option.bind_eq_some_iff.1 h
    exact ⟨_, _, _, laws_toArena.con k _ r hr, h⟩
  · cases h

/-! ### laws_toStore: function 11 -/
noncomputable def laws_toStore.sp : Nat → Option (Spec Ty) := fun r => none
noncomputable def laws_toStore.en : Option (Spec Ty) := some ⟨[(2, .box [.own .t53, .own .t88, .keep])], []⟩
noncomputable def laws_toStore.ctx (k : Nat) : Ctx Ty D := (cons 43 (laws_toVolS.x k) (cons 44 (laws_toArena.x k) (fun _ _ _ _ => none)))
noncomputable def laws_toStore.f (k : Nat) (a0_0 : List S96) (a0_1 : List S108) (a0_2 : Int) : Option ((List S53) × (List S88) × Int) := ((laws_toVolS.f k a0_0).bind fun t1 => ((laws_toArena.f k a0_1).bind fun t2 => (some (t1, t2, a0_2))))
noncomputable def laws_toStore.e (r : (List S53) × (List S88) × Int) : Res Ty D := (.ag [.sl 0 none, .sl 1 none, .sc (.int .i64 r.2.2)], [], [.rowb .t53 r.1 0, .rowb .t88 r.2.1 0])
noncomputable abbrev laws_toStore.g (rec : List Item → St Ty D → R) (k : Nat) := go1 Try.f11 (laws_toStore.ctx k) laws_toStore.sp 0 laws_toStore.en rec
set_option maxRecDepth 100000 in
theorem laws_toStore.te (rec : List Item → St Ty D → R) (k : Nat) (a0_0 : List S96) (a0_1 : List S108) (a0_2 : Int) : laws_toStore.g rec k [.code (body Try.f11)] (startSt [.ag [.row 0 .t96 a0_0, .row 0 .t108 a0_1, .sc (.int .i64 a0_2)]] []) =
  (laws_toVolS.f k a0_0).bind fun t1 => (laws_toArena.f k a0_1).bind fun t2 => some (laws_toStore.e (t1, t2, a0_2)) := by kernel_rfl
set_option maxRecDepth 100000 in
theorem laws_toStore.oke (k : Nat) (a0_0 : List S96) (a0_1 : List S108) (a0_2 : Int) : goF Try.f11 laws_toStore.ctx laws_toStore.sp 0 laws_toStore.en (k + 1) [.code (body Try.f11)] (startSt [.ag [.row 0 .t96 a0_0, .row 0 .t108 a0_1, .sc (.int .i64 a0_2)]] []) = (laws_toStore.f k a0_0 a0_1 a0_2).map laws_toStore.e := by
  rw [laws_toStore.f]; exact (laws_toStore.te _ k a0_0 a0_1 a0_2).trans (bn (fun t1 => (bn (fun t2 => rfl))))
theorem laws_toStore.con (k : Nat) (a0_0 : List S96) (a0_1 : List S108) (a0_2 : Int) (r) (h : laws_toStore.f k a0_0 a0_1 a0_2 = some r) : Contract Try.prog kit 11 [.ag [.row 0 .t96 a0_0, .row 0 .t108 a0_1, .sc (.int .i64 a0_2)]] [] (laws_toStore.e r).1 (laws_toStore.e r).2.1 (laws_toStore.e r).2.2 :=
  con_okG kitOk mix (fun k => (CtxOk.cons (laws_toVolS.xok k) (CtxOk.cons (laws_toArena.xok k) CtxOk.nil))) (laws_toStore.oke k a0_0 a0_1 a0_2) h (by kernel_rfl) (by kernel_rfl) (by kernel_rfl) rfl (by kernel_rfl) rfl rfl
noncomputable def laws_toStore.x (k : Nat) : X := fun ins bs κ => match ins, bs with
  | [.ag [.row 0 .t96 a0_0, .row 0 .t108 a0_1, .sc (.int .i64 a0_2)]], [] => (laws_toStore.f k a0_0 a0_1 a0_2).bind fun r => κ (laws_toStore.e r).1 (laws_toStore.e r).2.1 (laws_toStore.e r).2.2
  | _, _ => none
theorem laws_toStore.xok (k : Nat) : XOk 11 (laws_toStore.x k) := by
  intro ins bs κ res h
  unfold laws_toStore.x at h
  split at h
  · obtain ⟨r, hr, h⟩ := Option.bind_eq_some_iff.1 h
    exact ⟨_, _, _, laws_toStore.con k _ _ _ r hr, h⟩
  · cases h

/-! ### laws_toRec: function 12 -/
noncomputable def laws_toRec.sp : Nat → Option (Spec Ty) := fun r => none
noncomputable def laws_toRec.en : Option (Spec Ty) := none
noncomputable def laws_toRec.ctx (k : Nat) : Ctx Ty D := (fun _ _ _ _ => none)
noncomputable def laws_toRec.f (k : Nat) (a0_0 : Int) (a0_1 : Int) (a0_2 : Int) (a0_3 : Int) : Option (Int × Int × Int × Int) := (some (a0_0, a0_1, a0_2, a0_3))
noncomputable def laws_toRec.e (r : Int × Int × Int × Int) : Res Ty D := (.ag [.sc (.int .i64 r.1), .sc (.int .i64 r.2.1), .sc (.int .i64 r.2.2.1), .sc (.int .i64 r.2.2.2)], [], [])
noncomputable abbrev laws_toRec.g (rec : List Item → St Ty D → R) (k : Nat) := go1 Try.f12 (laws_toRec.ctx k) laws_toRec.sp 0 laws_toRec.en rec
set_option maxRecDepth 100000 in
theorem laws_toRec.te (rec : List Item → St Ty D → R) (k : Nat) (a0_0 : Int) (a0_1 : Int) (a0_2 : Int) (a0_3 : Int) : laws_toRec.g rec k [.code (body Try.f12)] (startSt [.ag [.sc (.int .i64 a0_0), .sc (.int .i64 a0_1), .sc (.int .i64 a0_2), .sc (.int .i64 a0_3)]] []) =
  some (laws_toRec.e (a0_0, a0_1, a0_2, a0_3)) := by kernel_rfl
set_option maxRecDepth 100000 in
theorem laws_toRec.oke (k : Nat) (a0_0 : Int) (a0_1 : Int) (a0_2 : Int) (a0_3 : Int) : goF Try.f12 laws_toRec.ctx laws_toRec.sp 0 laws_toRec.en (k + 1) [.code (body Try.f12)] (startSt [.ag [.sc (.int .i64 a0_0), .sc (.int .i64 a0_1), .sc (.int .i64 a0_2), .sc (.int .i64 a0_3)]] []) = (laws_toRec.f k a0_0 a0_1 a0_2 a0_3).map laws_toRec.e := by
  rw [laws_toRec.f]; exact (laws_toRec.te _ k a0_0 a0_1 a0_2 a0_3).trans rfl
theorem laws_toRec.con (k : Nat) (a0_0 : Int) (a0_1 : Int) (a0_2 : Int) (a0_3 : Int) (r) (h : laws_toRec.f k a0_0 a0_1 a0_2 a0_3 = some r) : Contract Try.prog kit 12 [.ag [.sc (.int .i64 a0_0), .sc (.int .i64 a0_1), .sc (.int .i64 a0_2), .sc (.int .i64 a0_3)]] [] (laws_toRec.e r).1 (laws_toRec.e r).2.1 (laws_toRec.e r).2.2 :=
  con_okG kitOk mix (fun k => CtxOk.nil) (laws_toRec.oke k a0_0 a0_1 a0_2 a0_3) h (by kernel_rfl) (by kernel_rfl) (by kernel_rfl) rfl (by kernel_rfl) rfl rfl
noncomputable def laws_toRec.x (k : Nat) : X := fun ins bs κ => match ins, bs with
  | [.ag [.sc (.int .i64 a0_0), .sc (.int .i64 a0_1), .sc (.int .i64 a0_2), .sc (.int .i64 a0_3)]], [] => (laws_toRec.f k a0_0 a0_1 a0_2 a0_3).bind fun r => κ (laws_toRec.e r).1 (laws_toRec.e r).2.1 (laws_toRec.e r).2.2
  | _, _ => none
theorem laws_toRec.xok (k : Nat) : XOk 12 (laws_toRec.x k) := by
  intro ins bs κ res h
  unfold laws_toRec.x at h
  split at h
  · obtain ⟨r, hr, h⟩ := Option.bind_eq_some_iff.1 h
    exact ⟨_, _, _, laws_toRec.con k _ _ _ _ r hr, h⟩
  · cases h

/-! ### impl_in: function 68 -/
noncomputable def impl_in.sp : Nat → Option (Spec Ty) := fun r => none
noncomputable def impl_in.en : Option (Spec Ty) := none
noncomputable def impl_in.ctx (k : Nat) : Ctx Ty D := (fun _ _ _ _ => none)
noncomputable def impl_in.f (k : Nat) (a0 : Int) (a1 : Int) (a2 : Int) : Option (Bool) := (if a0 ≥ a1 then (some ((decide (a0 ≤ a2)))) else (some (false)))
noncomputable def impl_in.e (r : Bool) : Res Ty D := (.sc (.bool r), [], [])
noncomputable abbrev impl_in.g (rec : List Item → St Ty D → R) (k : Nat) := go1 Try.f68 (impl_in.ctx k) impl_in.sp 0 impl_in.en rec
set_option maxRecDepth 100000 in
theorem impl_in.te (rec : List Item → St Ty D → R) (k : Nat) (a0 : Int) (a1 : Int) (a2 : Int) : impl_in.g rec k [.code (body Try.f68)] (startSt [.sc (.int .i64 a0), .sc (.int .i64 a1), .sc (.int .i64 a2)] []) =
  bif decide (a0 ≥ a1) then some (impl_in.e ((decide (a0 ≤ a2)))) else some (impl_in.e (false)) := by kernel_rfl
set_option maxRecDepth 100000 in
theorem impl_in.oke (k : Nat) (a0 : Int) (a1 : Int) (a2 : Int) : goF Try.f68 impl_in.ctx impl_in.sp 0 impl_in.en (k + 1) [.code (body Try.f68)] (startSt [.sc (.int .i64 a0), .sc (.int .i64 a1), .sc (.int .i64 a2)] []) = (impl_in.f k a0 a1 a2).map impl_in.e := by
  rw [impl_in.f]; exact (impl_in.te _ k a0 a1 a2).trans (cd rfl rfl)
theorem impl_in.con (k : Nat) (a0 : Int) (a1 : Int) (a2 : Int) (r) (h : impl_in.f k a0 a1 a2 = some r) : Contract Try.prog kit 68 [.sc (.int .i64 a0), .sc (.int .i64 a1), .sc (.int .i64 a2)] [] (impl_in.e r).1 (impl_in.e r).2.1 (impl_in.e r).2.2 :=
  con_okG kitOk mix (fun k => CtxOk.nil) (impl_in.oke k a0 a1 a2) h (by kernel_rfl) (by kernel_rfl) (by kernel_rfl) rfl (by kernel_rfl) rfl rfl
noncomputable def impl_in.x (k : Nat) : X := fun ins bs κ => match ins, bs with
  | [.sc (.int .i64 a0), .sc (.int .i64 a1), .sc (.int .i64 a2)], [] => (impl_in.f k a0 a1 a2).bind fun r => κ (impl_in.e r).1 (impl_in.e r).2.1 (impl_in.e r).2.2
  | _, _ => none
theorem impl_in.xok (k : Nat) : XOk 68 (impl_in.x k) := by
  intro ins bs κ res h
  unfold impl_in.x at h
  split at h
  · obtain ⟨r, hr, h⟩ := Option.bind_eq_some_iff.1 h
    exact ⟨_, _, _, impl_in.con k _ _ _ r hr, h⟩
  · cases h

/-! ### impl_ArenaOk: function 67 -/
noncomputable def impl_ArenaOk.sp : Nat → Option (Spec Ty) := fun r => bif Nat.beq r 2 then some ⟨[(1, .box [.keep]), (8, .keep), (9, .keep), (10, .keep)], []⟩ else bif Nat.beq r 7 then some ⟨[(1, .box [.keep]), (3, .keep), (4, .box [.keep, .keep]), (8, .keep), (9, .keep), (10, .keep), (20, .keep), (21, .keep), (22, .keep)], []⟩ else none
noncomputable def impl_ArenaOk.en : Option (Spec Ty) := none
noncomputable def impl_ArenaOk.s2 (x8 : List S88) (x9 : Int) (x10 : Int) (h64_0 : List S88) : St Ty D := ⟨(Env.put (Env.put (Env.put (Env.put E (some 1) (.pt 64 0 0)) (some 8) (.row 0 .t88 x8)) (some 9) (.sc (.int .i64 x9))) (some 10) (.sc (.int .i64 x10))), Heap.put H0 [(64, some (.box [.row 0 .t88 h64_0]))], 1000⟩
noncomputable def impl_ArenaOk.s7 (x3 : Int) (x8 : List S88) (x9 : Int) (x10 : Int) (x20 : List Int) (x21 : Int) (x22 : Int) (h64_0 : List S88) (h65_0 : Bool) (h65_1 : List Int) : St Ty D := ⟨(Env.put (Env.put (Env.put (Env.put (Env.put (Env.put (Env.put (Env.put (Env.put E (some 1) (.pt 64 0 0)) (some 3) (.sc (.int .i64 x3))) (some 4) (.pt 65 0 0)) (some 8) (.row 0 .t88 x8)) (some 9) (.sc (.int .i64 x9))) (some 10) (.sc (.int .i64 x10))) (some 20) (.row 0 .t3 x20)) (some 21) (.sc (.int .i64 x21))) (some 22) (.sc (.int .i64 x22))), Heap.put H0 [(64, some (.box [.row 0 .t88 h64_0])), (65, some (.box [.sc (.bool h65_0), .row 0 .t3 h65_1]))], 1000⟩
noncomputable def impl_ArenaOk.ctx (k : Nat) : Ctx Ty D := (cons 68 (impl_in.x k) (fun _ _ _ _ => none))
mutual
noncomputable def impl_ArenaOk.c2 : Nat → (List S88) → Int → Int → (List S88) → Option (Bool)
  | 0, _, _, _, _ => none
  | k + 1, x8, x9, x10, h64_0 => (if x10 < x9 then (if 0 ≤ x10 then (if x10 < (x8.length : Int) then (if (((rd_T88 x8 x10).f1).length : Int) = 4 then (impl_ArenaOk.c7 k x10 x8 x9 x10 ((rd_T88 x8 x10).f1) (((rd_T88 x8 x10).f1).length : Int) 0 h64_0 ((rd_T88 x8 x10).f0) ((rd_T88 x8 x10).f1)) else (some (false))) else none) else none) else (some (true)))
noncomputable def impl_ArenaOk.c7 : Nat → Int → (List S88) → Int → Int → (List Int) → Int → Int → (List S88) → Bool → (List Int) → Option (Bool)
  | 0, _, _, _, _, _, _, _, _, _, _ => none
  | k + 1, x3, x8, x9, x10, x20, x21, x22, h64_0, h65_0, h65_1 => (if x22 < x21 then (if 0 ≤ x22 then (if x22 < (x20.length : Int) then (if h65_0 = true then (if (rd_T3 x20 x22) < 0 then (some (false)) else (if h65_0 = true then (impl_ArenaOk.c7 k x3 x8 x9 x10 x20 x21 (w64 (x22 + 1)) h64_0 h65_0 h65_1) else (if (rd_T3 x20 x22) = (-1) then (impl_ArenaOk.c7 k x3 x8 x9 x10 x20 x21 (w64 (x22 + 1)) h64_0 h65_0 h65_1) else ((impl_in.f k (rd_T3 x20 x22) 0 (w64 (x3 - 1))).bind fun t1 => (if t1 = true then (if 0 ≤ (rd_T3 x20 x22) then (if (rd_T3 x20 x22) < (h64_0.length : Int) then (if ((rd_T88 h64_0 (rd_T3 x20 x22)).f0) = true then (impl_ArenaOk.c7 k x3 x8 x9 x10 x20 x21 (w64 (x22 + 1)) h64_0 h65_0 h65_1) else (some (false))) else none) else none) else (some (false))))))) else (if h65_0 = true then (impl_ArenaOk.c7 k x3 x8 x9 x10 x20 x21 (w64 (x22 + 1)) h64_0 h65_0 h65_1) else (if (rd_T3 x20 x22) = (-1) then (impl_ArenaOk.c7 k x3 x8 x9 x10 x20 x21 (w64 (x22 + 1)) h64_0 h65_0 h65_1) else ((impl_in.f k (rd_T3 x20 x22) 0 (w64 (x3 - 1))).bind fun t2 => (if t2 = true then (if 0 ≤ (rd_T3 x20 x22) then (if (rd_T3 x20 x22) < (h64_0.length : Int) then (if ((rd_T88 h64_0 (rd_T3 x20 x22)).f0) = true then (impl_ArenaOk.c7 k x3 x8 x9 x10 x20 x21 (w64 (x22 + 1)) h64_0 h65_0 h65_1) else (some (false))) else none) else none) else (some (false))))))) else none) else none) else (impl_ArenaOk.c2 k x8 x9 (w64 (x10 + 1)) h64_0))
end
noncomputable def impl_ArenaOk.f (k : Nat) (a0_0 : List S88) : Option (Bool) := (impl_ArenaOk.c2 k a0_0 (a0_0.length : Int) 0 a0_0)
noncomputable def impl_ArenaOk.e (r : Bool) : Res Ty D := (.sc (.bool r), [], [])
noncomputable abbrev impl_ArenaOk.g (rec : List Item → St Ty D → R) (k : Nat) := go1 Try.f67 (impl_ArenaOk.ctx k) impl_ArenaOk.sp 0 impl_ArenaOk.en rec
set_option maxRecDepth 100000 in
theorem impl_ArenaOk.t2 (rec : List Item → St Ty D → R) (k : Nat) (x8 : List S88) (x9 : Int) (x10 : Int) (h64_0 : List S88) : impl_ArenaOk.g rec k (td Try.f67 2) (impl_ArenaOk.s2 x8 x9 x10 h64_0) =
  bif decide (x10 < x9) then bif decide (0 ≤ x10) then bif decide (x10 < (x8.length : Int)) then bif !decide ((((rd_T88 x8 x10).f1).length : Int) = 4) then some (impl_ArenaOk.e (false)) else rec (td Try.f67 7) (impl_ArenaOk.s7 x10 x8 x9 x10 ((rd_T88 x8 x10).f1) (((rd_T88 x8 x10).f1).length : Int) 0 h64_0 ((rd_T88 x8 x10).f0) ((rd_T88 x8 x10).f1)) else none else none else some (impl_ArenaOk.e (true)) := by kernel_rfl
set_option maxRecDepth 100000 in
theorem impl_ArenaOk.t7 (rec : List Item → St Ty D → R) (k : Nat) (x3 : Int) (x8 : List S88) (x9 : Int) (x10 : Int) (x20 : List Int) (x21 : Int) (x22 : Int) (h64_0 : List S88) (h65_0 : Bool) (h65_1 : List Int) : impl_ArenaOk.g rec k (td Try.f67 7) (impl_ArenaOk.s7 x3 x8 x9 x10 x20 x21 x22 h64_0 h65_0 h65_1) =
  bif decide (x22 < x21) then bif decide (0 ≤ x22) then bif decide (x22 < (x20.length : Int)) then bif h65_0 then bif decide ((rd_T3 x20 x22) < 0) then some (impl_ArenaOk.e (false)) else bif !h65_0 then bif !decide ((rd_T3 x20 x22) = (-1)) then (impl_in.f k (rd_T3 x20 x22) 0 (w64 (x3 - 1))).bind fun t1 => bif !t1 then some (impl_ArenaOk.e (false)) else bif decide (0 ≤ (rd_T3 x20 x22)) then bif decide ((rd_T3 x20 x22) < (h64_0.length : Int)) then bif !((rd_T88 h64_0 (rd_T3 x20 x22)).f0) then some (impl_ArenaOk.e (false)) else rec (td Try.f67 7) (impl_ArenaOk.s7 x3 x8 x9 x10 x20 x21 (w64 (x22 + 1)) h64_0 h65_0 h65_1) else none else none else rec (td Try.f67 7) (impl_ArenaOk.s7 x3 x8 x9 x10 x20 x21 (w64 (x22 + 1)) h64_0 h65_0 h65_1) else rec (td Try.f67 7) (impl_ArenaOk.s7 x3 x8 x9 x10 x20 x21 (w64 (x22 + 1)) h64_0 h65_0 h65_1) else bif !h65_0 then bif !decide ((rd_T3 x20 x22) = (-1)) then (impl_in.f k (rd_T3 x20 x22) 0 (w64 (x3 - 1))).bind fun t2 => bif !t2 then some (impl_ArenaOk.e (false)) else bif decide (0 ≤ (rd_T3 x20 x22)) then bif decide ((rd_T3 x20 x22) < (h64_0.length : Int)) then bif !((rd_T88 h64_0 (rd_T3 x20 x22)).f0) then some (impl_ArenaOk.e (false)) else rec (td Try.f67 7) (impl_ArenaOk.s7 x3 x8 x9 x10 x20 x21 (w64 (x22 + 1)) h64_0 h65_0 h65_1) else none else none else rec (td Try.f67 7) (impl_ArenaOk.s7 x3 x8 x9 x10 x20 x21 (w64 (x22 + 1)) h64_0 h65_0 h65_1) else rec (td Try.f67 7) (impl_ArenaOk.s7 x3 x8 x9 x10 x20 x21 (w64 (x22 + 1)) h64_0 h65_0 h65_1) else none else none else rec (td Try.f67 2) (impl_ArenaOk.s2 x8 x9 (w64 (x10 + 1)) h64_0) := by kernel_rfl
set_option maxRecDepth 100000 in
theorem impl_ArenaOk.te (rec : List Item → St Ty D → R) (k : Nat) (a0_0 : List S88) : impl_ArenaOk.g rec k [.code (body Try.f67)] (startSt [.ag [.row 0 .t88 a0_0]] []) =
  rec (td Try.f67 2) (impl_ArenaOk.s2 a0_0 (a0_0.length : Int) 0 a0_0) := by kernel_rfl
set_option maxRecDepth 100000 in
theorem impl_ArenaOk.ok : ∀ k : Nat, (∀ (x8 : List S88) (x9 : Int) (x10 : Int) (h64_0 : List S88), goF Try.f67 impl_ArenaOk.ctx impl_ArenaOk.sp 0 impl_ArenaOk.en k (td Try.f67 2) (impl_ArenaOk.s2 x8 x9 x10 h64_0) = (impl_ArenaOk.c2 k x8 x9 x10 h64_0).map impl_ArenaOk.e) ∧ (∀ (x3 : Int) (x8 : List S88) (x9 : Int) (x10 : Int) (x20 : List Int) (x21 : Int) (x22 : Int) (h64_0 : List S88) (h65_0 : Bool) (h65_1 : List Int), goF Try.f67 impl_ArenaOk.ctx impl_ArenaOk.sp 0 impl_ArenaOk.en k (td Try.f67 7) (impl_ArenaOk.s7 x3 x8 x9 x10 x20 x21 x22 h64_0 h65_0 h65_1) = (impl_ArenaOk.c7 k x3 x8 x9 x10 x20 x21 x22 h64_0 h65_0 h65_1).map impl_ArenaOk.e)
  | 0 => ⟨fun _ _ _ _ => rfl, fun _ _ _ _ _ _ _ _ _ _ => rfl⟩
  | k + 1 => by
    have ih := impl_ArenaOk.ok k
    obtain ⟨i2, i7⟩ := ih
    refine ⟨?_, ?_⟩
    · intro x8 x9 x10 h64_0; rw [impl_ArenaOk.c2]; exact (impl_ArenaOk.t2 _ k x8 x9 x10 h64_0).trans (cd (cd (cd (nd rfl (i7 _ _ _ _ _ _ _ _ _ _)) rfl) rfl) rfl)
    · intro x3 x8 x9 x10 x20 x21 x22 h64_0 h65_0 h65_1; rw [impl_ArenaOk.c7]; exact (impl_ArenaOk.t7 _ k x3 x8 x9 x10 x20 x21 x22 h64_0 h65_0 h65_1).trans (cd (cd (cd (cb (cd rfl (nb (nd (bn (fun t1 => (nb rfl (cd (cd (nb rfl (i7 _ _ _ _ _ _ _ _ _ _)) rfl) rfl)))) (i7 _ _ _ _ _ _ _ _ _ _)) (i7 _ _ _ _ _ _ _ _ _ _))) (nb (nd (bn (fun t2 => (nb rfl (cd (cd (nb rfl (i7 _ _ _ _ _ _ _ _ _ _)) rfl) rfl)))) (i7 _ _ _ _ _ _ _ _ _ _)) (i7 _ _ _ _ _ _ _ _ _ _))) rfl) rfl) (i2 _ _ _ _))
set_option maxRecDepth 100000 in
theorem impl_ArenaOk.oke (k : Nat) (a0_0 : List S88) : goF Try.f67 impl_ArenaOk.ctx impl_ArenaOk.sp 0 impl_ArenaOk.en (k + 1) [.code (body Try.f67)] (startSt [.ag [.row 0 .t88 a0_0]] []) = (impl_ArenaOk.f k a0_0).map impl_ArenaOk.e := by
  obtain ⟨i2, i7⟩ := impl_ArenaOk.ok k
  rw [impl_ArenaOk.f]; exact (impl_ArenaOk.te _ k a0_0).trans (i2 _ _ _ _)
theorem impl_ArenaOk.con (k : Nat) (a0_0 : List S88) (r) (h : impl_ArenaOk.f k a0_0 = some r) : Contract Try.prog kit 67 [.ag [.row 0 .t88 a0_0]] [] (impl_ArenaOk.e r).1 (impl_ArenaOk.e r).2.1 (impl_ArenaOk.e r).2.2 :=
  con_okG kitOk mix (fun k => (CtxOk.cons (impl_in.xok k) CtxOk.nil)) (impl_ArenaOk.oke k a0_0) h (by kernel_rfl) (by kernel_rfl) (by kernel_rfl) rfl (by kernel_rfl) rfl rfl
noncomputable def impl_ArenaOk.x (k : Nat) : X := fun ins bs κ => match ins, bs with
  | [.ag [.row 0 .t88 a0_0]], [] => (impl_ArenaOk.f k a0_0).bind fun r => κ (impl_ArenaOk.e r).1 (impl_ArenaOk.e r).2.1 (impl_ArenaOk.e r).2.2
  | _, _ => none
theorem impl_ArenaOk.xok (k : Nat) : XOk 67 (impl_ArenaOk.x k) := by
  intro ins bs κ res h
  unfold impl_ArenaOk.x at h
  split at h
  · obtain ⟨r, hr, h⟩ := Option.bind_eq_some_iff.1 h
    exact ⟨_, _, _, impl_ArenaOk.con k _ r hr, h⟩
  · cases h
end Go.Proofs.Yteideicglgpfiaa.M2

/- Plain runs of functions: each is a plain Lean function, and keeps its contract. Written by a program of this session. -/
namespace Go.Proofs.Yteideicglgpfiaa.M2
open Go Go.Proofs.Yteideicglgpfiaa.PK
set_option linter.unusedVariables false
set_option linter.unusedSimpArgs false
set_option maxHeartbeats 4000000
/-! ### impl_isRoot: function 69 -/
noncomputable def impl_isRoot.sp : Nat → Option (Spec Ty) := fun r => none
noncomputable def impl_isRoot.en : Option (Spec Ty) := none
noncomputable def impl_isRoot.ctx (k : Nat) : Ctx Ty D := (cons 68 (impl_in.x k) (fun _ _ _ _ => none))
noncomputable def impl_isRoot.f (k : Nat) (a0_0 : List S88) (a1 : Int) : Option (Bool) := ((impl_in.f k a1 0 (w64 ((a0_0.length : Int) - 1))).bind fun t1 => (if t1 = true then (if 0 ≤ a1 then (if a1 < (a0_0.length : Int) then (some ((!((rd_T88 a0_0 a1).f0)))) else none) else none) else (some (false))))
noncomputable def impl_isRoot.e (r : Bool) : Res Ty D := (.sc (.bool r), [], [])
noncomputable abbrev impl_isRoot.g (rec : List Item → St Ty D → R) (k : Nat) := go1 Try.f69 (impl_isRoot.ctx k) impl_isRoot.sp 0 impl_isRoot.en rec
set_option maxRecDepth 100000 in
theorem impl_isRoot.te (rec : List Item → St Ty D → R) (k : Nat) (a0_0 : List S88) (a1 : Int) : impl_isRoot.g rec k [.code (body Try.f69)] (startSt [.ag [.row 0 .t88 a0_0], .sc (.int .i64 a1)] []) =
  (impl_in.f k a1 0 (w64 ((a0_0.length : Int) - 1))).bind fun t1 => bif t1 then bif decide (0 ≤ a1) then bif decide (a1 < (a0_0.length : Int)) then some (impl_isRoot.e ((!((rd_T88 a0_0 a1).f0)))) else none else none else some (impl_isRoot.e (false)) := by kernel_rfl
set_option maxRecDepth 100000 in
theorem impl_isRoot.oke (k : Nat) (a0_0 : List S88) (a1 : Int) : goF Try.f69 impl_isRoot.ctx impl_isRoot.sp 0 impl_isRoot.en (k + 1) [.code (body Try.f69)] (startSt [.ag [.row 0 .t88 a0_0], .sc (.int .i64 a1)] []) = (impl_isRoot.f k a0_0 a1).map impl_isRoot.e := by
  rw [impl_isRoot.f]; exact (impl_isRoot.te _ k a0_0 a1).trans (bn (fun t1 => (cb (cd (cd rfl rfl) rfl) rfl)))
theorem impl_isRoot.con (k : Nat) (a0_0 : List S88) (a1 : Int) (r) (h : impl_isRoot.f k a0_0 a1 = some r) : Contract Try.prog kit 69 [.ag [.row 0 .t88 a0_0], .sc (.int .i64 a1)] [] (impl_isRoot.e r).1 (impl_isRoot.e r).2.1 (impl_isRoot.e r).2.2 :=
  con_okG kitOk mix (fun k => (CtxOk.cons (impl_in.xok k) CtxOk.nil)) (impl_isRoot.oke k a0_0 a1) h (by kernel_rfl) (by kernel_rfl) (by kernel_rfl) rfl (by kernel_rfl) rfl rfl
noncomputable def impl_isRoot.x (k : Nat) : X := fun ins bs κ => match ins, bs with
  | [.ag [.row 0 .t88 a0_0], .sc (.int .i64 a1)], [] => (impl_isRoot.f k a0_0 a1).bind fun r => κ (impl_isRoot.e r).1 (impl_isRoot.e r).2.1 (impl_isRoot.e r).2.2
  | _, _ => none
theorem impl_isRoot.xok (k : Nat) : XOk 69 (impl_isRoot.x k) := by
  intro ins bs κ res h
  unfold impl_isRoot.x at h
  split at h
  · obtain ⟨r, hr, h⟩ := Option.bind_eq_some_iff.1 h
    exact ⟨_, _, _, impl_isRoot.con k _ _ r hr, h⟩
  · cases h

/-! ### impl_hasInt: function 71 -/
noncomputable def impl_hasInt.sp : Nat → Option (Spec Ty) := fun r => bif Nat.beq r 2 then some ⟨[(1, .keep), (7, .keep), (8, .keep), (9, .keep)], []⟩ else none
noncomputable def impl_hasInt.en : Option (Spec Ty) := none
noncomputable def impl_hasInt.s2 (x1 : Int) (x7 : List Int) (x8 : Int) (x9 : Int) : St Ty D := ⟨(Env.put (Env.put (Env.put (Env.put E (some 1) (.sc (.int .i64 x1))) (some 7) (.row 0 .t3 x7)) (some 8) (.sc (.int .i64 x8))) (some 9) (.sc (.int .i64 x9))), H0, 1000⟩
noncomputable def impl_hasInt.ctx (k : Nat) : Ctx Ty D := (fun _ _ _ _ => none)
noncomputable def impl_hasInt.c2 : Nat → Int → (List Int) → Int → Int → Option (Bool)
  | 0, _, _, _, _ => none
  | k + 1, x1, x7, x8, x9 => (if x9 < x8 then (if 0 ≤ x9 then (if x9 < (x7.length : Int) then (if (rd_T3 x7 x9) = x1 then (some (true)) else (impl_hasInt.c2 k x1 x7 x8 (w64 (x9 + 1)))) else none) else none) else (some (false)))
noncomputable def impl_hasInt.f (k : Nat) (a0 : List Int) (a1 : Int) : Option (Bool) := (impl_hasInt.c2 k a1 a0 (a0.length : Int) 0)
noncomputable def impl_hasInt.e (r : Bool) : Res Ty D := (.sc (.bool r), [], [])
noncomputable abbrev impl_hasInt.g (rec : List Item → St Ty D → R) (k : Nat) := go1 Try.f71 (impl_hasInt.ctx k) impl_hasInt.sp 0 impl_hasInt.en rec
set_option maxRecDepth 100000 in
theorem impl_hasInt.t2 (rec : List Item → St Ty D → R) (k : Nat) (x1 : Int) (x7 : List Int) (x8 : Int) (x9 : Int) : impl_hasInt.g rec k (td Try.f71 2) (impl_hasInt.s2 x1 x7 x8 x9) =
  bif decide (x9 < x8) then bif decide (0 ≤ x9) then bif decide (x9 < (x7.length : Int)) then bif decide ((rd_T3 x7 x9) = x1) then some (impl_hasInt.e (true)) else rec (td Try.f71 2) (impl_hasInt.s2 x1 x7 x8 (w64 (x9 + 1))) else none else none else some (impl_hasInt.e (false)) := by kernel_rfl
set_option maxRecDepth 100000 in
theorem impl_hasInt.te (rec : List Item → St Ty D → R) (k : Nat) (a0 : List Int) (a1 : Int) : impl_hasInt.g rec k [.code (body Try.f71)] (startSt [.row 0 .t3 a0, .sc (.int .i64 a1)] []) =
  rec (td Try.f71 2) (impl_hasInt.s2 a1 a0 (a0.length : Int) 0) := by kernel_rfl
set_option maxRecDepth 100000 in
theorem impl_hasInt.ok : ∀ k : Nat, (∀ (x1 : Int) (x7 : List Int) (x8 : Int) (x9 : Int), goF Try.f71 impl_hasInt.ctx impl_hasInt.sp 0 impl_hasInt.en k (td Try.f71 2) (impl_hasInt.s2 x1 x7 x8 x9) = (impl_hasInt.c2 k x1 x7 x8 x9).map impl_hasInt.e)
  | 0 => fun _ _ _ _ => rfl
  | k + 1 => by
    have ih := impl_hasInt.ok k
    have i2 := ih
    intro x1 x7 x8 x9; rw [impl_hasInt.c2]; exact (impl_hasInt.t2 _ k x1 x7 x8 x9).trans (cd (cd (cd (cd rfl (i2 _ _ _ _)) rfl) rfl) rfl)
set_option maxRecDepth 100000 in
theorem impl_hasInt.oke (k : Nat) (a0 : List Int) (a1 : Int) : goF Try.f71 impl_hasInt.ctx impl_hasInt.sp 0 impl_hasInt.en (k + 1) [.code (body Try.f71)] (startSt [.row 0 .t3 a0, .sc (.int .i64 a1)] []) = (impl_hasInt.f k a0 a1).map impl_hasInt.e := by
  have i2 := impl_hasInt.ok k
  rw [impl_hasInt.f]; exact (impl_hasInt.te _ k a0 a1).trans (i2 _ _ _ _)
theorem impl_hasInt.con (k : Nat) (a0 : List Int) (a1 : Int) (r) (h : impl_hasInt.f k a0 a1 = some r) : Contract Try.prog kit 71 [.row 0 .t3 a0, .sc (.int .i64 a1)] [] (impl_hasInt.e r).1 (impl_hasInt.e r).2.1 (impl_hasInt.e r).2.2 :=
  con_okG kitOk mix (fun k => CtxOk.nil) (impl_hasInt.oke k a0 a1) h (by kernel_rfl) (by kernel_rfl) (by kernel_rfl) rfl (by kernel_rfl) rfl rfl
noncomputable def impl_hasInt.x (k : Nat) : X := fun ins bs κ => match ins, bs with
  | [.row 0 .t3 a0, .sc (.int .i64 a1)], [] => (impl_hasInt.f k a0 a1).bind fun r => κ (impl_hasInt.e r).1 (impl_hasInt.e r).2.1 (impl_hasInt.e r).2.2
  | _, _ => none
theorem impl_hasInt.xok (k : Nat) : XOk 71 (impl_hasInt.x k) := by
  intro ins bs κ res h
  unfold impl_hasInt.x at h
  split at h
  · obtain ⟨r, hr, h⟩ := Option.bind_eq_some_iff.1 h
    exact ⟨_, _, _, impl_hasInt.con k _ _ r hr, h⟩
  · cases h

/-! ### impl_knotsOf: function 70 -/
noncomputable def impl_knotsOf.sp : Nat → Option (Spec Ty) := fun r => bif Nat.beq r 5 then some ⟨[(2, .box [.keep]), (5, .own .t3), (19, .keep), (20, .keep), (21, .keep)], []⟩ else none
noncomputable def impl_knotsOf.en : Option (Spec Ty) := some ⟨[(4, .own .t3)], []⟩
noncomputable def impl_knotsOf.s5 (x19 : List Int) (x20 : Int) (x21 : Int) (h64_0 : List S88) (h65 : List Int) : St Ty D := ⟨(Env.put (Env.put (Env.put (Env.put (Env.put E (some 2) (.pt 64 0 0)) (some 5) (.sl 65 none)) (some 19) (.row 0 .t3 x19)) (some 20) (.sc (.int .i64 x20))) (some 21) (.sc (.int .i64 x21))), Heap.put H0 [(64, some (.box [.row 0 .t88 h64_0])), (65, some (.rowb .t3 h65 0))], 1000⟩
noncomputable def impl_knotsOf.ctx (k : Nat) : Ctx Ty D := (cons 68 (impl_in.x k) (cons 69 (impl_isRoot.x k) (cons 71 (impl_hasInt.x k) (fun _ _ _ _ => none))))
noncomputable def impl_knotsOf.c5 : Nat → (List Int) → Int → Int → (List S88) → (List Int) → Option ((List Int))
  | 0, _, _, _, _, _ => none
  | k + 1, x19, x20, x21, h64_0, h65 => (if x21 < x20 then (if 0 ≤ x21 then (if x21 < (x19.length : Int) then ((impl_in.f k (rd_T3 x19 x21) 0 (w64 ((h64_0.length : Int) - 1))).bind fun t2 => (if t2 = true then ((impl_hasInt.f k h65 (rd_T3 x19 x21)).bind fun t3 => (if t3 = true then (impl_knotsOf.c5 k x19 x20 (w64 (x21 + 1)) h64_0 h65) else (if h65.length + ([(rd_T3 x19 x21)] : List Int).length ≤ 17592186044416 then (impl_knotsOf.c5 k x19 x20 (w64 (x21 + 1)) h64_0 (h65 ++ ([(rd_T3 x19 x21)] : List Int))) else none))) else (impl_knotsOf.c5 k x19 x20 (w64 (x21 + 1)) h64_0 h65))) else none) else none) else (some (h65)))
noncomputable def impl_knotsOf.f (k : Nat) (a0_0 : List S88) (a1 : Int) : Option ((List Int)) := ((impl_isRoot.f k a0_0 a1).bind fun t1 => (if t1 = true then (if 0 ≤ a1 then (if a1 < (a0_0.length : Int) then (impl_knotsOf.c5 k ((rd_T88 a0_0 a1).f1) (((rd_T88 a0_0 a1).f1).length : Int) 0 a0_0 ([a1] : List Int)) else none) else none) else (some (([] : List Int)))))
noncomputable def impl_knotsOf.e (r : (List Int)) : Res Ty D := (.sl 0 none, [], [.rowb .t3 r 0])
noncomputable abbrev impl_knotsOf.g (rec : List Item → St Ty D → R) (k : Nat) := go1 Try.f70 (impl_knotsOf.ctx k) impl_knotsOf.sp 0 impl_knotsOf.en rec
set_option maxRecDepth 100000 in
theorem impl_knotsOf.t5 (rec : List Item → St Ty D → R) (k : Nat) (x19 : List Int) (x20 : Int) (x21 : Int) (h64_0 : List S88) (h65 : List Int) : impl_knotsOf.g rec k (td Try.f70 5) (impl_knotsOf.s5 x19 x20 x21 h64_0 h65) =
  bif decide (x21 < x20) then bif decide (0 ≤ x21) then bif decide (x21 < (x19.length : Int)) then (impl_in.f k (rd_T3 x19 x21) 0 (w64 ((h64_0.length : Int) - 1))).bind fun t2 => bif t2 then (impl_hasInt.f k h65 (rd_T3 x19 x21)).bind fun t3 => bif !t3 then bif decide (h65.length + ([(rd_T3 x19 x21)] : List Int).length ≤ 17592186044416) then rec (td Try.f70 5) (impl_knotsOf.s5 x19 x20 (w64 (x21 + 1)) h64_0 (h65 ++ ([(rd_T3 x19 x21)] : List Int))) else none else rec (td Try.f70 5) (impl_knotsOf.s5 x19 x20 (w64 (x21 + 1)) h64_0 h65) else rec (td Try.f70 5) (impl_knotsOf.s5 x19 x20 (w64 (x21 + 1)) h64_0 h65) else none else none else some (impl_knotsOf.e (h65)) := by kernel_rfl
set_option maxRecDepth 100000 in
theorem impl_knotsOf.te (rec : List Item → St Ty D → R) (k : Nat) (a0_0 : List S88) (a1 : Int) : impl_knotsOf.g rec k [.code (body Try.f70)] (startSt [.ag [.row 0 .t88 a0_0], .sc (.int .i64 a1)] []) =
  (impl_isRoot.f k a0_0 a1).bind fun t1 => bif !t1 then some (impl_knotsOf.e (([] : List Int))) else bif decide (0 ≤ a1) then bif decide (a1 < (a0_0.length : Int)) then rec (td Try.f70 5) (impl_knotsOf.s5 ((rd_T88 a0_0 a1).f1) (((rd_T88 a0_0 a1).f1).length : Int) 0 a0_0 ([a1] : List Int)) else none else none := by kernel_rfl
set_option maxRecDepth 100000 in
theorem impl_knotsOf.ok : ∀ k : Nat, (∀ (x19 : List Int) (x20 : Int) (x21 : Int) (h64_0 : List S88) (h65 : List Int), goF Try.f70 impl_knotsOf.ctx impl_knotsOf.sp 0 impl_knotsOf.en k (td Try.f70 5) (impl_knotsOf.s5 x19 x20 x21 h64_0 h65) = (impl_knotsOf.c5 k x19 x20 x21 h64_0 h65).map impl_knotsOf.e)
  | 0 => fun _ _ _ _ _ => rfl
  | k + 1 => by
    have ih := impl_knotsOf.ok k
    have i5 := ih
    intro x19 x20 x21 h64_0 h65; rw [impl_knotsOf.c5]; exact (impl_knotsOf.t5 _ k x19 x20 x21 h64_0 h65).trans (cd (cd (cd (bn (fun t2 => (cb (bn (fun t3 => (nb (cd (i5 _ _ _ _ _) rfl) (i5 _ _ _ _ _)))) (i5 _ _ _ _ _)))) rfl) rfl) rfl)
set_option maxRecDepth 100000 in
theorem impl_knotsOf.oke (k : Nat) (a0_0 : List S88) (a1 : Int) : goF Try.f70 impl_knotsOf.ctx impl_knotsOf.sp 0 impl_knotsOf.en (k + 1) [.code (body Try.f70)] (startSt [.ag [.row 0 .t88 a0_0], .sc (.int .i64 a1)] []) = (impl_knotsOf.f k a0_0 a1).map impl_knotsOf.e := by
  have i5 := impl_knotsOf.ok k
  rw [impl_knotsOf.f]; exact (impl_knotsOf.te _ k a0_0 a1).trans (bn (fun t1 => (nb rfl (cd (cd (i5 _ _ _ _ _) rfl) rfl))))
theorem impl_knotsOf.con (k : Nat) (a0_0 : List S88) (a1 : Int) (r) (h : impl_knotsOf.f k a0_0 a1 = some r) : Contract Try.prog kit 70 [.ag [.row 0 .t88 a0_0], .sc (.int .i64 a1)] [] (impl_knotsOf.e r).1 (impl_knotsOf.e r).2.1 (impl_knotsOf.e r).2.2 :=
  con_okG kitOk mix (fun k => (CtxOk.cons (impl_in.xok k) (CtxOk.cons (impl_isRoot.xok k) (CtxOk.cons (impl_hasInt.xok k) CtxOk.nil)))) (impl_knotsOf.oke k a0_0 a1) h (by kernel_rfl) (by kernel_rfl) (by kernel_rfl) rfl (by kernel_rfl) rfl rfl
noncomputable def impl_knotsOf.x (k : Nat) : X := fun ins bs κ => match ins, bs with
  | [.ag [.row 0 .t88 a0_0], .sc (.int .i64 a1)], [] => (impl_knotsOf.f k a0_0 a1).bind fun r => κ (impl_knotsOf.e r).1 (impl_knotsOf.e r).2.1 (impl_knotsOf.e r).2.2
  | _, _ => none
theorem impl_knotsOf.xok (k : Nat) : XOk 70 (impl_knotsOf.x k) := by
  intro ins bs κ res h
  unfold impl_knotsOf.x at h
  split at h
  · obtain ⟨r, hr, h⟩ := Option.bind_eq_some_iff.1 h
    exact ⟨_, _, _, impl_knotsOf.con k _ _ r hr, h⟩
  · cases h

/-! ### impl_StoreOk: function 26 -/
noncomputable def impl_StoreOk.sp : Nat → Option (Spec Ty) := fun r => bif Nat.beq r 5 then some ⟨[(1, .box [.keep, .keep, .keep]), (3, .own .t3), (27, .keep), (28, .keep), (29, .keep)], []⟩ else bif Nat.beq r 12 then some ⟨[(1, .box [.keep, .keep, .keep]), (3, .own .t3), (77, .keep), (78, .keep), (79, .keep)], []⟩ else bif Nat.beq r 17 then some ⟨[(1, .box [.keep, .keep, .keep]), (3, .own .t3), (7, .box [.keep, .keep]), (77, .keep), (78, .keep), (79, .keep), (89, .keep), (90, .keep), (91, .keep)], []⟩ else none
noncomputable def impl_StoreOk.en : Option (Spec Ty) := none
noncomputable def impl_StoreOk.s5 (x27 : List S53) (x28 : Int) (x29 : Int) (h64_0 : List S53) (h64_1 : List S88) (h64_2 : Int) (h65 : List Int) : St Ty D := ⟨(Env.put (Env.put (Env.put (Env.put (Env.put E (some 1) (.pt 64 0 0)) (some 3) (.sl 65 none)) (some 27) (.row 0 .t53 x27)) (some 28) (.sc (.int .i64 x28))) (some 29) (.sc (.int .i64 x29))), Heap.put H0 [(64, some (.box [.row 0 .t53 h64_0, .row 0 .t88 h64_1, .sc (.int .i64 h64_2)])), (65, some (.rowb .t3 h65 0))], 1000⟩
noncomputable def impl_StoreOk.s12 (x77 : List S88) (x78 : Int) (x79 : Int) (h64_0 : List S53) (h64_1 : List S88) (h64_2 : Int) (h65 : List Int) : St Ty D := ⟨(Env.put (Env.put (Env.put (Env.put (Env.put E (some 1) (.pt 64 0 0)) (some 3) (.sl 65 none)) (some 77) (.row 0 .t88 x77)) (some 78) (.sc (.int .i64 x78))) (some 79) (.sc (.int .i64 x79))), Heap.put H0 [(64, some (.box [.row 0 .t53 h64_0, .row 0 .t88 h64_1, .sc (.int .i64 h64_2)])), (65, some (.rowb .t3 h65 0))], 1000⟩
noncomputable def impl_StoreOk.s17 (x77 : List S88) (x78 : Int) (x79 : Int) (x89 : List Int) (x90 : Int) (x91 : Int) (h64_0 : List S53) (h64_1 : List S88) (h64_2 : Int) (h65 : List Int) (h66_0 : Bool) (h66_1 : List Int) : St Ty D := ⟨(Env.put (Env.put (Env.put (Env.put (Env.put (Env.put (Env.put (Env.put (Env.put E (some 1) (.pt 64 0 0)) (some 3) (.sl 65 none)) (some 7) (.pt 66 0 0)) (some 77) (.row 0 .t88 x77)) (some 78) (.sc (.int .i64 x78))) (some 79) (.sc (.int .i64 x79))) (some 89) (.row 0 .t3 x89)) (some 90) (.sc (.int .i64 x90))) (some 91) (.sc (.int .i64 x91))), Heap.put H0 [(64, some (.box [.row 0 .t53 h64_0, .row 0 .t88 h64_1, .sc (.int .i64 h64_2)])), (65, some (.rowb .t3 h65 0)), (66, some (.box [.sc (.bool h66_0), .row 0 .t3 h66_1]))], 1000⟩
noncomputable def impl_StoreOk.ctx (k : Nat) : Ctx Ty D := (cons 67 (impl_ArenaOk.x k) (cons 68 (impl_in.x k) (cons 69 (impl_isRoot.x k) (cons 70 (impl_knotsOf.x k) (cons 71 (impl_hasInt.x k) (fun _ _ _ _ => none))))))
mutual
noncomputable def impl_StoreOk.c5 : Nat → (List S53) → Int → Int → (List S53) → (List S88) → Int → (List Int) → Option (Bool)
  | 0, _, _, _, _, _, _, _ => none
  | k + 1, x27, x28, x29, h64_0, h64_1, h64_2, h65 => (if x29 < x28 then (if 0 ≤ x29 then (if x29 < (x27.length : Int) then ((impl_in.f k ((rd_T53 x27 x29).f0) 1 9).bind fun t3 => (if t3 = true then (if x29 > 0 then (if 0 ≤ (w64 (x29 - 1)) then (if (w64 (x29 - 1)) < (h64_0.length : Int) then (if ((rd_T53 h64_0 (w64 (x29 - 1))).f0) ≥ ((rd_T53 x27 x29).f0) then (some (false)) else (if ((rd_T53 x27 x29).f1) = (-1) then ((impl_knotsOf.f k h64_1 ((rd_T53 x27 x29).f1)).bind fun t6 => (if h65.length + t6.length ≤ 17592186044416 then (impl_StoreOk.c5 k x27 x28 (w64 (x29 + 1)) h64_0 h64_1 h64_2 (h65 ++ t6)) else none)) else ((impl_isRoot.f k h64_1 ((rd_T53 x27 x29).f1)).bind fun t4 => (if t4 = true then ((impl_knotsOf.f k h64_1 ((rd_T53 x27 x29).f1)).bind fun t5 => (if h65.length + t5.length ≤ 17592186044416 then (impl_StoreOk.c5 k x27 x28 (w64 (x29 + 1)) h64_0 h64_1 h64_2 (h65 ++ t5)) else none)) else (some (false)))))) else none) else none) else (if ((rd_T53 x27 x29).f1) = (-1) then ((impl_knotsOf.f k h64_1 ((rd_T53 x27 x29).f1)).bind fun t9 => (if h65.length + t9.length ≤ 17592186044416 then (impl_StoreOk.c5 k x27 x28 (w64 (x29 + 1)) h64_0 h64_1 h64_2 (h65 ++ t9)) else none)) else ((impl_isRoot.f k h64_1 ((rd_T53 x27 x29).f1)).bind fun t7 => (if t7 = true then ((impl_knotsOf.f k h64_1 ((rd_T53 x27 x29).f1)).bind fun t8 => (if h65.length + t8.length ≤ 17592186044416 then (impl_StoreOk.c5 k x27 x28 (w64 (x29 + 1)) h64_0 h64_1 h64_2 (h65 ++ t8)) else none)) else (some (false)))))) else (some (false)))) else none) else none) else (impl_StoreOk.c12 k h64_1 (h64_1.length : Int) 0 h64_0 h64_1 h64_2 h65))
noncomputable def impl_StoreOk.c12 : Nat → (List S88) → Int → Int → (List S53) → (List S88) → Int → (List Int) → Option (Bool)
  | 0, _, _, _, _, _, _, _ => none
  | k + 1, x77, x78, x79, h64_0, h64_1, h64_2, h65 => (if x79 < x78 then (if 0 ≤ x79 then (if x79 < (x77.length : Int) then ((impl_hasInt.f k h65 x79).bind fun t10 => (if t10 = true then (impl_StoreOk.c17 k x77 x78 x79 ((rd_T88 x77 x79).f1) (((rd_T88 x77 x79).f1).length : Int) 0 h64_0 h64_1 h64_2 h65 ((rd_T88 x77 x79).f0) ((rd_T88 x77 x79).f1)) else (some (false)))) else none) else none) else (some (true)))
noncomputable def impl_StoreOk.c17 : Nat → (List S88) → Int → Int → (List Int) → Int → Int → (List S53) → (List S88) → Int → (List Int) → Bool → (List Int) → Option (Bool)
  | 0, _, _, _, _, _, _, _, _, _, _, _, _ => none
  | k + 1, x77, x78, x79, x89, x90, x91, h64_0, h64_1, h64_2, h65, h66_0, h66_1 => (if x91 < x90 then (if 0 ≤ x91 then (if x91 < (x89.length : Int) then (if h66_0 = true then (if (rd_T3 x89 x91) ≥ h64_2 then (some (false)) else (impl_StoreOk.c17 k x77 x78 x79 x89 x90 (w64 (x91 + 1)) h64_0 h64_1 h64_2 h65 h66_0 h66_1)) else (impl_StoreOk.c17 k x77 x78 x79 x89 x90 (w64 (x91 + 1)) h64_0 h64_1 h64_2 h65 h66_0 h66_1)) else none) else none) else (impl_StoreOk.c12 k x77 x78 (w64 (x79 + 1)) h64_0 h64_1 h64_2 h65))
end
noncomputable def impl_StoreOk.f (k : Nat) (a0_0 : List S53) (a0_1 : List S88) (a0_2 : Int) : Option (Bool) := (if (a0_0.length : Int) > 3 then (some (false)) else ((impl_ArenaOk.f k a0_1).bind fun t1 => (if t1 = true then ((impl_in.f k a0_2 1 1000000000).bind fun t2 => (if t2 = true then (impl_StoreOk.c5 k a0_0 (a0_0.length : Int) 0 a0_0 a0_1 a0_2 ([] : List Int)) else (some (false)))) else (some (false)))))
noncomputable def impl_StoreOk.e (r : Bool) : Res Ty D := (.sc (.bool r), [], [])
noncomputable abbrev impl_StoreOk.g (rec : List Item → St Ty D → R) (k : Nat) := go1 Try.f26 (impl_StoreOk.ctx k) impl_StoreOk.sp 0 impl_StoreOk.en rec
set_option maxRecDepth 100000 in
theorem impl_StoreOk.t5 (rec : List Item → St Ty D → R) (k : Nat) (x27 : List S53) (x28 : Int) (x29 : Int) (h64_0 : List S53) (h64_1 : List S88) (h64_2 : Int) (h65 : List Int) : impl_StoreOk.g rec k (td Try.f26 5) (impl_StoreOk.s5 x27 x28 x29 h64_0 h64_1 h64_2 h65) =
  bif decide (x29 < x28) then bif decide (0 ≤ x29) then bif decide (x29 < (x27.length : Int)) then (impl_in.f k ((rd_T53 x27 x29).f0) 1 9).bind fun t3 => bif !t3 then some (impl_StoreOk.e (false)) else bif decide (x29 > 0) then bif decide (0 ≤ (w64 (x29 - 1))) then bif decide ((w64 (x29 - 1)) < (h64_0.length : Int)) then bif decide (((rd_T53 h64_0 (w64 (x29 - 1))).f0) ≥ ((rd_T53 x27 x29).f0)) then some (impl_StoreOk.e (false)) else bif !decide (((rd_T53 x27 x29).f1) = (-1)) then (impl_isRoot.f k h64_1 ((rd_T53 x27 x29).f1)).bind fun t4 => bif !t4 then some (impl_StoreOk.e (false)) else (impl_knotsOf.f k h64_1 ((rd_T53 x27 x29).f1)).bind fun t5 => bif decide (h65.length + t5.length ≤ 17592186044416) then rec (td Try.f26 5) (impl_StoreOk.s5 x27 x28 (w64 (x29 + 1)) h64_0 h64_1 h64_2 (h65 ++ t5)) else none else (impl_knotsOf.f k h64_1 ((rd_T53 x27 x29).f1)).bind fun t6 => bif decide (h65.length + t6.length ≤ 17592186044416) then rec (td Try.f26 5) (impl_StoreOk.s5 x27 x28 (w64 (x29 + 1)) h64_0 h64_1 h64_2 (h65 ++ t6)) else none else none else none else bif !decide (((rd_T53 x27 x29).f1) = (-1)) then (impl_isRoot.f k h64_1 ((rd_T53 x27 x29).f1)).bind fun t7 => bif !t7 then some (impl_StoreOk.e (false)) else (impl_knotsOf.f k h64_1 ((rd_T53 x27 x29).f1)).bind fun t8 => bif decide (h65.length + t8.length ≤ 17592186044416) then rec (td Try.f26 5) (impl_StoreOk.s5 x27 x28 (w64 (x29 + 1)) h64_0 h64_1 h64_2 (h65 ++ t8)) else none else (impl_knotsOf.f k h64_1 ((rd_T53 x27 x29).f1)).bind fun t9 => bif decide (h65.length + t9.length ≤ 17592186044416) then rec (td Try.f26 5) (impl_StoreOk.s5 x27 x28 (w64 (x29 + 1)) h64_0 h64_1 h64_2 (h65 ++ t9)) else none else none else none else rec (td Try.f26 12) (impl_StoreOk.s12 h64_1 (h64_1.length : Int) 0 h64_0 h64_1 h64_2 h65) := by kernel_rfl
set_option maxRecDepth 100000 in
theorem impl_StoreOk.t12 (rec : List Item → St Ty D → R) (k : Nat) (x77 : List S88) (x78 : Int) (x79 : Int) (h64_0 : List S53) (h64_1 : List S88) (h64_2 : Int) (h65 : List Int) : impl_StoreOk.g rec k (td Try.f26 12) (impl_StoreOk.s12 x77 x78 x79 h64_0 h64_1 h64_2 h65) =
  bif decide (x79 < x78) then bif decide (0 ≤ x79) then bif decide (x79 < (x77.length : Int)) then (impl_hasInt.f k h65 x79).bind fun t10 => bif !t10 then some (impl_StoreOk.e (false)) else rec (td Try.f26 17) (impl_StoreOk.s17 x77 x78 x79 ((rd_T88 x77 x79).f1) (((rd_T88 x77 x79).f1).length : Int) 0 h64_0 h64_1 h64_2 h65 ((rd_T88 x77 x79).f0) ((rd_T88 x77 x79).f1)) else none else none else some (impl_StoreOk.e (true)) := by kernel_rfl
set_option maxRecDepth 100000 in
theorem impl_StoreOk.t17 (rec : List Item → St Ty D → R) (k : Nat) (x77 : List S88) (x78 : Int) (x79 : Int) (x89 : List Int) (x90 : Int) (x91 : Int) (h64_0 : List S53) (h64_1 : List S88) (h64_2 : Int) (h65 : List Int) (h66_0 : Bool) (h66_1 : List Int) : impl_StoreOk.g rec k (td Try.f26 17) (impl_StoreOk.s17 x77 x78 x79 x89 x90 x91 h64_0 h64_1 h64_2 h65 h66_0 h66_1) =
  bif decide (x91 < x90) then bif decide (0 ≤ x91) then bif decide (x91 < (x89.length : Int)) then bif h66_0 then bif decide ((rd_T3 x89 x91) ≥ h64_2) then some (impl_StoreOk.e (false)) else rec (td Try.f26 17) (impl_StoreOk.s17 x77 x78 x79 x89 x90 (w64 (x91 + 1)) h64_0 h64_1 h64_2 h65 h66_0 h66_1) else rec (td Try.f26 17) (impl_StoreOk.s17 x77 x78 x79 x89 x90 (w64 (x91 + 1)) h64_0 h64_1 h64_2 h65 h66_0 h66_1) else none else none else rec (td Try.f26 12) (impl_StoreOk.s12 x77 x78 (w64 (x79 + 1)) h64_0 h64_1 h64_2 h65) := by kernel_rfl
set_option maxRecDepth 100000 in
theorem impl_StoreOk.te (rec : List Item → St Ty D → R) (k : Nat) (a0_0 : List S53) (a0_1 : List S88) (a0_2 : Int) : impl_StoreOk.g rec k [.code (body Try.f26)] (startSt [.ag [.row 0 .t53 a0_0, .row 0 .t88 a0_1, .sc (.int .i64 a0_2)]] []) =
  bif decide ((a0_0.length : Int) > 3) then some (impl_StoreOk.e (false)) else (impl_ArenaOk.f k a0_1).bind fun t1 => bif !t1 then some (impl_StoreOk.e (false)) else (impl_in.f k a0_2 1 1000000000).bind fun t2 => bif !t2 then some (impl_StoreOk.e (false)) else rec (td Try.f26 5) (impl_StoreOk.s5 a0_0 (a0_0.length : Int) 0 a0_0 a0_1 a0_2 ([] : List Int)) := by kernel_rfl
set_option maxRecDepth 100000 in
theorem impl_StoreOk.ok : ∀ k : Nat, (∀ (x27 : List S53) (x28 : Int) (x29 : Int) (h64_0 : List S53) (h64_1 : List S88) (h64_2 : Int) (h65 : List Int), goF Try.f26 impl_StoreOk.ctx impl_StoreOk.sp 0 impl_StoreOk.en k (td Try.f26 5) (impl_StoreOk.s5 x27 x28 x29 h64_0 h64_1 h64_2 h65) = (impl_StoreOk.c5 k x27 x28 x29 h64_0 h64_1 h64_2 h65).map impl_StoreOk.e) ∧ (∀ (x77 : List S88) (x78 : Int) (x79 : Int) (h64_0 : List S53) (h64_1 : List S88) (h64_2 : Int) (h65 : List Int), goF Try.f26 impl_StoreOk.ctx impl_StoreOk.sp 0 impl_StoreOk.en k (td Try.f26 12) (impl_StoreOk.s12 x77 x78 x79 h64_0 h64_1 h64_2 h65) = (impl_StoreOk.c12 k x77 x78 x79 h64_0 h64_1 h64_2 h65).map impl_StoreOk.e) ∧ (∀ (x77 : List S88) (x78 : Int) (x79 : Int) (x89 : List Int) (x90 : Int) (x91 : Int) (h64_0 : List S53) (h64_1 : List S88) (h64_2 : Int) (h65 : List Int) (h66_0 : Bool) (h66_1 : List Int), goF Try.f26 impl_StoreOk.ctx impl_StoreOk.sp 0 impl_StoreOk.en k (td Try.f26 17) (impl_StoreOk.s17 x77 x78 x79 x89 x90 x91 h64_0 h64_1 h64_2 h65 h66_0 h66_1) = (impl_StoreOk.c17 k x77 x78 x79 x89 x90 x91 h64_0 h64_1 h64_2 h65 h66_0 h66_1).map impl_StoreOk.e)
  | 0 => ⟨fun _ _ _ _ _ _ _ => rfl, fun _ _ _ _ _ _ _ => rfl, fun _ _ _ _ _ _ _ _ _ _ _ _ => rfl⟩
  | k + 1 => by
    have ih := impl_StoreOk.ok k
    obtain ⟨i5, i12, i17⟩ := ih
    refine ⟨?_, ?_, ?_⟩
    · intro x27 x28 x29 h64_0 h64_1 h64_2 h65; rw [impl_StoreOk.c5]; exact (impl_StoreOk.t5 _ k x27 x28 x29 h64_0 h64_1 h64_2 h65).trans (cd (cd (cd (bn (fun t3 => (nb rfl (cd (cd (cd (cd rfl (nd (bn (fun t4 => (nb rfl (bn (fun t5 => (cd (i5 _ _ _ _ _ _ _) rfl)))))) (bn (fun t6 => (cd (i5 _ _ _ _ _ _ _) rfl))))) rfl) rfl) (nd (bn (fun t7 => (nb rfl (bn (fun t8 => (cd (i5 _ _ _ _ _ _ _) rfl)))))) (bn (fun t9 => (cd (i5 _ _ _ _ _ _ _) rfl)))))))) rfl) rfl) (i12 _ _ _ _ _ _ _))
    · intro x77 x78 x79 h64_0 h64_1 h64_2 h65; rw [impl_StoreOk.c12]; exact (impl_StoreOk.t12 _ k x77 x78 x79 h64_0 h64_1 h64_2 h65).trans (cd (cd (cd (bn (fun t10 => (nb rfl (i17 _ _ _ _ _ _ _ _ _ _ _ _)))) rfl) rfl) rfl)
    · intro x77 x78 x79 x89 x90 x91 h64_0 h64_1 h64_2 h65 h66_0 h66_1; rw [impl_StoreOk.c17]; exact (impl_StoreOk.t17 _ k x77 x78 x79 x89 x90 x91 h64_0 h64_1 h64_2 h65 h66_0 h66_1).trans (cd (cd (cd (cb (cd rfl (i17 _ _ _ _ _ _ _ _ _ _ _ _)) (i17 _ _ _ _ _ _ _ _ _ _ _ _)) rfl) rfl) (i12 _ _ _ _ _ _ _))
set_option maxRecDepth 100000 in
theorem impl_StoreOk.oke (k : Nat) (a0_0 : List S53) (a0_1 : List S88) (a0_2 : Int) : goF Try.f26 impl_StoreOk.ctx impl_StoreOk.sp 0 impl_StoreOk.en (k + 1) [.code (body Try.f26)] (startSt [.ag [.row 0 .t53 a0_0, .row 0 .t88 a0_1, .sc (.int .i64 a0_2)]] []) = (impl_StoreOk.f k a0_0 a0_1 a0_2).map impl_StoreOk.e := by
  obtain ⟨i5, i12, i17⟩ := impl_StoreOk.ok k
  rw [impl_StoreOk.f]; exact (impl_StoreOk.te _ k a0_0 a0_1 a0_2).trans (cd rfl (bn (fun t1 => (nb rfl (bn (fun t2 => (nb rfl (i5 _ _ _ _ _ _ _))))))))
theorem impl_StoreOk.con (k : Nat) (a0_0 : List S53) (a0_1 : List S88) (a0_2 : Int) (r) (h : impl_StoreOk.f k a0_0 a0_1 a0_2 = some r) : Contract Try.prog kit 26 [.ag [.row 0 .t53 a0_0, .row 0 .t88 a0_1, .sc (.int .i64 a0_2)]] [] (impl_StoreOk.e r).1 (impl_StoreOk.e r).2.1 (impl_StoreOk.e r).2.2 :=
  con_okG kitOk mix (fun k => (CtxOk.cons (impl_ArenaOk.xok k) (CtxOk.cons (impl_in.xok k) (CtxOk.cons (impl_isRoot.xok k) (CtxOk.cons (impl_knotsOf.xok k) (CtxOk.cons (impl_hasInt.xok k) CtxOk.nil)))))) (impl_StoreOk.oke k a0_0 a0_1 a0_2) h (by kernel_rfl) (by kernel_rfl) (by kernel_rfl) rfl (by kernel_rfl) rfl rfl
noncomputable def impl_StoreOk.x (k : Nat) : X := fun ins bs κ => match ins, bs with
  | [.ag [.row 0 .t53 a0_0, .row 0 .t88 a0_1, .sc (.int .i64 a0_2)]], [] => (impl_StoreOk.f k a0_0 a0_1 a0_2).bind fun r => κ (impl_StoreOk.e r).1 (impl_StoreOk.e r).2.1 (impl_StoreOk.e r).2.2
  | _, _ => none
theorem impl_StoreOk.xok (k : Nat) : XOk 26 (impl_StoreOk.x k) := by
  intro ins bs κ res h
  unfold impl_StoreOk.x at h
  split at h
  · obtain ⟨r, hr, h⟩ := Option.bind_eq_some_iff.1 h
    exact ⟨_, _, _, impl_StoreOk.con k _ _ _ r hr, h⟩
  · cases h

/-! ### impl_copyInts: function 99 -/
noncomputable def impl_copyInts.sp : Nat → Option (Spec Ty) := fun r => none
noncomputable def impl_copyInts.en : Option (Spec Ty) := some ⟨[(2, .own .t3)], []⟩
noncomputable def impl_copyInts.ctx (k : Nat) : Ctx Ty D := (fun _ _ _ _ => none)
noncomputable def impl_copyInts.f (k : Nat) (a0 : List Int) : Option ((List Int)) := (if ([] : List Int).length + a0.length ≤ 17592186044416 then (some ((([] : List Int) ++ a0))) else none)
noncomputable def impl_copyInts.e (r : (List Int)) : Res Ty D := (.sl 0 none, [], [.rowb .t3 r 0])
noncomputable abbrev impl_copyInts.g (rec : List Item → St Ty D → R) (k : Nat) := go1 Try.f99 (impl_copyInts.ctx k) impl_copyInts.sp 0 impl_copyInts.en rec
set_option maxRecDepth 100000 in
theorem impl_copyInts.te (rec : List Item → St Ty D → R) (k : Nat) (a0 : List Int) : impl_copyInts.g rec k [.code (body Try.f99)] (startSt [.row 0 .t3 a0] []) =
  bif decide (([] : List Int).length + a0.length ≤ 17592186044416) then some (impl_copyInts.e ((([] : List Int) ++ a0))) else none := by kernel_rfl
set_option maxRecDepth 100000 in
theorem impl_copyInts.oke (k : Nat) (a0 : List Int) : goF Try.f99 impl_copyInts.ctx impl_copyInts.sp 0 impl_copyInts.en (k + 1) [.code (body Try.f99)] (startSt [.row 0 .t3 a0] []) = (impl_copyInts.f k a0).map impl_copyInts.e := by
  rw [impl_copyInts.f]; exact (impl_copyInts.te _ k a0).trans (cd rfl rfl)
theorem impl_copyInts.con (k : Nat) (a0 : List Int) (r) (h : impl_copyInts.f k a0 = some r) : Contract Try.prog kit 99 [.row 0 .t3 a0] [] (impl_copyInts.e r).1 (impl_copyInts.e r).2.1 (impl_copyInts.e r).2.2 :=
  con_okG kitOk mix (fun k => CtxOk.nil) (impl_copyInts.oke k a0) h (by kernel_rfl) (by kernel_rfl) (by kernel_rfl) rfl (by kernel_rfl) rfl rfl
noncomputable def impl_copyInts.x (k : Nat) : X := fun ins bs κ => match ins, bs with
  | [.row 0 .t3 a0], [] => (impl_copyInts.f k a0).bind fun r => κ (impl_copyInts.e r).1 (impl_copyInts.e r).2.1 (impl_copyInts.e r).2.2
  | _, _ => none
theorem impl_copyInts.xok (k : Nat) : XOk 99 (impl_copyInts.x k) := by
  intro ins bs κ res h
  unfold impl_copyInts.x at h
  split at h
  · obtain ⟨r, hr, h⟩ := Option.bind_eq_some_iff.1 h
    exact ⟨_, _, _, impl_copyInts.con k _ r hr, h⟩
  · cases h

/-! ### impl_copyArena: function 84 -/
noncomputable def impl_copyArena.sp : Nat → Option (Spec Ty) := fun r => bif Nat.beq r 3 then some ⟨[(2, .box [.own .t88]), (3, .box [.own .t88]), (7, .keep), (8, .keep), (9, .keep)], []⟩ else none
noncomputable def impl_copyArena.en : Option (Spec Ty) := some ⟨[(2, .box [.own .t88])], []⟩
noncomputable def impl_copyArena.s3 (x7 : List S88) (x8 : Int) (x9 : Int) (h65 : List S88) (h67 : List S88) : St Ty D := ⟨(Env.put (Env.put (Env.put (Env.put (Env.put E (some 2) (.pt 64 0 0)) (some 3) (.pt 66 0 0)) (some 7) (.row 0 .t88 x7)) (some 8) (.sc (.int .i64 x8))) (some 9) (.sc (.int .i64 x9))), Heap.put H0 [(65, some (.rowb .t88 h65 0)), (64, some (.box [.sl 65 none])), (67, some (.rowb .t88 h67 0)), (66, some (.box [.sl 67 none]))], 1000⟩
noncomputable def impl_copyArena.ctx (k : Nat) : Ctx Ty D := (cons 99 (impl_copyInts.x k) (fun _ _ _ _ => none))
noncomputable def impl_copyArena.c3 : Nat → (List S88) → Int → Int → (List S88) → (List S88) → Option ((List S88))
  | 0, _, _, _, _, _ => none
  | k + 1, x7, x8, x9, h65, h67 => (if x9 < x8 then (if 0 ≤ x9 then (if x9 < (x7.length : Int) then ((impl_copyInts.f k ((rd_T88 x7 x9).f1)).bind fun t1 => (if h67.length + ([(S88.mk ((rd_T88 x7 x9).f0) t1)] : List S88).length ≤ 4398046511104 then (impl_copyArena.c3 k x7 x8 (w64 (x9 + 1)) h65 (h67 ++ ([(S88.mk ((rd_T88 x7 x9).f0) t1)] : List S88))) else none)) else none) else none) else (some (h67)))
noncomputable def impl_copyArena.f (k : Nat) (a0_0 : List S88) : Option ((List S88)) := (impl_copyArena.c3 k a0_0 (a0_0.length : Int) 0 ([] : List S88) ([] : List S88))
noncomputable def impl_copyArena.e (r : (List S88)) : Res Ty D := (.ag [.sl 0 none], [], [.rowb .t88 r 0])
noncomputable abbrev impl_copyArena.g (rec : List Item → St Ty D → R) (k : Nat) := go1 Try.f84 (impl_copyArena.ctx k) impl_copyArena.sp 0 impl_copyArena.en rec
set_option maxRecDepth 100000 in
theorem impl_copyArena.t3 (rec : List Item → St Ty D → R) (k : Nat) (x7 : List S88) (x8 : Int) (x9 : Int) (h65 : List S88) (h67 : List S88) : impl_copyArena.g rec k (td Try.f84 3) (impl_copyArena.s3 x7 x8 x9 h65 h67) =
  bif decide (x9 < x8) then bif decide (0 ≤ x9) then bif decide (x9 < (x7.length : Int)) then (impl_copyInts.f k ((rd_T88 x7 x9).f1)).bind fun t1 => bif decide (h67.length + ([(S88.mk ((rd_T88 x7 x9).f0) t1)] : List S88).length ≤ 4398046511104) then rec (td Try.f84 3) (impl_copyArena.s3 x7 x8 (w64 (x9 + 1)) h65 (h67 ++ ([(S88.mk ((rd_T88 x7 x9).f0) t1)] : List S88))) else none else none else none else some (impl_copyArena.e (h67)) := by kernel_rfl
set_option maxRecDepth 100000 in
theorem impl_copyArena.te (rec : List Item → St Ty D → R) (k : Nat) (a0_0 : List S88) : impl_copyArena.g rec k [.code (body Try.f84)] (startSt [.ag [.row 0 .t88 a0_0]] []) =
  rec (td Try.f84 3) (impl_copyArena.s3 a0_0 (a0_0.length : Int) 0 ([] : List S88) ([] : List S88)) := by kernel_rfl
set_option maxRecDepth 100000 in
theorem impl_copyArena.ok : ∀ k : Nat, (∀ (x7 : List S88) (x8 : Int) (x9 : Int) (h65 : List S88) (h67 : List S88), goF Try.f84 impl_copyArena.ctx impl_copyArena.sp 0 impl_copyArena.en k (td Try.f84 3) (impl_copyArena.s3 x7 x8 x9 h65 h67) = (impl_copyArena.c3 k x7 x8 x9 h65 h67).map impl_copyArena.e)
  | 0 => fun _ _ _ _ _ => rfl
  | k + 1 => by
    have ih := impl_copyArena.ok k
    have i3 := ih
    intro x7 x8 x9 h65 h67; rw [impl_copyArena.c3]; exact (impl_copyArena.t3 _ k x7 x8 x9 h65 h67).trans (cd (cd (cd (bn (fun t1 => (cd (i3 _ _ _ _ _) rfl))) rfl) rfl) rfl)
set_option maxRecDepth 100000 in
theorem impl_copyArena.oke (k : Nat) (a0_0 : List S88) : goF Try.f84 impl_copyArena.ctx impl_copyArena.sp 0 impl_copyArena.en (k + 1) [.code (body Try.f84)] (startSt [.ag [.row 0 .t88 a0_0]] []) = (impl_copyArena.f k a0_0).map impl_copyArena.e := by
  have i3 := impl_copyArena.ok k
  rw [impl_copyArena.f]; exact (impl_copyArena.te _ k a0_0).trans (i3 _ _ _ _ _)
theorem impl_copyArena.con (k : Nat) (a0_0 : List S88) (r) (h : impl_copyArena.f k a0_0 = some r) : Contract Try.prog kit 84 [.ag [.row 0 .t88 a0_0]] [] (impl_copyArena.e r).1 (impl_copyArena.e r).2.1 (impl_copyArena.e r).2.2 :=
  con_okG kitOk mix (fun k => (CtxOk.cons (impl_copyInts.xok k) CtxOk.nil)) (impl_copyArena.oke k a0_0) h (by kernel_rfl) (by kernel_rfl) (by kernel_rfl) rfl (by kernel_rfl) rfl rfl
noncomputable def impl_copyArena.x (k : Nat) : X := fun ins bs κ => match ins, bs with
  | [.ag [.row 0 .t88 a0_0]], [] => (impl_copyArena.f k a0_0).bind fun r => κ (impl_copyArena.e r).1 (impl_copyArena.e r).2.1 (impl_copyArena.e r).2.2
  | _, _ => none
theorem impl_copyArena.xok (k : Nat) : XOk 84 (impl_copyArena.x k) := by
  intro ins bs κ res h
  unfold impl_copyArena.x at h
  split at h
  · obtain ⟨r, hr, h⟩ := Option.bind_eq_some_iff.1 h
    exact ⟨_, _, _, impl_copyArena.con k _ r hr, h⟩
  · cases h

/-! ### impl_copyStore: function 45 -/
noncomputable def impl_copyStore.sp : Nat → Option (Spec Ty) := fun r => none
noncomputable def impl_copyStore.en : Option (Spec Ty) := some ⟨[(2, .box [.own .t53, .own .t88, .keep])], []⟩
noncomputable def impl_copyStore.ctx (k : Nat) : Ctx Ty D := (cons 84 (impl_copyArena.x k) (fun _ _ _ _ => none))
noncomputable def impl_copyStore.f (k : Nat) (a0_0 : List S53) (a0_1 : List S88) (a0_2 : Int) : Option ((List S53) × (List S88) × Int) := (if ([] : List S53).length + a0_0.length ≤ 8796093022208 then ((impl_copyArena.f k a0_1).bind fun t1 => (some ((([] : List S53) ++ a0_0), t1, a0_2))) else none)
noncomputable def impl_copyStore.e (r : (List S53) × (List S88) × Int) : Res Ty D := (.ag [.sl 0 none, .sl 1 none, .sc (.int .i64 r.2.2)], [], [.rowb .t53 r.1 0, .rowb .t88 r.2.1 0])
noncomputable abbrev impl_copyStore.g (rec : List Item → St Ty D → R) (k : Nat) := go1 Try.f45 (impl_copyStore.ctx k) impl_copyStore.sp 0 impl_copyStore.en rec
set_option maxRecDepth 100000 in
theorem impl_copyStore.te (rec : List Item → St Ty D → R) (k : Nat) (a0_0 : List S53) (a0_1 : List S88) (a0_2 : Int) : impl_copyStore.g rec k [.code (body Try.f45)] (startSt [.ag [.row 0 .t53 a0_0, .row 0 .t88 a0_1, .sc (.int .i64 a0_2)]] []) =
  bif decide (([] : List S53).length + a0_0.length ≤ 8796093022208) then (impl_copyArena.f k a0_1).bind fun t1 => some (impl_copyStore.e ((([] : List S53) ++ a0_0), t1, a0_2)) else none := by kernel_rfl
set_option maxRecDepth 100000 in
theorem impl_copyStore.oke (k : Nat) (a0_0 : List S53) (a0_1 : List S88) (a0_2 : Int) : goF Try.f45 impl_copyStore.ctx impl_copyStore.sp 0 impl_copyStore.en (k + 1) [.code (body Try.f45)] (startSt [.ag [.row 0 .t53 a0_0, .row 0 .t88 a0_1, .sc (.int .i64 a0_2)]] []) = (impl_copyStore.f k a0_0 a0_1 a0_2).map impl_copyStore.e := by
  rw [impl_copyStore.f]; exact (impl_copyStore.te _ k a0_0 a0_1 a0_2).trans (cd (bn (fun t1 => rfl)) rfl)
theorem impl_copyStore.con (k : Nat) (a0_0 : List S53) (a0_1 : List S88) (a0_2 : Int) (r) (h : impl_copyStore.f k a0_0 a0_1 a0_2 = some r) : Contract Try.prog kit 45 [.ag [.row 0 .t53 a0_0, .row 0 .t88 a0_1, .sc (.int .i64 a0_2)]] [] (impl_copyStore.e r).1 (impl_copyStore.e r).2.1 (impl_copyStore.e r).2.2 :=
  con_okG kitOk mix (fun k => (CtxOk.cons (impl_copyArena.xok k) CtxOk.nil)) (impl_copyStore.oke k a0_0 a0_1 a0_2) h (by kernel_rfl) (by kernel_rfl) (by kernel_rfl) rfl (by kernel_rfl) rfl rfl
noncomputable def impl_copyStore.x (k : Nat) : X := fun ins bs κ => match ins, bs with
  | [.ag [.row 0 .t53 a0_0, .row 0 .t88 a0_1, .sc (.int .i64 a0_2)]], [] => (impl_copyStore.f k a0_0 a0_1 a0_2).bind fun r => κ (impl_copyStore.e r).1 (impl_copyStore.e r).2.1 (impl_copyStore.e r).2.2
  | _, _ => none
theorem impl_copyStore.xok (k : Nat) : XOk 45 (impl_copyStore.x k) := by
  intro ins bs κ res h
  unfold impl_copyStore.x at h
  split at h
  · obtain ⟨r, hr, h⟩ := Option.bind_eq_some_iff.1 h
    exact ⟨_, _, _, impl_copyStore.con k _ _ _ r hr, h⟩
  · cases h

/-! ### impl_RecOk: function 46 -/
noncomputable def impl_RecOk.sp : Nat → Option (Spec Ty) := fun r => none
noncomputable def impl_RecOk.en : Option (Spec Ty) := none
noncomputable def impl_RecOk.ctx (k : Nat) : Ctx Ty D := (cons 68 (impl_in.x k) (fun _ _ _ _ => none))
noncomputable def impl_RecOk.f (k : Nat) (a0_0 : Int) (a0_1 : Int) (a0_2 : Int) (a0_3 : Int) : Option (Bool) := (if a0_0 = 1 then (if a0_1 = 0 then ((impl_in.f k a0_2 0 1000000000).bind fun t1 => (if t1 = true then (some ((decide (a0_3 = 0)))) else (some (false)))) else (some (false))) else ((impl_in.f k a0_1 1 9).bind fun t2 => (if t2 = true then (if a0_0 = 4 then (if a0_0 = 2 then ((impl_in.f k a0_2 0 9).bind fun t7 => (some (t7))) else (if a0_0 = 3 then (some ((decide (a0_2 = 0)))) else (if a0_0 = 4 then ((impl_in.f k a0_2 0 15).bind fun t8 => (if t8 = true then ((impl_in.f k a0_3 1 1000000000).bind fun t9 => (some (t9))) else (some (false)))) else (if a0_0 = 5 then ((impl_in.f k a0_2 0 15).bind fun t10 => (some (t10))) else (some (false)))))) else (if a0_3 = 0 then (if a0_0 = 2 then ((impl_in.f k a0_2 0 9).bind fun t3 => (some (t3))) else (if a0_0 = 3 then (some ((decide (a0_2 = 0)))) else (if a0_0 = 4 then ((impl_in.f k a0_2 0 15).bind fun t4 => (if t4 = true then ((impl_in.f k a0_3 1 1000000000).bind fun t5 => (some (t5))) else (some (false)))) else (if a0_0 = 5 then ((impl_in.f k a0_2 0 15).bind fun t6 => (some (t6))) else (some (false)))))) else (some (false)))) else (some (false)))))
noncomputable def impl_RecOk.e (r : Bool) : Res Ty D := (.sc (.bool r), [], [])
noncomputable abbrev impl_RecOk.g (rec : List Item → St Ty D → R) (k : Nat) := go1 Try.f46 (impl_RecOk.ctx k) impl_RecOk.sp 0 impl_RecOk.en rec
set_option maxRecDepth 100000 in
theorem impl_RecOk.te (rec : List Item → St Ty D → R) (k : Nat) (a0_0 : Int) (a0_1 : Int) (a0_2 : Int) (a0_3 : Int) : impl_RecOk.g rec k [.code (body Try.f46)] (startSt [.ag [.sc (.int .i64 a0_0), .sc (.int .i64 a0_1), .sc (.int .i64 a0_2), .sc (.int .i64 a0_3)]] []) =
  bif decide (a0_0 = 1) then bif decide (a0_1 = 0) then (impl_in.f k a0_2 0 1000000000).bind fun t1 => bif t1 then some (impl_RecOk.e ((decide (a0_3 = 0)))) else some (impl_RecOk.e (false)) else some (impl_RecOk.e (false)) else (impl_in.f k a0_1 1 9).bind fun t2 => bif !t2 then some (impl_RecOk.e (false)) else bif !decide (a0_0 = 4) then bif !decide (a0_3 = 0) then some (impl_RecOk.e (false)) else bif decide (a0_0 = 2) then (impl_in.f k a0_2 0 9).bind fun t3 => some (impl_RecOk.e (t3)) else bif decide (a0_0 = 3) then some (impl_RecOk.e ((decide (a0_2 = 0)))) else bif decide (a0_0 = 4) then (impl_in.f k a0_2 0 15).bind fun t4 => bif t4 then (impl_in.f k a0_3 1 1000000000).bind fun t5 => some (impl_RecOk.e (t5)) else some (impl_RecOk.e (false)) else bif decide (a0_0 = 5) then (impl_in.f k a0_2 0 15).bind fun t6 => some (impl_RecOk.e (t6)) else some (impl_RecOk.e (false)) else bif decide (a0_0 = 2) then (impl_in.f k a0_2 0 9).bind fun t7 => some (impl_RecOk.e (t7)) else bif decide (a0_0 = 3) then some (impl_RecOk.e ((decide (a0_2 = 0)))) else bif decide (a0_0 = 4) then (impl_in.f k a0_2 0 15).bind fun t8 => bif t8 then (impl_in.f k a0_3 1 1000000000).bind fun t9 => some (impl_RecOk.e (t9)) else some (impl_RecOk.e (false)) else bif decide (a0_0 = 5) then (impl_in.f k a0_2 0 15).bind fun t10 => some (impl_RecOk.e (t10)) else some (impl_RecOk.e (false)) := by kernel_rfl
set_option maxRecDepth 100000 in
theorem impl_RecOk.oke (k : Nat) (a0_0 : Int) (a0_1 : Int) (a0_2 : Int) (a0_3 : Int) : goF Try.f46 impl_RecOk.ctx impl_RecOk.sp 0 impl_RecOk.en (k + 1) [.code (body Try.f46)] (startSt [.ag [.sc (.int .i64 a0_0), .sc (.int .i64 a0_1), .sc (.int .i64 a0_2), .sc (.int .i64 a0_3)]] []) = (impl_RecOk.f k a0_0 a0_1 a0_2 a0_3).map impl_RecOk.e := by
  rw [impl_RecOk.f]; exact (impl_RecOk.te _ k a0_0 a0_1 a0_2 a0_3).trans (cd (cd (bn (fun t1 => (cb rfl rfl))) rfl) (bn (fun t2 => (nb rfl (nd (nd rfl (cd (bn (fun t3 => rfl)) (cd rfl (cd (bn (fun t4 => (cb (bn (fun t5 => rfl)) rfl))) (cd (bn (fun t6 => rfl)) rfl))))) (cd (bn (fun t7 => rfl)) (cd rfl (cd (bn (fun t8 => (cb (bn (fun t9 => rfl)) rfl))) (cd (bn (fun t10 => rfl)) rfl)))))))))
theorem impl_RecOk.con (k : Nat) (a0_0 : Int) (a0_1 : Int) (a0_2 : Int) (a0_3 : Int) (r) (h : impl_RecOk.f k a0_0 a0_1 a0_2 a0_3 = some r) : Contract Try.prog kit 46 [.ag [.sc (.int .i64 a0_0), .sc (.int .i64 a0_1), .sc (.int .i64 a0_2), .sc (.int .i64 a0_3)]] [] (impl_RecOk.e r).1 (impl_RecOk.e r).2.1 (impl_RecOk.e r).2.2 :=
  con_okG kitOk mix (fun k => (CtxOk.cons (impl_in.xok k) CtxOk.nil)) (impl_RecOk.oke k a0_0 a0_1 a0_2 a0_3) h (by kernel_rfl) (by kernel_rfl) (by kernel_rfl) rfl (by kernel_rfl) rfl rfl
noncomputable def impl_RecOk.x (k : Nat) : X := fun ins bs κ => match ins, bs with
  | [.ag [.sc (.int .i64 a0_0), .sc (.int .i64 a0_1), .sc (.int .i64 a0_2), .sc (.int .i64 a0_3)]], [] => (impl_RecOk.f k a0_0 a0_1 a0_2 a0_3).bind fun r => κ (impl_RecOk.e r).1 (impl_RecOk.e r).2.1 (impl_RecOk.e r).2.2
  | _, _ => none
theorem impl_RecOk.xok (k : Nat) : XOk 46 (impl_RecOk.x k) := by
  intro ins bs κ res h
  unfold impl_RecOk.x at h
  split at h
  · obtain ⟨r, hr, h⟩ := Option.bind_eq_some_iff.1 h
    exact ⟨_, _, _, impl_RecOk.con k _ _ _ _ r hr, h⟩
  · cases h
end Go.Proofs.Yteideicglgpfiaa.M2

/- Plain runs of functions: each is a plain Lean function, and keeps its contract. Written by a program of this session. -/
namespace Go.Proofs.Yteideicglgpfiaa.M2
open Go Go.Proofs.Yteideicglgpfiaa.PK
set_option linter.unusedVariables false
set_option linter.unusedSimpArgs false
set_option maxHeartbeats 4000000
/-! ### impl_volAt: function 63 -/
noncomputable def impl_volAt.sp : Nat → Option (Spec Ty) := fun r => bif Nat.beq r 2 then some ⟨[(1, .keep), (8, .keep), (9, .keep), (10, .keep)], []⟩ else none
noncomputable def impl_volAt.en : Option (Spec Ty) := none
noncomputable def impl_volAt.s2 (x1 : Int) (x8 : List S53) (x9 : Int) (x10 : Int) : St Ty D := ⟨(Env.put (Env.put (Env.put (Env.put E (some 1) (.sc (.int .i64 x1))) (some 8) (.row 0 .t53 x8)) (some 9) (.sc (.int .i64 x9))) (some 10) (.sc (.int .i64 x10))), H0, 1000⟩
noncomputable def impl_volAt.ctx (k : Nat) : Ctx Ty D := (fun _ _ _ _ => none)
noncomputable def impl_volAt.c2 : Nat → Int → (List S53) → Int → Int → Option (Int)
  | 0, _, _, _, _ => none
  | k + 1, x1, x8, x9, x10 => (if x10 < x9 then (if 0 ≤ x10 then (if x10 < (x8.length : Int) then (if ((rd_T53 x8 x10).f0) = x1 then (some (x10)) else (impl_volAt.c2 k x1 x8 x9 (w64 (x10 + 1)))) else none) else none) else (some ((-1))))
noncomputable def impl_volAt.f (k : Nat) (a0_0 : List S53) (a0_1 : List S88) (a0_2 : Int) (a1 : Int) : Option (Int) := (impl_volAt.c2 k a1 a0_0 (a0_0.length : Int) 0)
noncomputable def impl_volAt.e (r : Int) : Res Ty D := (.sc (.int .i64 r), [], [])
noncomputable abbrev impl_volAt.g (rec : List Item → St Ty D → R) (k : Nat) := go1 Try.f63 (impl_volAt.ctx k) impl_volAt.sp 0 impl_volAt.en rec
set_option maxRecDepth 100000 in
theorem impl_volAt.t2 (rec : List Item → St Ty D → R) (k : Nat) (x1 : Int) (x8 : List S53) (x9 : Int) (x10 : Int) : impl_volAt.g rec k (td Try.f63 2) (impl_volAt.s2 x1 x8 x9 x10) =
  bif decide (x10 < x9) then bif decide (0 ≤ x10) then bif decide (x10 < (x8.length : Int)) then bif decide (((rd_T53 x8 x10).f0) = x1) then some (impl_volAt.e (x10)) else rec (td Try.f63 2) (impl_volAt.s2 x1 x8 x9 (w64 (x10 + 1))) else none else none else some (impl_volAt.e ((-1))) := by kernel_rfl
set_option maxRecDepth 100000 in
theorem impl_volAt.te (rec : List Item → St Ty D → R) (k : Nat) (a0_0 : List S53) (a0_1 : List S88) (a0_2 : Int) (a1 : Int) : impl_volAt.g rec k [.code (body Try.f63)] (startSt [.ag [.row 0 .t53 a0_0, .row 0 .t88 a0_1, .sc (.int .i64 a0_2)], .sc (.int .i64 a1)] []) =
  rec (td Try.f63 2) (impl_volAt.s2 a1 a0_0 (a0_0.length : Int) 0) := by kernel_rfl
set_option maxRecDepth 100000 in
theorem impl_volAt.ok : ∀ k : Nat, (∀ (x1 : Int) (x8 : List S53) (x9 : Int) (x10 : Int), goF Try.f63 impl_volAt.ctx impl_volAt.sp 0 impl_volAt.en k (td Try.f63 2) (impl_volAt.s2 x1 x8 x9 x10) = (impl_volAt.c2 k x1 x8 x9 x10).map impl_volAt.e)
  | 0 => fun _ _ _ _ => rfl
  | k + 1 => by
    have ih := impl_volAt.ok k
    have i2 := ih
    intro x1 x8 x9 x10; rw [impl_volAt.c2]; exact (impl_volAt.t2 _ k x1 x8 x9 x10).trans (cd (cd (cd (cd rfl (i2 _ _ _ _)) rfl) rfl) rfl)
set_option maxRecDepth 100000 in
theorem impl_volAt.oke (k : Nat) (a0_0 : List S53) (a0_1 : List S88) (a0_2 : Int) (a1 : Int) : goF Try.f63 impl_volAt.ctx impl_volAt.sp 0 impl_volAt.en (k + 1) [.code (body Try.f63)] (startSt [.ag [.row 0 .t53 a0_0, .row 0 .t88 a0_1, .sc (.int .i64 a0_2)], .sc (.int .i64 a1)] []) = (impl_volAt.f k a0_0 a0_1 a0_2 a1).map impl_volAt.e := by
  have i2 := impl_volAt.ok k
  rw [impl_volAt.f]; exact (impl_volAt.te _ k a0_0 a0_1 a0_2 a1).trans (i2 _ _ _ _)
theorem impl_volAt.con (k : Nat) (a0_0 : List S53) (a0_1 : List S88) (a0_2 : Int) (a1 : Int) (r) (h : impl_volAt.f k a0_0 a0_1 a0_2 a1 = some r) : Contract Try.prog kit 63 [.ag [.row 0 .t53 a0_0, .row 0 .t88 a0_1, .sc (.int .i64 a0_2)], .sc (.int .i64 a1)] [] (impl_volAt.e r).1 (impl_volAt.e r).2.1 (impl_volAt.e r).2.2 :=
  con_okG kitOk mix (fun k => CtxOk.nil) (impl_volAt.oke k a0_0 a0_1 a0_2 a1) h (by kernel_rfl) (by kernel_rfl) (by kernel_rfl) rfl (by kernel_rfl) rfl rfl
noncomputable def impl_volAt.x (k : Nat) : X := fun ins bs κ => match ins, bs with
  | [.ag [.row 0 .t53 a0_0, .row 0 .t88 a0_1, .sc (.int .i64 a0_2)], .sc (.int .i64 a1)], [] => (impl_volAt.f k a0_0 a0_1 a0_2 a1).bind fun r => κ (impl_volAt.e r).1 (impl_volAt.e r).2.1 (impl_volAt.e r).2.2
  | _, _ => none
theorem impl_volAt.xok (k : Nat) : XOk 63 (impl_volAt.x k) := by
  intro ins bs κ res h
  unfold impl_volAt.x at h
  split at h
  · obtain ⟨r, hr, h⟩ := Option.bind_eq_some_iff.1 h
    exact ⟨_, _, _, impl_volAt.con k _ _ _ _ r hr, h⟩
  · cases h

/-! ### sort_xorshift_Next: function 150 -/
noncomputable def sort_xorshift_Next.sp : Nat → Option (Spec Ty) := fun r => none
noncomputable def sort_xorshift_Next.en : Option (Spec Ty) := none
noncomputable def sort_xorshift_Next.ctx (k : Nat) : Ctx Ty D := (fun _ _ _ _ => none)
noncomputable def sort_xorshift_Next.f (k : Nat) (a0_0 : Int) : Option (Int × Int) := (some ((Go.bits .xor .u64 (Go.bits .xor .u64 (Go.bits .xor .u64 a0_0 (Go.IntKind.wrap .u64 (a0_0 * 8192))) (Int.fdiv (Go.bits .xor .u64 a0_0 (Go.IntKind.wrap .u64 (a0_0 * 8192))) 128)) (Go.IntKind.wrap .u64 ((Go.bits .xor .u64 (Go.bits .xor .u64 a0_0 (Go.IntKind.wrap .u64 (a0_0 * 8192))) (Int.fdiv (Go.bits .xor .u64 a0_0 (Go.IntKind.wrap .u64 (a0_0 * 8192))) 128)) * 131072))), (Go.bits .xor .u64 (Go.bits .xor .u64 (Go.bits .xor .u64 a0_0 (Go.IntKind.wrap .u64 (a0_0 * 8192))) (Int.fdiv (Go.bits .xor .u64 a0_0 (Go.IntKind.wrap .u64 (a0_0 * 8192))) 128)) (Go.IntKind.wrap .u64 ((Go.bits .xor .u64 (Go.bits .xor .u64 a0_0 (Go.IntKind.wrap .u64 (a0_0 * 8192))) (Int.fdiv (Go.bits .xor .u64 a0_0 (Go.IntKind.wrap .u64 (a0_0 * 8192))) 128)) * 131072)))))
noncomputable def sort_xorshift_Next.e (r : Int × Int) : Res Ty D := (.sc (.int .u64 r.1), [some (.box [.sc (.int .u64 r.2)])], [])
noncomputable abbrev sort_xorshift_Next.g (rec : List Item → St Ty D → R) (k : Nat) := go1 Try.f150 (sort_xorshift_Next.ctx k) sort_xorshift_Next.sp 1 sort_xorshift_Next.en rec
set_option maxRecDepth 100000 in
theorem sort_xorshift_Next.te (rec : List Item → St Ty D → R) (k : Nat) (a0_0 : Int) : sort_xorshift_Next.g rec k [.code (body Try.f150)] (startSt [.pt 0 0 0] [.box [.sc (.int .u64 a0_0)]]) =
  some (sort_xorshift_Next.e ((Go.bits .xor .u64 (Go.bits .xor .u64 (Go.bits .xor .u64 a0_0 (Go.IntKind.wrap .u64 (a0_0 * 8192))) (Int.fdiv (Go.bits .xor .u64 a0_0 (Go.IntKind.wrap .u64 (a0_0 * 8192))) 128)) (Go.IntKind.wrap .u64 ((Go.bits .xor .u64 (Go.bits .xor .u64 a0_0 (Go.IntKind.wrap .u64 (a0_0 * 8192))) (Int.fdiv (Go.bits .xor .u64 a0_0 (Go.IntKind.wrap .u64 (a0_0 * 8192))) 128)) * 131072))), (Go.bits .xor .u64 (Go.bits .xor .u64 (Go.bits .xor .u64 a0_0 (Go.IntKind.wrap .u64 (a0_0 * 8192))) (Int.fdiv (Go.bits .xor .u64 a0_0 (Go.IntKind.wrap .u64 (a0_0 * 8192))) 128)) (Go.IntKind.wrap .u64 ((Go.bits .xor .u64 (Go.bits .xor .u64 a0_0 (Go.IntKind.wrap .u64 (a0_0 * 8192))) (Int.fdiv (Go.bits .xor .u64 a0_0 (Go.IntKind.wrap .u64 (a0_0 * 8192))) 128)) * 131072))))) := by kernel_rfl
set_option maxRecDepth 100000 in
theorem sort_xorshift_Next.oke (k : Nat) (a0_0 : Int) : goF Try.f150 sort_xorshift_Next.ctx sort_xorshift_Next.sp 1 sort_xorshift_Next.en (k + 1) [.code (body Try.f150)] (startSt [.pt 0 0 0] [.box [.sc (.int .u64 a0_0)]]) = (sort_xorshift_Next.f k a0_0).map sort_xorshift_Next.e := by
  rw [sort_xorshift_Next.f]; exact (sort_xorshift_Next.te _ k a0_0).trans rfl
theorem sort_xorshift_Next.con (k : Nat) (a0_0 : Int) (r) (h : sort_xorshift_Next.f k a0_0 = some r) : Contract Try.prog kit 150 [.pt 0 0 0] [.box [.sc (.int .u64 a0_0)]] (sort_xorshift_Next.e r).1 (sort_xorshift_Next.e r).2.1 (sort_xorshift_Next.e r).2.2 :=
  con_okG kitOk mix (fun k => CtxOk.nil) (sort_xorshift_Next.oke k a0_0) h (by kernel_rfl) (by kernel_rfl) (by kernel_rfl) rfl (by kernel_rfl) rfl rfl
noncomputable def sort_xorshift_Next.x (k : Nat) : X := fun ins bs κ => match ins, bs with
  | [.pt 0 0 0], [.box [.sc (.int .u64 a0_0)]] => (sort_xorshift_Next.f k a0_0).bind fun r => κ (sort_xorshift_Next.e r).1 (sort_xorshift_Next.e r).2.1 (sort_xorshift_Next.e r).2.2
  | _, _ => none
theorem sort_xorshift_Next.xok (k : Nat) : XOk 150 (sort_xorshift_Next.x k) := by
  intro ins bs κ res h
  unfold sort_xorshift_Next.x at h
  split at h
  · obtain ⟨r, hr, h⟩ := Option.bind_eq_some_iff.1 h
    exact ⟨_, _, _, sort_xorshift_Next.con k _ r hr, h⟩
  · cases h

/-! ### impl_Store_create: function 85 -/
noncomputable def impl_Store_create.sp : Nat → Option (Spec Ty) := fun r => none
noncomputable def impl_Store_create.en : Option (Spec Ty) := none
noncomputable def impl_Store_create.ctx (k : Nat) : Ctx Ty D := (cons 63 (impl_volAt.x k) (fun _ _ _ _ => none))
noncomputable def impl_Store_create.f (k : Nat) (a1 : Int) (a2 : Int) (a0_2 : Int) (h0_0 : List S53) (h0_1 : List S88) : Option ((Bool × (List S53) × (List S88) × Int) ⊕ (Bool × (List S53) × (List S88) × Int)) := (if a2 = 0 then ((impl_volAt.f k h0_0 h0_1 a0_2 a1).bind fun t3 => (if t3 ≥ 0 then (some (.inl (false, h0_0, h0_1, a0_2))) else (if (h0_0.length : Int) ≥ 3 then (some (.inl (false, h0_0, h0_1, a0_2))) else (if h0_0.length + ([(S53.mk a1 (-1))] : List S53).length ≤ 8796093022208 then (if (h0_0 ++ ([(S53.mk a1 (-1))] : List S53)).length ≤ 12 then (some (.inr (true, (lsort53 (h0_0 ++ ([(S53.mk a1 (-1))] : List S53))), h0_1, a0_2))) else none) else none)))) else ((impl_volAt.f k h0_0 h0_1 a0_2 a2).bind fun t1 => (if t1 < 0 then (some (.inl (false, h0_0, h0_1, a0_2))) else (if 0 ≤ t1 then (if t1 < (h0_0.length : Int) then ((impl_volAt.f k h0_0 h0_1 a0_2 a1).bind fun t2 => (if t2 ≥ 0 then (some (.inl (false, h0_0, h0_1, a0_2))) else (if (h0_0.length : Int) ≥ 3 then (some (.inl (false, h0_0, h0_1, a0_2))) else (if h0_0.length + ([(S53.mk a1 ((rd_T53 h0_0 t1).f1))] : List S53).length ≤ 8796093022208 then (if (h0_0 ++ ([(S53.mk a1 ((rd_T53 h0_0 t1).f1))] : List S53)).length ≤ 12 then (some (.inr (true, (lsort53 (h0_0 ++ ([(S53.mk a1 ((rd_T53 h0_0 t1).f1))] : List S53))), h0_1, a0_2))) else none) else none)))) else none) else none))))
noncomputable def impl_Store_create.e : (Bool × (List S53) × (List S88) × Int) ⊕ (Bool × (List S53) × (List S88) × Int) → Res Ty D := (Sum.elim (fun r => (.sc (.bool r.1), [some (.box [.sl 1 none, .sl 2 none, .sc (.int .i64 r.2.2.2)]), some (.rowb .t53 r.2.1 0), some (.rowb .t88 r.2.2.1 0)], [])) (fun r => (.sc (.bool r.1), [some (.box [.sl 3 none, .sl 2 none, .sc (.int .i64 r.2.2.2)]), none, some (.rowb .t88 r.2.2.1 0)], [.rowb .t53 r.2.1 0])))
noncomputable abbrev impl_Store_create.g (rec : List Item → St Ty D → R) (k : Nat) := go1 Try.f85 (impl_Store_create.ctx k) impl_Store_create.sp 3 impl_Store_create.en rec
set_option maxRecDepth 100000 in
theorem impl_Store_create.te (rec : List Item → St Ty D → R) (k : Nat) (a1 : Int) (a2 : Int) (a0_2 : Int) (h0_0 : List S53) (h0_1 : List S88) : impl_Store_create.g rec k [.code (body Try.f85)] (startSt [.pt 0 0 0, .sc (.int .i64 a1), .sc (.int .i64 a2)] [.box [.sl 1 none, .sl 2 none, .sc (.int .i64 a0_2)], .rowb .t53 h0_0 0, .rowb .t88 h0_1 0]) =
  bif !decide (a2 = 0) then (impl_volAt.f k h0_0 h0_1 a0_2 a2).bind fun t1 => bif decide (t1 < 0) then some (impl_Store_create.e (.inl (false, h0_0, h0_1, a0_2))) else bif decide (0 ≤ t1) then bif decide (t1 < (h0_0.length : Int)) then (impl_volAt.f k h0_0 h0_1 a0_2 a1).bind fun t2 => bif decide (t2 ≥ 0) then some (impl_Store_create.e (.inl (false, h0_0, h0_1, a0_2))) else bif decide ((h0_0.length : Int) ≥ 3) then some (impl_Store_create.e (.inl (false, h0_0, h0_1, a0_2))) else bif decide (h0_0.length + ([(S53.mk a1 ((rd_T53 h0_0 t1).f1))] : List S53).length ≤ 8796093022208) then bif decide ((h0_0 ++ ([(S53.mk a1 ((rd_T53 h0_0 t1).f1))] : List S53)).length ≤ 12) then some (impl_Store_create.e (.inr (true, (lsort53 (h0_0 ++ ([(S53.mk a1 ((rd_T53 h0_0 t1).f1))] : List S53))), h0_1, a0_2))) else none else none else none else none else (impl_volAt.f k h0_0 h0_1 a0_2 a1).bind fun t3 => bif decide (t3 ≥ 0) then some (impl_Store_create.e (.inl (false, h0_0, h0_1, a0_2))) else bif decide ((h0_0.length : Int) ≥ 3) then some (impl_Store_create.e (.inl (false, h0_0, h0_1, a0_2))) else bif decide (h0_0.length + ([(S53.mk a1 (-1))] : List S53).length ≤ 8796093022208) then bif decide ((h0_0 ++ ([(S53.mk a1 (-1))] : List S53)).length ≤ 12) then some (impl_Store_create.e (.inr (true, (lsort53 (h0_0 ++ ([(S53.mk a1 (-1))] : List S53))), h0_1, a0_2))) else none else none := by kernel_rfl
set_option maxRecDepth 100000 in
theorem impl_Store_create.oke (k : Nat) (a1 : Int) (a2 : Int) (a0_2 : Int) (h0_0 : List S53) (h0_1 : List S88) : goF Try.f85 impl_Store_create.ctx impl_Store_create.sp 3 impl_Store_create.en (k + 1) [.code (body Try.f85)] (startSt [.pt 0 0 0, .sc (.int .i64 a1), .sc (.int .i64 a2)] [.box [.sl 1 none, .sl 2 none, .sc (.int .i64 a0_2)], .rowb .t53 h0_0 0, .rowb .t88 h0_1 0]) = (impl_Store_create.f k a1 a2 a0_2 h0_0 h0_1).map impl_Store_create.e := by
  rw [impl_Store_create.f]; exact (impl_Store_create.te _ k a1 a2 a0_2 h0_0 h0_1).trans (nd (bn (fun t1 => (cd rfl (cd (cd (bn (fun t2 => (cd rfl (cd rfl (cd (cd rfl rfl) rfl))))) rfl) rfl)))) (bn (fun t3 => (cd rfl (cd rfl (cd (cd rfl rfl) rfl))))))
theorem impl_Store_create.con (k : Nat) (a1 : Int) (a2 : Int) (a0_2 : Int) (h0_0 : List S53) (h0_1 : List S88) (r) (h : impl_Store_create.f k a1 a2 a0_2 h0_0 h0_1 = some r) : Contract Try.prog kit 85 [.pt 0 0 0, .sc (.int .i64 a1), .sc (.int .i64 a2)] [.box [.sl 1 none, .sl 2 none, .sc (.int .i64 a0_2)], .rowb .t53 h0_0 0, .rowb .t88 h0_1 0] (impl_Store_create.e r).1 (impl_Store_create.e r).2.1 (impl_Store_create.e r).2.2 :=
  con_okG kitOk mix (fun k => (CtxOk.cons (impl_volAt.xok k) CtxOk.nil)) (impl_Store_create.oke k a1 a2 a0_2 h0_0 h0_1) h (by kernel_rfl) (by kernel_rfl) (by kernel_rfl) rfl (by kernel_rfl) rfl (by rcases r with r | r <;> rfl)
noncomputable def impl_Store_create.x (k : Nat) : X := fun ins bs κ => match ins, bs with
  | [.pt 0 0 0, .sc (.int .i64 a1), .sc (.int .i64 a2)], [.box [.sl 1 none, .sl 2 none, .sc (.int .i64 a0_2)], .rowb .t53 h0_0 0, .rowb .t88 h0_1 0] => (impl_Store_create.f k a1 a2 a0_2 h0_0 h0_1).bind (Sum.elim (fun r => κ (impl_Store_create.e (.inl r)).1 (impl_Store_create.e (.inl r)).2.1 (impl_Store_create.e (.inl r)).2.2) (fun r => κ (impl_Store_create.e (.inr r)).1 (impl_Store_create.e (.inr r)).2.1 (impl_Store_create.e (.inr r)).2.2))
  | _, _ => none
theorem impl_Store_create.xok (k : Nat) : XOk 85 (impl_Store_create.x k) := by
  intro ins bs κ res h
  unfold impl_Store_create.x at h
  split at h
  · obtain ⟨r, hr, h⟩ := Option.bind_eq_some_iff.1 h
    rcases r with r | r
    · exact ⟨_, _, _, impl_Store_create.con k _ _ _ _ _ _ hr, h⟩
    · exact ⟨_, _, _, impl_Store_create.con k _ _ _ _ _ _ hr, h⟩
  · cases h

/-! ### impl_PutAt: function 86 -/
noncomputable def impl_PutAt.sp : Nat → Option (Spec Ty) := fun r => none
noncomputable def impl_PutAt.en : Option (Spec Ty) := some ⟨[(8, .box [.own .t88]), (9, .keep)], []⟩
noncomputable def impl_PutAt.ctx (k : Nat) : Ctx Ty D := (cons 67 (impl_ArenaOk.x k) (cons 68 (impl_in.x k) (cons 69 (impl_isRoot.x k) (cons 84 (impl_copyArena.x k) (cons 99 (impl_copyInts.x k) (fun _ _ _ _ => none))))))
noncomputable def impl_PutAt.f (k : Nat) (a0_0 : List S88) (a1 : Int) (a2 : Int) (a3 : Int) : Option ((List S88) × Int) := ((impl_copyArena.f k a0_0).bind fun t1 => (if a1 = (-1) then ((impl_in.f k a2 0 15).bind fun t8 => (if t8 = true then (if a3 < 0 then (some (t1, a1)) else ((impl_ArenaOk.f k a0_0).bind fun t9 => (if t9 = true then (if a1 ≥ 0 then (if 0 ≤ a1 then (if a1 < (a0_0.length : Int) then ((impl_copyInts.f k ((rd_T88 a0_0 a1).f1)).bind fun t10 => (if 0 ≤ (w64 (Int.tdiv a2 4)) then (if (w64 (Int.tdiv a2 4)) < (t10.length : Int) then (if (rd_T3 t10 (w64 (Int.tdiv a2 4))) ≥ 0 then (if 0 ≤ (rd_T3 t10 (w64 (Int.tdiv a2 4))) then (if (rd_T3 t10 (w64 (Int.tdiv a2 4))) < (a0_0.length : Int) then ((impl_copyInts.f k ((rd_T88 a0_0 (rd_T3 t10 (w64 (Int.tdiv a2 4)))).f1)).bind fun t11 => (if 0 ≤ (Int.tmod a2 4) then (if (Int.tmod a2 4) < (t11.length : Int) then (if 0 ≤ (w64 (Int.tdiv a2 4)) then (if (w64 (Int.tdiv a2 4)) < (t10.length : Int) then (if t1.length + ([(S88.mk true (t11.set ((Int.tmod a2 4).toNat) a3)), (S88.mk false (t10.set ((w64 (Int.tdiv a2 4)).toNat) (a0_0.length : Int)))] : List S88).length ≤ 4398046511104 then (some ((t1 ++ ([(S88.mk true (t11.set ((Int.tmod a2 4).toNat) a3)), (S88.mk false (t10.set ((w64 (Int.tdiv a2 4)).toNat) (a0_0.length : Int)))] : List S88)), (w64 ((a0_0.length : Int) + 1)))) else none) else none) else none) else none) else none)) else none) else none) else (if 0 ≤ (Int.tmod a2 4) then (if (Int.tmod a2 4) < ((List.replicate 4 z3).length : Int) then (if 0 ≤ (w64 (Int.tdiv a2 4)) then (if (w64 (Int.tdiv a2 4)) < (t10.length : Int) then (if t1.length + ([(S88.mk true ((List.replicate 4 z3).set ((Int.tmod a2 4).toNat) a3)), (S88.mk false (t10.set ((w64 (Int.tdiv a2 4)).toNat) (a0_0.length : Int)))] : List S88).length ≤ 4398046511104 then (some ((t1 ++ ([(S88.mk true ((List.replicate 4 z3).set ((Int.tmod a2 4).toNat) a3)), (S88.mk false (t10.set ((w64 (Int.tdiv a2 4)).toNat) (a0_0.length : Int)))] : List S88)), (w64 ((a0_0.length : Int) + 1)))) else none) else none) else none) else none) else none)) else none) else none)) else none) else none) else (if 0 ≤ (w64 (Int.tdiv a2 4)) then (if (w64 (Int.tdiv a2 4)) < (([(-1), (-1), (-1), (-1)] : List Int).length : Int) then (if (rd_T3 ([(-1), (-1), (-1), (-1)] : List Int) (w64 (Int.tdiv a2 4))) ≥ 0 then (if 0 ≤ (rd_T3 ([(-1), (-1), (-1), (-1)] : List Int) (w64 (Int.tdiv a2 4))) then (if (rd_T3 ([(-1), (-1), (-1), (-1)] : List Int) (w64 (Int.tdiv a2 4))) < (a0_0.length : Int) then ((impl_copyInts.f k ((rd_T88 a0_0 (rd_T3 ([(-1), (-1), (-1), (-1)] : List Int) (w64 (Int.tdiv a2 4)))).f1)).bind fun t12 => (if 0 ≤ (Int.tmod a2 4) then (if (Int.tmod a2 4) < (t12.length : Int) then (if 0 ≤ (w64 (Int.tdiv a2 4)) then (if (w64 (Int.tdiv a2 4)) < (([(-1), (-1), (-1), (-1)] : List Int).length : Int) then (if t1.length + ([(S88.mk true (t12.set ((Int.tmod a2 4).toNat) a3)), (S88.mk false (([(-1), (-1), (-1), (-1)] : List Int).set ((w64 (Int.tdiv a2 4)).toNat) (a0_0.length : Int)))] : List S88).length ≤ 4398046511104 then (some ((t1 ++ ([(S88.mk true (t12.set ((Int.tmod a2 4).toNat) a3)), (S88.mk false (([(-1), (-1), (-1), (-1)] : List Int).set ((w64 (Int.tdiv a2 4)).toNat) (a0_0.length : Int)))] : List S88)), (w64 ((a0_0.length : Int) + 1)))) else none) else none) else none) else none) else none)) else none) else none) else (if 0 ≤ (Int.tmod a2 4) then (if (Int.tmod a2 4) < ((List.replicate 4 z3).length : Int) then (if 0 ≤ (w64 (Int.tdiv a2 4)) then (if (w64 (Int.tdiv a2 4)) < (([(-1), (-1), (-1), (-1)] : List Int).length : Int) then (if t1.length + ([(S88.mk true ((List.replicate 4 z3).set ((Int.tmod a2 4).toNat) a3)), (S88.mk false (([(-1), (-1), (-1), (-1)] : List Int).set ((w64 (Int.tdiv a2 4)).toNat) (a0_0.length : Int)))] : List S88).length ≤ 4398046511104 then (some ((t1 ++ ([(S88.mk true ((List.replicate 4 z3).set ((Int.tmod a2 4).toNat) a3)), (S88.mk false (([(-1), (-1), (-1), (-1)] : List Int).set ((w64 (Int.tdiv a2 4)).toNat) (a0_0.length : Int)))] : List S88)), (w64 ((a0_0.length : Int) + 1)))) else none) else none) else none) else none) else none)) else none) else none)) else (some (t1, a1))))) else (some (t1, a1)))) else ((impl_isRoot.f k a0_0 a1).bind fun t2 => (if t2 = true then ((impl_in.f k a2 0 15).bind fun t3 => (if t3 = true then (if a3 < 0 then (some (t1, a1)) else ((impl_ArenaOk.f k a0_0).bind fun t4 => (if t4 = true then (if a1 ≥ 0 then (if 0 ≤ a1 then (if a1 < (a0_0.length : Int) then ((impl_copyInts.f k ((rd_T88 a0_0 a1).f1)).bind fun t5 => (if 0 ≤ (w64 (Int.tdiv a2 4)) then (if (w64 (Int.tdiv a2 4)) < (t5.length : Int) then (if (rd_T3 t5 (w64 (Int.tdiv a2 4))) ≥ 0 then (if 0 ≤ (rd_T3 t5 (w64 (Int.tdiv a2 4))) then (if (rd_T3 t5 (w64 (Int.tdiv a2 4))) < (a0_0.length : Int) then ((impl_copyInts.f k ((rd_T88 a0_0 (rd_T3 t5 (w64 (Int.tdiv a2 4)))).f1)).bind fun t6 => (if 0 ≤ (Int.tmod a2 4) then (if (Int.tmod a2 4) < (t6.length : Int) then (if 0 ≤ (w64 (Int.tdiv a2 4)) then (if (w64 (Int.tdiv a2 4)) < (t5.length : Int) then (if t1.length + ([(S88.mk true (t6.set ((Int.tmod a2 4).toNat) a3)), (S88.mk false (t5.set ((w64 (Int.tdiv a2 4)).toNat) (a0_0.length : Int)))] : List S88).length ≤ 4398046511104 then (some ((t1 ++ ([(S88.mk true (t6.set ((Int.tmod a2 4).toNat) a3)), (S88.mk false (t5.set ((w64 (Int.tdiv a2 4)).toNat) (a0_0.length : Int)))] : List S88)), (w64 ((a0_0.length : Int) + 1)))) else none) else none) else none) else none) else none)) else none) else none) else (if 0 ≤ (Int.tmod a2 4) then (if (Int.tmod a2 4) < ((List.replicate 4 z3).length : Int) then (if 0 ≤ (w64 (Int.tdiv a2 4)) then (if (w64 (Int.tdiv a2 4)) < (t5.length : Int) then (if t1.length + ([(S88.mk true ((List.replicate 4 z3).set ((Int.tmod a2 4).toNat) a3)), (S88.mk false (t5.set ((w64 (Int.tdiv a2 4)).toNat) (a0_0.length : Int)))] : List S88).length ≤ 4398046511104 then (some ((t1 ++ ([(S88.mk true ((List.replicate 4 z3).set ((Int.tmod a2 4).toNat) a3)), (S88.mk false (t5.set ((w64 (Int.tdiv a2 4)).toNat) (a0_0.length : Int)))] : List S88)), (w64 ((a0_0.length : Int) + 1)))) else none) else none) else none) else none) else none)) else none) else none)) else none) else none) else (if 0 ≤ (w64 (Int.tdiv a2 4)) then (if (w64 (Int.tdiv a2 4)) < (([(-1), (-1), (-1), (-1)] : List Int).length : Int) then (if (rd_T3 ([(-1), (-1), (-1), (-1)] : List Int) (w64 (Int.tdiv a2 4))) ≥ 0 then (if 0 ≤ (rd_T3 ([(-1), (-1), (-1), (-1)] : List Int) (w64 (Int.tdiv a2 4))) then (if (rd_T3 ([(-1), (-1), (-1), (-1)] : List Int) (w64 (Int.tdiv a2 4))) < (a0_0.length : Int) then ((impl_copyInts.f k ((rd_T88 a0_0 (rd_T3 ([(-1), (-1), (-1), (-1)] : List Int) (w64 (Int.tdiv a2 4)))).f1)).bind fun t7 => (if 0 ≤ (Int.tmod a2 4) then (if (Int.tmod a2 4) < (t7.length : Int) then (if 0 ≤ (w64 (Int.tdiv a2 4)) then (if (w64 (Int.tdiv a2 4)) < (([(-1), (-1), (-1), (-1)] : List Int).length : Int) then (if t1.length + ([(S88.mk true (t7.set ((Int.tmod a2 4).toNat) a3)), (S88.mk false (([(-1), (-1), (-1), (-1)] : List Int).set ((w64 (Int.tdiv a2 4)).toNat) (a0_0.length : Int)))] : List S88).length ≤ 4398046511104 then (some ((t1 ++ ([(S88.mk true (t7.set ((Int.tmod a2 4).toNat) a3)), (S88.mk false (([(-1), (-1), (-1), (-1)] : List Int).set ((w64 (Int.tdiv a2 4)).toNat) (a0_0.length : Int)))] : List S88)), (w64 ((a0_0.length : Int) + 1)))) else none) else none) else none) else none) else none)) else none) else none) else (if 0 ≤ (Int.tmod a2 4) then (if (Int.tmod a2 4) < ((List.replicate 4 z3).length : Int) then (if 0 ≤ (w64 (Int.tdiv a2 4)) then (if (w64 (Int.tdiv a2 4)) < (([(-1), (-1), (-1), (-1)] : List Int).length : Int) then (if t1.length + ([(S88.mk true ((List.replicate 4 z3).set ((Int.tmod a2 4).toNat) a3)), (S88.mk false (([(-1), (-1), (-1), (-1)] : List Int).set ((w64 (Int.tdiv a2 4)).toNat) (a0_0.length : Int)))] : List S88).length ≤ 4398046511104 then (some ((t1 ++ ([(S88.mk true ((List.replicate 4 z3).set ((Int.tmod a2 4).toNat) a3)), (S88.mk false (([(-1), (-1), (-1), (-1)] : List Int).set ((w64 (Int.tdiv a2 4)).toNat) (a0_0.length : Int)))] : List S88)), (w64 ((a0_0.length : Int) + 1)))) else none) else none) else none) else none) else none)) else none) else none)) else (some (t1, a1))))) else (some (t1, a1)))) else (some (t1, a1))))))
noncomputable def impl_PutAt.e (r : (List S88) × Int) : Res Ty D := (.tu [.ag [.sl 0 none], .sc (.int .i64 r.2)], [], [.rowb .t88 r.1 0])
noncomputable abbrev impl_PutAt.g (rec : List Item → St Ty D → R) (k : Nat) := go1 Try.f86 (impl_PutAt.ctx k) impl_PutAt.sp 0 impl_PutAt.en rec
set_option maxRecDepth 100000 in
theorem impl_PutAt.te (rec : List Item → St Ty D → R) (k : Nat) (a0_0 : List S88) (a1 : Int) (a2 : Int) (a3 : Int) : impl_PutAt.g rec k [.code (body Try.f86)] (startSt [.ag [.row 0 .t88 a0_0], .sc (.int .i64 a1), .sc (.int .i64 a2), .sc (.int .i64 a3)] []) =
  (impl_copyArena.f k a0_0).bind fun t1 => bif !decide (a1 = (-1)) then (impl_isRoot.f k a0_0 a1).bind fun t2 => bif !t2 then some (impl_PutAt.e (t1, a1)) else (impl_in.f k a2 0 15).bind fun t3 => bif !t3 then some (impl_PutAt.e (t1, a1)) else bif decide (a3 < 0) then some (impl_PutAt.e (t1, a1)) else (impl_ArenaOk.f k a0_0).bind fun t4 => bif !t4 then some (impl_PutAt.e (t1, a1)) else bif decide (a1 ≥ 0) then bif decide (0 ≤ a1) then bif decide (a1 < (a0_0.length : Int)) then (impl_copyInts.f k ((rd_T88 a0_0 a1).f1)).bind fun t5 => bif decide (0 ≤ (w64 (Int.tdiv a2 4))) then bif decide ((w64 (Int.tdiv a2 4)) < (t5.length : Int)) then bif decide ((rd_T3 t5 (w64 (Int.tdiv a2 4))) ≥ 0) then bif decide (0 ≤ (rd_T3 t5 (w64 (Int.tdiv a2 4)))) then bif decide ((rd_T3 t5 (w64 (Int.tdiv a2 4))) < (a0_0.length : Int)) then (impl_copyInts.f k ((rd_T88 a0_0 (rd_T3 t5 (w64 (Int.tdiv a2 4)))).f1)).bind fun t6 => bif decide (0 ≤ (Int.tmod a2 4)) then bif decide ((Int.tmod a2 4) < (t6.length : Int)) then bif decide (0 ≤ (w64 (Int.tdiv a2 4))) then bif decide ((w64 (Int.tdiv a2 4)) < (t5.length : Int)) then bif decide (t1.length + ([(S88.mk true (t6.set ((Int.tmod a2 4).toNat) a3)), (S88.mk false (t5.set ((w64 (Int.tdiv a2 4)).toNat) (a0_0.length : Int)))] : List S88).length ≤ 4398046511104) then some (impl_PutAt.e ((t1 ++ ([(S88.mk true (t6.set ((Int.tmod a2 4).toNat) a3)), (S88.mk false (t5.set ((w64 (Int.tdiv a2 4)).toNat) (a0_0.length : Int)))] : List S88)), (w64 ((a0_0.length : Int) + 1)))) else none else none else none else none else none else none else none else bif decide (0 ≤ (Int.tmod a2 4)) then bif decide ((Int.tmod a2 4) < ((List.replicate 4 z3).length : Int)) then bif decide (0 ≤ (w64 (Int.tdiv a2 4))) then bif decide ((w64 (Int.tdiv a2 4)) < (t5.length : Int)) then bif decide (t1.length + ([(S88.mk true ((List.replicate 4 z3).set ((Int.tmod a2 4).toNat) a3)), (S88.mk false (t5.set ((w64 (Int.tdiv a2 4)).toNat) (a0_0.length : Int)))] : List S88).length ≤ 4398046511104) then some (impl_PutAt.e ((t1 ++ ([(S88.mk true ((List.replicate 4 z3).set ((Int.tmod a2 4).toNat) a3)), (S88.mk false (t5.set ((w64 (Int.tdiv a2 4)).toNat) (a0_0.length : Int)))] : List S88)), (w64 ((a0_0.length : Int) + 1)))) else none else none else none else none else none else none else none else none else none else bif decide (0 ≤ (w64 (Int.tdiv a2 4))) then bif decide ((w64 (Int.tdiv a2 4)) < (([(-1), (-1), (-1), (-1)] : List Int).length : Int)) then bif decide ((rd_T3 ([(-1), (-1), (-1), (-1)] : List Int) (w64 (Int.tdiv a2 4))) ≥ 0) then bif decide (0 ≤ (rd_T3 ([(-1), (-1), (-1), (-1)] : List Int) (w64 (Int.tdiv a2 4)))) then bif decide ((rd_T3 ([(-1), (-1), (-1), (-1)] : List Int) (w64 (Int.tdiv a2 4))) < (a0_0.length : Int)) then (impl_copyInts.f k ((rd_T88 a0_0 (rd_T3 ([(-1), (-1), (-1), (-1)] : List Int) (w64 (Int.tdiv a2 4)))).f1)).bind fun t7 => bif decide (0 ≤ (Int.tmod a2 4)) then bif decide ((Int.tmod a2 4) < (t7.length : Int)) then bif decide (0 ≤ (w64 (Int.tdiv a2 4))) then bif decide ((w64 (Int.tdiv a2 4)) < (([(-1), (-1), (-1), (-1)] : List Int).length : Int)) then bif decide (t1.length + ([(S88.mk true (t7.set ((Int.tmod a2 4).toNat) a3)), (S88.mk false (([(-1), (-1), (-1), (-1)] : List Int).set ((w64 (Int.tdiv a2 4)).toNat) (a0_0.length : Int)))] : List S88).length ≤ 4398046511104) then some (impl_PutAt.e ((t1 ++ ([(S88.mk true (t7.set ((Int.tmod a2 4).toNat) a3)), (S88.mk false (([(-1), (-1), (-1), (-1)] : List Int).set ((w64 (Int.tdiv a2 4)).toNat) (a0_0.length : Int)))] : List S88)), (w64 ((a0_0.length : Int) + 1)))) else none else none else none else none else none else none else none else bif decide (0 ≤ (Int.tmod a2 4)) then bif decide ((Int.tmod a2 4) < ((List.replicate 4 z3).length : Int)) then bif decide (0 ≤ (w64 (Int.tdiv a2 4))) then bif decide ((w64 (Int.tdiv a2 4)) < (([(-1), (-1), (-1), (-1)] : List Int).length : Int)) then bif decide (t1.length + ([(S88.mk true ((List.replicate 4 z3).set ((Int.tmod a2 4).toNat) a3)), (S88.mk false (([(-1), (-1), (-1), (-1)] : List Int).set ((w64 (Int.tdiv a2 4)).toNat) (a0_0.length : Int)))] : List S88).length ≤ 4398046511104) then some (impl_PutAt.e ((t1 ++ ([(S88.mk true ((List.replicate 4 z3).set ((Int.tmod a2 4).toNat) a3)), (S88.mk false (([(-1), (-1), (-1), (-1)] : List Int).set ((w64 (Int.tdiv a2 4)).toNat) (a0_0.length : Int)))] : List S88)), (w64 ((a0_0.length : Int) + 1)))) else none else none else none else none else none else none else none else (impl_in.f k a2 0 15).bind fun t8 => bif !t8 then some (impl_PutAt.e (t1, a1)) else bif decide (a3 < 0) then some (impl_PutAt.e (t1, a1)) else (impl_ArenaOk.f k a0_0).bind fun t9 => bif !t9 then some (impl_PutAt.e (t1, a1)) else bif decide (a1 ≥ 0) then bif decide (0 ≤ a1) then bif decide (a1 < (a0_0.length : Int)) then (impl_copyInts.f k ((rd_T88 a0_0 a1).f1)).bind fun t10 => bif decide (0 ≤ (w64 (Int.tdiv a2 4))) then bif decide ((w64 (Int.tdiv a2 4)) < (t10.length : Int)) then bif decide ((rd_T3 t10 (w64 (Int.tdiv a2 4))) ≥ 0) then bif decide (0 ≤ (rd_T3 t10 (w64 (Int.tdiv a2 4)))) then bif decide ((rd_T3 t10 (w64 (Int.tdiv a2 4))) < (a0_0.length : Int)) then (impl_copyInts.f k ((rd_T88 a0_0 (rd_T3 t10 (w64 (Int.tdiv a2 4)))).f1)).bind fun t11 => bif decide (0 ≤ (Int.tmod a2 4)) then bif decide ((Int.tmod a2 4) < (t11.length : Int)) then bif decide (0 ≤ (w64 (Int.tdiv a2 4))) then bif decide ((w64 (Int.tdiv a2 4)) < (t10.length : Int)) then bif decide (t1.length + ([(S88.mk true (t11.set ((Int.tmod a2 4).toNat) a3)), (S88.mk false (t10.set ((w64 (Int.tdiv a2 4)).toNat) (a0_0.length : Int)))] : List S88).length ≤ 4398046511104) then some (impl_PutAt.e ((t1 ++ ([(S88.mk true (t11.set ((Int.tmod a2 4).toNat) a3)), (S88.mk false (t10.set ((w64 (Int.tdiv a2 4)).toNat) (a0_0.length : Int)))] : List S88)), (w64 ((a0_0.length : Int) + 1)))) else none else none else none else none else none else none else none else bif decide (0 ≤ (Int.tmod a2 4)) then bif decide ((Int.tmod a2 4) < ((List.replicate 4 z3).length : Int)) then bif decide (0 ≤ (w64 (Int.tdiv a2 4))) then bif decide ((w64 (Int.tdiv a2 4)) < (t10.length : Int)) then bif decide (t1.length + ([(S88.mk true ((List.replicate 4 z3).set ((Int.tmod a2 4).toNat) a3)), (S88.mk false (t10.set ((w64 (Int.tdiv a2 4)).toNat) (a0_0.length : Int)))] : List S88).length ≤ 4398046511104) then some (impl_PutAt.e ((t1 ++ ([(S88.mk true ((List.replicate 4 z3).set ((Int.tmod a2 4).toNat) a3)), (S88.mk false (t10.set ((w64 (Int.tdiv a2 4)).toNat) (a0_0.length : Int)))] : List S88)), (w64 ((a0_0.length : Int) + 1)))) else none else none else none else none else none else none else none else none else none else bif decide (0 ≤ (w64 (Int.tdiv a2 4))) then bif decide ((w64 (Int.tdiv a2 4)) < (([(-1), (-1), (-1), (-1)] : List Int).length : Int)) then bif decide ((rd_T3 ([(-1), (-1), (-1), (-1)] : List Int) (w64 (Int.tdiv a2 4))) ≥ 0) then bif decide (0 ≤ (rd_T3 ([(-1), (-1), (-1), (-1)] : List Int) (w64 (Int.tdiv a2 4)))) then bif decide ((rd_T3 ([(-1), (-1), (-1), (-1)] : List Int) (w64 (Int.tdiv a2 4))) < (a0_0.length : Int)) then (impl_copyInts.f k ((rd_T88 a0_0 (rd_T3 ([(-1), (-1), (-1), (-1)] : List Int) (w64 (Int.tdiv a2 4)))).f1)).bind fun t12 => bif decide (0 ≤ (Int.tmod a2 4)) then bif decide ((Int.tmod a2 4) < (t12.length : Int)) then bif decide (0 ≤ (w64 (Int.tdiv a2 4))) then bif decide ((w64 (Int.tdiv a2 4)) < (([(-1), (-1), (-1), (-1)] : List Int).length : Int)) then bif decide (t1.length + ([(S88.mk true (t12.set ((Int.tmod a2 4).toNat) a3)), (S88.mk false (([(-1), (-1), (-1), (-1)] : List Int).set ((w64 (Int.tdiv a2 4)).toNat) (a0_0.length : Int)))] : List S88).length ≤ 4398046511104) then some (impl_PutAt.e ((t1 ++ ([(S88.mk true (t12.set ((Int.tmod a2 4).toNat) a3)), (S88.mk false (([(-1), (-1), (-1), (-1)] : List Int).set ((w64 (Int.tdiv a2 4)).toNat) (a0_0.length : Int)))] : List S88)), (w64 ((a0_0.length : Int) + 1)))) else none else none else none else none else none else none else none else bif decide (0 ≤ (Int.tmod a2 4)) then bif decide ((Int.tmod a2 4) < ((List.replicate 4 z3).length : Int)) then bif decide (0 ≤ (w64 (Int.tdiv a2 4))) then bif decide ((w64 (Int.tdiv a2 4)) < (([(-1), (-1), (-1), (-1)] : List Int).length : Int)) then bif decide (t1.length + ([(S88.mk true ((List.replicate 4 z3).set ((Int.tmod a2 4).toNat) a3)), (S88.mk false (([(-1), (-1), (-1), (-1)] : List Int).set ((w64 (Int.tdiv a2 4)).toNat) (a0_0.length : Int)))] : List S88).length ≤ 4398046511104) then some (impl_PutAt.e ((t1 ++ ([(S88.mk true ((List.replicate 4 z3).set ((Int.tmod a2 4).toNat) a3)), (S88.mk false (([(-1), (-1), (-1), (-1)] : List Int).set ((w64 (Int.tdiv a2 4)).toNat) (a0_0.length : Int)))] : List S88)), (w64 ((a0_0.length : Int) + 1)))) else none else none else none else none else none else none else none := by kernel_rfl
set_option maxRecDepth 100000 in
theorem impl_PutAt.oke (k : Nat) (a0_0 : List S88) (a1 : Int) (a2 : Int) (a3 : Int) : goF Try.f86 impl_PutAt.ctx impl_PutAt.sp 0 impl_PutAt.en (k + 1) [.code (body Try.f86)] (startSt [.ag [.row 0 .t88 a0_0], .sc (.int .i64 a1), .sc (.int .i64 a2), .sc (.int .i64 a3)] []) = (impl_PutAt.f k a0_0 a1 a2 a3).map impl_PutAt.e := by
  rw [impl_PutAt.f]; exact (impl_PutAt.te _ k a0_0 a1 a2 a3).trans (bn (fun t1 => (nd (bn (fun t2 => (nb rfl (bn (fun t3 => (nb rfl (cd rfl (bn (fun t4 => (nb rfl (cd (cd (cd (bn (fun t5 => (cd (cd (cd (cd (cd (bn (fun t6 => (cd (cd (cd (cd (cd rfl rfl) rfl) rfl) rfl) rfl))) rfl) rfl) (cd (cd (cd (cd (cd rfl rfl) rfl) rfl) rfl) rfl)) rfl) rfl))) rfl) rfl) (cd (cd (cd (cd (cd (bn (fun t7 => (cd (cd (cd (cd (cd rfl rfl) rfl) rfl) rfl) rfl))) rfl) rfl) (cd (cd (cd (cd (cd rfl rfl) rfl) rfl) rfl) rfl)) rfl) rfl)))))))))))) (bn (fun t8 => (nb rfl (cd rfl (bn (fun t9 => (nb rfl (cd (cd (cd (bn (fun t10 => (cd (cd (cd (cd (cd (bn (fun t11 => (cd (cd (cd (cd (cd rfl rfl) rfl) rfl) rfl) rfl))) rfl) rfl) (cd (cd (cd (cd (cd rfl rfl) rfl) rfl) rfl) rfl)) rfl) rfl))) rfl) rfl) (cd (cd (cd (cd (cd (bn (fun t12 => (cd (cd (cd (cd (cd rfl rfl) rfl) rfl) rfl) rfl))) rfl) rfl) (cd (cd (cd (cd (cd rfl rfl) rfl) rfl) rfl) rfl)) rfl) rfl))))))))))))
theorem impl_PutAt.con (k : Nat) (a0_0 : List S88) (a1 : Int) (a2 : Int) (a3 : Int) (r) (h : impl_PutAt.f k a0_0 a1 a2 a3 = some r) : Contract Try.prog kit 86 [.ag [.row 0 .t88 a0_0], .sc (.int .i64 a1), .sc (.int .i64 a2), .sc (.int .i64 a3)] [] (impl_PutAt.e r).1 (impl_PutAt.e r).2.1 (impl_PutAt.e r).2.2 :=
  con_okG kitOk mix (fun k => (CtxOk.cons (impl_ArenaOk.xok k) (CtxOk.cons (impl_in.xok k) (CtxOk.cons (impl_isRoot.xok k) (CtxOk.cons (impl_copyArena.xok k) (CtxOk.cons (impl_copyInts.xok k) CtxOk.nil)))))) (impl_PutAt.oke k a0_0 a1 a2 a3) h (by kernel_rfl) (by kernel_rfl) (by kernel_rfl) rfl (by kernel_rfl) rfl rfl
noncomputable def impl_PutAt.x (k : Nat) : X := fun ins bs κ => match ins, bs with
  | [.ag [.row 0 .t88 a0_0], .sc (.int .i64 a1), .sc (.int .i64 a2), .sc (.int .i64 a3)], [] => (impl_PutAt.f k a0_0 a1 a2 a3).bind fun r => κ (impl_PutAt.e r).1 (impl_PutAt.e r).2.1 (impl_PutAt.e r).2.2
  | _, _ => none
theorem impl_PutAt.xok (k : Nat) : XOk 86 (impl_PutAt.x k) := by
  intro ins bs κ res h
  unfold impl_PutAt.x at h
  split at h
  · obtain ⟨r, hr, h⟩ := Option.bind_eq_some_iff.1 h
    exact ⟨_, _, _, impl_PutAt.con k _ _ _ _ r hr, h⟩
  · cases h

/-! ### impl_Store_enter: function 47 -/
noncomputable def impl_Store_enter.sp : Nat → Option (Spec Ty) := fun r => none
noncomputable def impl_Store_enter.en : Option (Spec Ty) := some ⟨[(4, .keep)], [(2, none), (1, none), (0, some [.own .t53, .own .t88, .keep])]⟩
noncomputable def impl_Store_enter.ctx (k : Nat) : Ctx Ty D := (cons 63 (impl_volAt.x k) (cons 85 (impl_Store_create.x k) (cons 86 (impl_PutAt.x k) (fun _ _ _ _ => none))))
noncomputable def impl_Store_enter.f (k : Nat) (a1_0 : Int) (a1_1 : Int) (a1_2 : Int) (a1_3 : Int) (a0_2 : Int) (h0_0 : List S53) (h0_1 : List S88) : Option ((Bool × (List S53) × (List S88) × Int × (List S53) × (List S88)) ⊕ (Bool × (List S53) × (List S88) × Int) ⊕ (Bool × (List S53) × (List S88) × Int) ⊕ (Bool × (List S53) × (List S88) × Int × (List S53)) ⊕ (Bool × (List S53) × (List S88) × Int × (List S88))) := (if a1_0 = 1 then (some (.inl (true, ([] : List S53), ([] : List S88), (maxI a1_2 1), h0_0, h0_1))) else (if a1_0 = 2 then ((impl_Store_create.f k a1_1 a1_2 a0_2 h0_0 h0_1).bind (Sum.elim (fun t2 => (some (.inr (.inl (t2.1, t2.2.1, t2.2.2.1, t2.2.2.2))))) (fun t3 => (some (.inr (.inr (.inl (t3.1, t3.2.1, t3.2.2.1, t3.2.2.2)))))))) else ((impl_volAt.f k h0_0 h0_1 a0_2 a1_1).bind fun t4 => (if t4 < 0 then (some (.inr (.inl (false, h0_0, h0_1, a0_2)))) else (if a1_3 = 1000000000 then (some (.inr (.inl (false, h0_0, h0_1, a0_2)))) else (if a1_0 = 3 then (if 0 ≤ t4 then (if t4 ≤ (h0_0.length : Int) then (if ([] : List S53).length + ((h0_0.drop 0).take (t4.toNat - 0)).length ≤ 8796093022208 then (if 0 ≤ (w64 (t4 + 1)) then (if (w64 (t4 + 1)) ≤ (h0_0.length : Int) then (if (([] : List S53) ++ ((h0_0.drop 0).take (t4.toNat - 0))).length + ((h0_0.drop ((w64 (t4 + 1)).toNat)).take (h0_0.length - (w64 (t4 + 1)).toNat)).length ≤ 8796093022208 then (some (.inr (.inr (.inr (.inl (true, ((([] : List S53) ++ ((h0_0.drop 0).take (t4.toNat - 0))) ++ ((h0_0.drop ((w64 (t4 + 1)).toNat)).take (h0_0.length - (w64 (t4 + 1)).toNat))), h0_1, a0_2, h0_0)))))) else none) else none) else none) else none) else none) else none) else (if 0 ≤ t4 then (if t4 < (h0_0.length : Int) then ((impl_PutAt.f k h0_1 ((rd_T53 h0_0 t4).f1) a1_2 a1_3).bind fun t5 => (if 0 ≤ t4 then (if t4 < (h0_0.length : Int) then (some (.inr (.inr (.inr (.inr (true, (h0_0.set t4.toNat (S53.mk ((rd_T53 h0_0 t4).f0) t5.2)), t5.1, (maxI a0_2 (w64 (a1_3 + 1))), h0_1)))))) else none) else none)) else none) else none)))))))
noncomputable def impl_Store_enter.e : (Bool × (List S53) × (List S88) × Int × (List S53) × (List S88)) ⊕ (Bool × (List S53) × (List S88) × Int) ⊕ (Bool × (List S53) × (List S88) × Int) ⊕ (Bool × (List S53) × (List S88) × Int × (List S53)) ⊕ (Bool × (List S53) × (List S88) × Int × (List S88)) → Res Ty D := (Sum.elim (fun r => (.sc (.bool r.1), [some (.box [.sl 3 none, .sl 4 none, .sc (.int .i64 r.2.2.2.1)]), some (.rowb .t53 r.2.2.2.2.1 0), some (.rowb .t88 r.2.2.2.2.2 0)], [.rowb .t53 r.2.1 0, .rowb .t88 r.2.2.1 0])) (Sum.elim (fun r => (.sc (.bool r.1), [some (.box [.sl 1 none, .sl 2 none, .sc (.int .i64 r.2.2.2)]), some (.rowb .t53 r.2.1 0), some (.rowb .t88 r.2.2.1 0)], [])) (Sum.elim (fun r => (.sc (.bool r.1), [some (.box [.sl 3 none, .sl 2 none, .sc (.int .i64 r.2.2.2)]), none, some (.rowb .t88 r.2.2.1 0)], [.rowb .t53 r.2.1 0])) (Sum.elim (fun r => (.sc (.bool r.1), [some (.box [.sl 3 none, .sl 2 none, .sc (.int .i64 r.2.2.2.1)]), some (.rowb .t53 r.2.2.2.2 0), some (.rowb .t88 r.2.2.1 0)], [.rowb .t53 r.2.1 0])) (fun r => (.sc (.bool r.1), [some (.box [.sl 1 none, .sl 3 none, .sc (.int .i64 r.2.2.2.1)]), some (.rowb .t53 r.2.1 0), some (.rowb .t88 r.2.2.2.2 0)], [.rowb .t88 r.2.2.1 0]))))))
noncomputable abbrev impl_Store_enter.g (rec : List Item → St Ty D → R) (k : Nat) := go1 Try.f47 (impl_Store_enter.ctx k) impl_Store_enter.sp 3 impl_Store_enter.en rec
set_option maxRecDepth 100000 in
theorem impl_Store_enter.te (rec : List Item → St Ty D → R) (k : Nat) (a1_0 : Int) (a1_1 : Int) (a1_2 : Int) (a1_3 : Int) (a0_2 : Int) (h0_0 : List S53) (h0_1 : List S88) : impl_Store_enter.g rec k [.code (body Try.f47)] (startSt [.pt 0 0 0, .ag [.sc (.int .i64 a1_0), .sc (.int .i64 a1_1), .sc (.int .i64 a1_2), .sc (.int .i64 a1_3)]] [.box [.sl 1 none, .sl 2 none, .sc (.int .i64 a0_2)], .rowb .t53 h0_0 0, .rowb .t88 h0_1 0]) =
  bif decide (a1_0 = 1) then some (impl_Store_enter.e (.inl (true, ([] : List S53), ([] : List S88), (maxI a1_2 1), h0_0, h0_1))) else bif decide (a1_0 = 2) then (impl_Store_create.f k a1_1 a1_2 a0_2 h0_0 h0_1).bind (Sum.elim (fun t2 => some (impl_Store_enter.e (.inr (.inl (t2.1, t2.2.1, t2.2.2.1, t2.2.2.2))))) (fun t3 => some (impl_Store_enter.e (.inr (.inr (.inl (t3.1, t3.2.1, t3.2.2.1, t3.2.2.2))))))) else (impl_volAt.f k h0_0 h0_1 a0_2 a1_1).bind fun t4 => bif decide (t4 < 0) then some (impl_Store_enter.e (.inr (.inl (false, h0_0, h0_1, a0_2)))) else bif decide (a1_3 = 1000000000) then some (impl_Store_enter.e (.inr (.inl (false, h0_0, h0_1, a0_2)))) else bif decide (a1_0 = 3) then bif decide (0 ≤ t4) then bif decide (t4 ≤ (h0_0.length : Int)) then bif decide (([] : List S53).length + ((h0_0.drop 0).take (t4.toNat - 0)).length ≤ 8796093022208) then bif decide (0 ≤ (w64 (t4 + 1))) then bif decide ((w64 (t4 + 1)) ≤ (h0_0.length : Int)) then bif decide ((([] : List S53) ++ ((h0_0.drop 0).take (t4.toNat - 0))).length + ((h0_0.drop ((w64 (t4 + 1)).toNat)).take (h0_0.length - (w64 (t4 + 1)).toNat)).length ≤ 8796093022208) then some (impl_Store_enter.e (.inr (.inr (.inr (.inl (true, ((([] : List S53) ++ ((h0_0.drop 0).take (t4.toNat - 0))) ++ ((h0_0.drop ((w64 (t4 + 1)).toNat)).take (h0_0.length - (w64 (t4 + 1)).toNat))), h0_1, a0_2, h0_0)))))) else none else none else none else none else none else none else bif decide (0 ≤ t4) then bif decide (t4 < (h0_0.length : Int)) then (impl_PutAt.f k h0_1 ((rd_T53 h0_0 t4).f1) a1_2 a1_3).bind fun t5 => bif decide (0 ≤ t4) then bif decide (t4 < (h0_0.length : Int)) then some (impl_Store_enter.e (.inr (.inr (.inr (.inr (true, (h0_0.set t4.toNat (S53.mk ((rd_T53 h0_0 t4).f0) t5.2)), t5.1, (maxI a0_2 (w64 (a1_3 + 1))), h0_1)))))) else none else none else none else none := by kernel_rfl
set_option maxRecDepth 100000 in
theorem impl_Store_enter.oke (k : Nat) (a1_0 : Int) (a1_1 : Int) (a1_2 : Int) (a1_3 : Int) (a0_2 : Int) (h0_0 : List S53) (h0_1 : List S88) : goF Try.f47 impl_Store_enter.ctx impl_Store_enter.sp 3 impl_Store_enter.en (k + 1) [.code (body Try.f47)] (startSt [.pt 0 0 0, .ag [.sc (.int .i64 a1_0), .sc (.int .i64 a1_1), .sc (.int .i64 a1_2), .sc (.int .i64 a1_3)]] [.box [.sl 1 none, .sl 2 none, .sc (.int .i64 a0_2)], .rowb .t53 h0_0 0, .rowb .t88 h0_1 0]) = (impl_Store_enter.f k a1_0 a1_1 a1_2 a1_3 a0_2 h0_0 h0_1).map impl_Store_enter.e := by
  rw [impl_Store_enter.f]; exact (impl_Store_enter.te _ k a1_0 a1_1 a1_2 a1_3 a0_2 h0_0 h0_1).trans (cd rfl (cd (bn (el (fun t2 => rfl) (fun t3 => rfl))) (bn (fun t4 => (cd rfl (cd rfl (cd (cd (cd (cd (cd (cd (cd rfl rfl) rfl) rfl) rfl) rfl) rfl) (cd (cd (bn (fun t5 => (cd (cd rfl rfl) rfl))) rfl) rfl))))))))
theorem impl_Store_enter.con (k : Nat) (a1_0 : Int) (a1_1 : Int) (a1_2 : Int) (a1_3 : Int) (a0_2 : Int) (h0_0 : List S53) (h0_1 : List S88) (r) (h : impl_Store_enter.f k a1_0 a1_1 a1_2 a1_3 a0_2 h0_0 h0_1 = some r) : Contract Try.prog kit 47 [.pt 0 0 0, .ag [.sc (.int .i64 a1_0), .sc (.int .i64 a1_1), .sc (.int .i64 a1_2), .sc (.int .i64 a1_3)]] [.box [.sl 1 none, .sl 2 none, .sc (.int .i64 a0_2)], .rowb .t53 h0_0 0, .rowb .t88 h0_1 0] (impl_Store_enter.e r).1 (impl_Store_enter.e r).2.1 (impl_Store_enter.e r).2.2 :=
  con_okG kitOk mix (fun k => (CtxOk.cons (impl_volAt.xok k) (CtxOk.cons (impl_Store_create.xok k) (CtxOk.cons (impl_PutAt.xok k) CtxOk.nil)))) (impl_Store_enter.oke k a1_0 a1_1 a1_2 a1_3 a0_2 h0_0 h0_1) h (by kernel_rfl) (by kernel_rfl) (by kernel_rfl) rfl (by kernel_rfl) rfl (by rcases r with r | r | r | r | r <;> rfl)
noncomputable def impl_Store_enter.x (k : Nat) : X := fun ins bs κ => match ins, bs with
  | [.pt 0 0 0, .ag [.sc (.int .i64 a1_0), .sc (.int .i64 a1_1), .sc (.int .i64 a1_2), .sc (.int .i64 a1_3)]], [.box [.sl 1 none, .sl 2 none, .sc (.int .i64 a0_2)], .rowb .t53 h0_0 0, .rowb .t88 h0_1 0] => (impl_Store_enter.f k a1_0 a1_1 a1_2 a1_3 a0_2 h0_0 h0_1).bind (Sum.elim (fun r => κ (impl_Store_enter.e (.inl r)).1 (impl_Store_enter.e (.inl r)).2.1 (impl_Store_enter.e (.inl r)).2.2) (Sum.elim (fun r => κ (impl_Store_enter.e (.inr (.inl r))).1 (impl_Store_enter.e (.inr (.inl r))).2.1 (impl_Store_enter.e (.inr (.inl r))).2.2) (Sum.elim (fun r => κ (impl_Store_enter.e (.inr (.inr (.inl r)))).1 (impl_Store_enter.e (.inr (.inr (.inl r)))).2.1 (impl_Store_enter.e (.inr (.inr (.inl r)))).2.2) (Sum.elim (fun r => κ (impl_Store_enter.e (.inr (.inr (.inr (.inl r))))).1 (impl_Store_enter.e (.inr (.inr (.inr (.inl r))))).2.1 (impl_Store_enter.e (.inr (.inr (.inr (.inl r))))).2.2) (fun r => κ (impl_Store_enter.e (.inr (.inr (.inr (.inr r))))).1 (impl_Store_enter.e (.inr (.inr (.inr (.inr r))))).2.1 (impl_Store_enter.e (.inr (.inr (.inr (.inr r))))).2.2)))))
  | _, _ => none
theorem impl_Store_enter.xok (k : Nat) : XOk 47 (impl_Store_enter.x k) := by
  intro ins bs κ res h
  unfold impl_Store_enter.x at h
  split at h
  · obtain ⟨r, hr, h⟩ := Option.bind_eq_some_iff.1 h
    rcases r with r | r | r | r | r
    · exact ⟨_, _, _, impl_Store_enter.con k _ _ _ _ _ _ _ _ hr, h⟩
    · exact ⟨_, _, _, impl_Store_enter.con k _ _ _ _ _ _ _ _ hr, h⟩
    · exact ⟨_, _, _, impl_Store_enter.con k _ _ _ _ _ _ _ _ hr, h⟩
    · exact ⟨_, _, _, impl_Store_enter.con k _ _ _ _ _ _ _ _ hr, h⟩
    · exact ⟨_, _, _, impl_Store_enter.con k _ _ _ _ _ _ _ _ hr, h⟩
  · cases h
end Go.Proofs.Yteideicglgpfiaa.M2
