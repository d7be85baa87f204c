/- FnExactDeviceNew: functions of the translation as Lean functions with what their calls come to, plain lemmas on them, and, at the end, the row. Parts of one proof, merged by a program of this session; each part's own sentence stands at its head. -/
import Derived.KernelRfl
import Derived.Below
import Derived.ChangeArms
import Derived.DataReads
import Derived.Test.YtmboeckendhdnaaGreatRows
import Derived.WalkKit
import Derived.ProofKit
import Derived.OpenShut
import Derived.ShutString
import Derived.ChangeOld
import Derived.SizedLaws
import Derived.ChangeSlices
import Derived.Test.YtmboeckendhdnaaGreatMFnExactDeviceNewc
/- Plain runs of functions: each is a plain Lean function, and keeps its contract. Written by a program of this session. -/
namespace Go.Proofs.YtmboeckendhdnaaGreat.M2
open Go Go.Proofs.YtmboeckendhdnaaGreat.PK
set_option linter.unusedVariables false
set_option linter.unusedSimpArgs false
set_option maxHeartbeats 4000000
/-! ### laws_markArena: function 42 -/
noncomputable def laws_markArena.sp : Nat → Option (Spec Ty) := fun r => none
noncomputable def laws_markArena.en : Option (Spec Ty) := none
noncomputable def laws_markArena.ctx (k : Nat) : Ctx Ty D := (cons 66 (laws_markKnotS.x k) (fun _ _ _ _ => none))
noncomputable def laws_markArena.f (k : Nat) (a1 : Int) (a0_0 : List S132) : Option (Int × (List S132)) := ((laws_markKnotS.f k a1 a0_0).bind fun t1 => (some (t1.1, t1.2)))
noncomputable def laws_markArena.e (r : Int × (List S132)) : Res Ty D := (.sc (.int .i64 r.1), [some (.rowb .t132 r.2 1)], [])
noncomputable abbrev laws_markArena.g (rec : List Item → St Ty D → R) (k : Nat) := go1 Tryz.f42 (laws_markArena.ctx k) laws_markArena.sp 1 laws_markArena.en rec
set_option maxRecDepth 100000 in
theorem laws_markArena.te (rec : List Item → St Ty D → R) (k : Nat) (a1 : Int) (a0_0 : List S132) : laws_markArena.g rec k [.code (body Tryz.f42)] (startSt [.ag [.sl 0 none], .sc (.int .i64 a1)] [.rowb .t132 a0_0 0]) =
  (laws_markKnotS.f k a1 a0_0).bind fun t1 => some (laws_markArena.e (t1.1, t1.2)) := by kernel_rfl
set_option maxRecDepth 100000 in
theorem laws_markArena.oke (k : Nat) (a1 : Int) (a0_0 : List S132) : goF Tryz.f42 laws_markArena.ctx laws_markArena.sp 1 laws_markArena.en (k + 1) [.code (body Tryz.f42)] (startSt [.ag [.sl 0 none], .sc (.int .i64 a1)] [.rowb .t132 a0_0 0]) = (laws_markArena.f k a1 a0_0).map laws_markArena.e := by
  rw [laws_markArena.f]; exact (laws_markArena.te _ k a1 a0_0).trans (bn (fun t1 => rfl))
theorem laws_markArena.con (k : Nat) (a1 : Int) (a0_0 : List S132) (r) (h : laws_markArena.f k a1 a0_0 = some r) : Contract Tryz.prog kit 42 [.ag [.sl 0 none], .sc (.int .i64 a1)] [.rowb .t132 a0_0 0] (laws_markArena.e r).1 (laws_markArena.e r).2.1 (laws_markArena.e r).2.2 :=
  con_okG kitOk mix (fun k => (CtxOk.cons (laws_markKnotS.xok k) CtxOk.nil)) (laws_markArena.oke k a1 a0_0) h (by kernel_rfl) (by kernel_rfl) (by kernel_rfl) rfl (by kernel_rfl) rfl rfl
noncomputable def laws_markArena.x (k : Nat) : X := fun ins bs κ => match ins, bs with
  | [.ag [.sl 0 none], .sc (.int .i64 a1)], [.rowb .t132 a0_0 0] => (laws_markArena.f k a1 a0_0).bind fun r => κ (laws_markArena.e r).1 (laws_markArena.e r).2.1 (laws_markArena.e r).2.2
  | _, _ => none
theorem laws_markArena.xok (k : Nat) : XOk 42 (laws_markArena.x k) := by
  intro ins bs κ res h
  unfold laws_markArena.x at h
  split at h
  · obtain ⟨r, hr, h⟩ := Option.bind_eq_some_iff.1 h
    exact ⟨_, _, _, laws_markArena.con k _ _ r hr, h⟩
  · cases h

/-! ### laws_markStore: function 16 -/
noncomputable def laws_markStore.sp : Nat → Option (Spec Ty) := fun r => none
noncomputable def laws_markStore.en : Option (Spec Ty) := none
noncomputable def laws_markStore.ctx (k : Nat) : Ctx Ty D := (cons 41 (laws_markVolS.x k) (cons 42 (laws_markArena.x k) (fun _ _ _ _ => none)))
noncomputable def laws_markStore.f (k : Nat) (a0_2 : Int) (a1 : Int) (a0_0 : List S96) (a0_1 : List S132) : Option (Int × (List S96) × (List S132)) := ((laws_markVolS.f k a1 a0_0).bind fun t1 => ((laws_markArena.f k t1.1 a0_1).bind fun t2 => (some (t2.1, t1.2, t2.2))))
noncomputable def laws_markStore.e (r : Int × (List S96) × (List S132)) : Res Ty D := (.sc (.int .i64 r.1), [some (.rowb .t96 r.2.1 1), some (.rowb .t132 r.2.2 1)], [])
noncomputable abbrev laws_markStore.g (rec : List Item → St Ty D → R) (k : Nat) := go1 Tryz.f16 (laws_markStore.ctx k) laws_markStore.sp 2 laws_markStore.en rec
set_option maxRecDepth 100000 in
theorem laws_markStore.te (rec : List Item → St Ty D → R) (k : Nat) (a0_2 : Int) (a1 : Int) (a0_0 : List S96) (a0_1 : List S132) : laws_markStore.g rec k [.code (body Tryz.f16)] (startSt [.ag [.sl 0 none, .sl 1 none, .sc (.int .i64 a0_2)], .sc (.int .i64 a1)] [.rowb .t96 a0_0 0, .rowb .t132 a0_1 0]) =
  (laws_markVolS.f k a1 a0_0).bind fun t1 => (laws_markArena.f k t1.1 a0_1).bind fun t2 => some (laws_markStore.e (t2.1, t1.2, t2.2)) := by kernel_rfl
set_option maxRecDepth 100000 in
theorem laws_markStore.oke (k : Nat) (a0_2 : Int) (a1 : Int) (a0_0 : List S96) (a0_1 : List S132) : goF Tryz.f16 laws_markStore.ctx laws_markStore.sp 2 laws_markStore.en (k + 1) [.code (body Tryz.f16)] (startSt [.ag [.sl 0 none, .sl 1 none, .sc (.int .i64 a0_2)], .sc (.int .i64 a1)] [.rowb .t96 a0_0 0, .rowb .t132 a0_1 0]) = (laws_markStore.f k a0_2 a1 a0_0 a0_1).map laws_markStore.e := by
  rw [laws_markStore.f]; exact (laws_markStore.te _ k a0_2 a1 a0_0 a0_1).trans (bn (fun t1 => (bn (fun t2 => rfl))))
theorem laws_markStore.con (k : Nat) (a0_2 : Int) (a1 : Int) (a0_0 : List S96) (a0_1 : List S132) (r) (h : laws_markStore.f k a0_2 a1 a0_0 a0_1 = some r) : Contract Tryz.prog kit 16 [.ag [.sl 0 none, .sl 1 none, .sc (.int .i64 a0_2)], .sc (.int .i64 a1)] [.rowb .t96 a0_0 0, .rowb .t132 a0_1 0] (laws_markStore.e r).1 (laws_markStore.e r).2.1 (laws_markStore.e r).2.2 :=
  con_okG kitOk mix (fun k => (CtxOk.cons (laws_markVolS.xok k) (CtxOk.cons (laws_markArena.xok k) CtxOk.nil))) (laws_markStore.oke k a0_2 a1 a0_0 a0_1) h (by kernel_rfl) (by kernel_rfl) (by kernel_rfl) rfl (by kernel_rfl) rfl rfl
noncomputable def laws_markStore.x (k : Nat) : X := fun ins bs κ => match ins, bs with
  | [.ag [.sl 0 none, .sl 1 none, .sc (.int .i64 a0_2)], .sc (.int .i64 a1)], [.rowb .t96 a0_0 0, .rowb .t132 a0_1 0] => (laws_markStore.f k a0_2 a1 a0_0 a0_1).bind fun r => κ (laws_markStore.e r).1 (laws_markStore.e r).2.1 (laws_markStore.e r).2.2
  | _, _ => none
theorem laws_markStore.xok (k : Nat) : XOk 16 (laws_markStore.x k) := by
  intro ins bs κ res h
  unfold laws_markStore.x at h
  split at h
  · obtain ⟨r, hr, h⟩ := Option.bind_eq_some_iff.1 h
    exact ⟨_, _, _, laws_markStore.con k _ _ _ _ r hr, h⟩
  · cases h

/-! ### laws_markDevice: function 7 -/
noncomputable def laws_markDevice.sp : Nat → Option (Spec Ty) := fun r => none
noncomputable def laws_markDevice.en : Option (Spec Ty) := none
noncomputable def laws_markDevice.ctx (k : Nat) : Ctx Ty D := (cons 15 (laws_markFlash.x k) (cons 16 (laws_markStore.x k) (fun _ _ _ _ => none)))
noncomputable def laws_markDevice.f (k : Nat) (a0_3 : Int) (a0_4 : Int) (a0_5 : Int) (a0_6 : Int) (a1 : Int) (a0_0 : List S48) (a0_1 : List S96) (a0_2 : List S132) : Option (Int × (List S48) × (List S96) × (List S132)) := ((laws_markFlash.f k a1 a0_0).bind fun t1 => ((laws_markStore.f k a0_3 t1.1 a0_1 a0_2).bind fun t2 => (some (t2.1, t1.2, t2.2.1, t2.2.2))))
noncomputable def laws_markDevice.e (r : Int × (List S48) × (List S96) × (List S132)) : Res Ty D := (.sc (.int .i64 r.1), [some (.rowb .t48 r.2.1 1), some (.rowb .t96 r.2.2.1 1), some (.rowb .t132 r.2.2.2 1)], [])
noncomputable abbrev laws_markDevice.g (rec : List Item → St Ty D → R) (k : Nat) := go1 Tryz.f7 (laws_markDevice.ctx k) laws_markDevice.sp 3 laws_markDevice.en rec
set_option maxRecDepth 100000 in
theorem laws_markDevice.te (rec : List Item → St Ty D → R) (k : Nat) (a0_3 : Int) (a0_4 : Int) (a0_5 : Int) (a0_6 : Int) (a1 : Int) (a0_0 : List S48) (a0_1 : List S96) (a0_2 : List S132) : laws_markDevice.g rec k [.code (body Tryz.f7)] (startSt [.ag [.sl 0 none, .sl 1 none, .sl 2 none, .sc (.int .i64 a0_3), .sc (.int .i64 a0_4), .sc (.int .i64 a0_5), .sc (.int .i64 a0_6)], .sc (.int .i64 a1)] [.rowb .t48 a0_0 0, .rowb .t96 a0_1 0, .rowb .t132 a0_2 0]) =
  (laws_markFlash.f k a1 a0_0).bind fun t1 => (laws_markStore.f k a0_3 t1.1 a0_1 a0_2).bind fun t2 => some (laws_markDevice.e (t2.1, t1.2, t2.2.1, t2.2.2)) := by kernel_rfl
set_option maxRecDepth 100000 in
theorem laws_markDevice.oke (k : Nat) (a0_3 : Int) (a0_4 : Int) (a0_5 : Int) (a0_6 : Int) (a1 : Int) (a0_0 : List S48) (a0_1 : List S96) (a0_2 : List S132) : goF Tryz.f7 laws_markDevice.ctx laws_markDevice.sp 3 laws_markDevice.en (k + 1) [.code (body Tryz.f7)] (startSt [.ag [.sl 0 none, .sl 1 none, .sl 2 none, .sc (.int .i64 a0_3), .sc (.int .i64 a0_4), .sc (.int .i64 a0_5), .sc (.int .i64 a0_6)], .sc (.int .i64 a1)] [.rowb .t48 a0_0 0, .rowb .t96 a0_1 0, .rowb .t132 a0_2 0]) = (laws_markDevice.f k a0_3 a0_4 a0_5 a0_6 a1 a0_0 a0_1 a0_2).map laws_markDevice.e := by
  rw [laws_markDevice.f]; exact (laws_markDevice.te _ k a0_3 a0_4 a0_5 a0_6 a1 a0_0 a0_1 a0_2).trans (bn (fun t1 => (bn (fun t2 => rfl))))
theorem laws_markDevice.con (k : Nat) (a0_3 : Int) (a0_4 : Int) (a0_5 : Int) (a0_6 : Int) (a1 : Int) (a0_0 : List S48) (a0_1 : List S96) (a0_2 : List S132) (r) (h : laws_markDevice.f k a0_3 a0_4 a0_5 a0_6 a1 a0_0 a0_1 a0_2 = some r) : Contract Tryz.prog kit 7 [.ag [.sl 0 none, .sl 1 none, .sl 2 none, .sc (.int .i64 a0_3), .sc (.int .i64 a0_4), .sc (.int .i64 a0_5), .sc (.int .i64 a0_6)], .sc (.int .i64 a1)] [.rowb .t48 a0_0 0, .rowb .t96 a0_1 0, .rowb .t132 a0_2 0] (laws_markDevice.e r).1 (laws_markDevice.e r).2.1 (laws_markDevice.e r).2.2 :=
  con_okG kitOk mix (fun k => (CtxOk.cons (laws_markFlash.xok k) (CtxOk.cons (laws_markStore.xok k) CtxOk.nil))) (laws_markDevice.oke k a0_3 a0_4 a0_5 a0_6 a1 a0_0 a0_1 a0_2) h (by kernel_rfl) (by kernel_rfl) (by kernel_rfl) rfl (by kernel_rfl) rfl rfl
noncomputable def laws_markDevice.x (k : Nat) : X := fun ins bs κ => match ins, bs with
  | [.ag [.sl 0 none, .sl 1 none, .sl 2 none, .sc (.int .i64 a0_3), .sc (.int .i64 a0_4), .sc (.int .i64 a0_5), .sc (.int .i64 a0_6)], .sc (.int .i64 a1)], [.rowb .t48 a0_0 0, .rowb .t96 a0_1 0, .rowb .t132 a0_2 0] => (laws_markDevice.f k a0_3 a0_4 a0_5 a0_6 a1 a0_0 a0_1 a0_2).bind fun r => κ (laws_markDevice.e r).1 (laws_markDevice.e r).2.1 (laws_markDevice.e r).2.2
  | _, _ => none
theorem laws_markDevice.xok (k : Nat) : XOk 7 (laws_markDevice.x k) := by
  intro ins bs κ res h
  unfold laws_markDevice.x at h
  split at h
  · obtain ⟨r, hr, h⟩ := Option.bind_eq_some_iff.1 h
    exact ⟨_, _, _, laws_markDevice.con k _ _ _ _ _ _ _ _ r hr, h⟩
  · cases h

/-! ### laws_heldLeafS: function 67 -/
noncomputable def laws_heldLeafS.sp : Nat → Option (Spec Ty) := fun r => bif Nat.beq r 2 then some ⟨[(0, .keep), (1, .keep), (5, .keep)], []⟩ else none
noncomputable def laws_heldLeafS.en : Option (Spec Ty) := none
noncomputable def laws_heldLeafS.s2 (x0 : List S76) (x1 : Int) (x5 : Int) : St Ty D := ⟨(Env.put (Env.put (Env.put E (some 0) (.row 0 .t76 x0)) (some 1) (.sc (.int .i64 x1))) (some 5) (.sc (.int .i64 x5))), H0, 1000⟩
noncomputable def laws_heldLeafS.ctx (k : Nat) : Ctx Ty D := (cons 97 (laws_markText.x k) (fun _ _ _ _ => none))
noncomputable def laws_heldLeafS.c2 : Nat → (List S76) → Int → Int → Option (Int)
  | 0, _, _, _ => none
  | k + 1, x0, x1, x5 => (if x5 < (x0.length : Int) then (if 0 ≤ x5 then (if x5 < (x0.length : Int) then (if ((rd_T76 x0 x5).f0) = x1 then (if 0 ≤ x5 then (if x5 < (x0.length : Int) then ((laws_markText.f k (w64 (x1 + 1))).bind fun t1 => (if (seq ((rd_T76 x0 x5).f1) t1) = true then (laws_heldLeafS.c2 k x0 (w64 ((w64 (x1 + 1)) + 1)) (w64 (x5 + 1))) else (some ((-1))))) else none) else none) else (some ((-1)))) else none) else none) else (some (x1)))
noncomputable def laws_heldLeafS.f (k : Nat) (a0 : List S76) (a1 : Int) : Option (Int) := (laws_heldLeafS.c2 k a0 a1 0)
noncomputable def laws_heldLeafS.e (r : Int) : Res Ty D := (.sc (.int .i64 r), [], [])
noncomputable abbrev laws_heldLeafS.g (rec : List Item → St Ty D → R) (k : Nat) := go1 Tryz.f67 (laws_heldLeafS.ctx k) laws_heldLeafS.sp 0 laws_heldLeafS.en rec
set_option maxRecDepth 100000 in
theorem laws_heldLeafS.t2 (rec : List Item → St Ty D → R) (k : Nat) (x0 : List S76) (x1 : Int) (x5 : Int) : laws_heldLeafS.g rec k (td Tryz.f67 2) (laws_heldLeafS.s2 x0 x1 x5) =
  bif decide (x5 < (x0.length : Int)) then bif decide (0 ≤ x5) then bif decide (x5 < (x0.length : Int)) then bif !decide (((rd_T76 x0 x5).f0) = x1) then some (laws_heldLeafS.e ((-1))) else bif decide (0 ≤ x5) then bif decide (x5 < (x0.length : Int)) then (laws_markText.f k (w64 (x1 + 1))).bind fun t1 => bif !(seq ((rd_T76 x0 x5).f1) t1) then some (laws_heldLeafS.e ((-1))) else rec (td Tryz.f67 2) (laws_heldLeafS.s2 x0 (w64 ((w64 (x1 + 1)) + 1)) (w64 (x5 + 1))) else none else none else none else none else some (laws_heldLeafS.e (x1)) := by kernel_rfl
set_option maxRecDepth 100000 in
theorem laws_heldLeafS.te (rec : List Item → St Ty D → R) (k : Nat) (a0 : List S76) (a1 : Int) : laws_heldLeafS.g rec k [.code (body Tryz.f67)] (startSt [.row 0 .t76 a0, .sc (.int .i64 a1)] []) =
  rec (td Tryz.f67 2) (laws_heldLeafS.s2 a0 a1 0) := by kernel_rfl
set_option maxRecDepth 100000 in
theorem laws_heldLeafS.ok : ∀ k : Nat, (∀ (x0 : List S76) (x1 : Int) (x5 : Int), goF Tryz.f67 laws_heldLeafS.ctx laws_heldLeafS.sp 0 laws_heldLeafS.en k (td Tryz.f67 2) (laws_heldLeafS.s2 x0 x1 x5) = (laws_heldLeafS.c2 k x0 x1 x5).map laws_heldLeafS.e)
  | 0 => fun _ _ _ => rfl
  | k + 1 => by
    have ih := laws_heldLeafS.ok k
    have i2 := ih
    intro x0 x1 x5; rw [laws_heldLeafS.c2]; exact (laws_heldLeafS.t2 _ k x0 x1 x5).trans (cd (cd (cd (nd rfl (cd (cd (bn (fun t1 => (nb rfl (i2 _ _ _)))) rfl) rfl)) rfl) rfl) rfl)
set_option maxRecDepth 100000 in
theorem laws_heldLeafS.oke (k : Nat) (a0 : List S76) (a1 : Int) : goF Tryz.f67 laws_heldLeafS.ctx laws_heldLeafS.sp 0 laws_heldLeafS.en (k + 1) [.code (body Tryz.f67)] (startSt [.row 0 .t76 a0, .sc (.int .i64 a1)] []) = (laws_heldLeafS.f k a0 a1).map laws_heldLeafS.e := by
  have i2 := laws_heldLeafS.ok k
  rw [laws_heldLeafS.f]; exact (laws_heldLeafS.te _ k a0 a1).trans (i2 _ _ _)
theorem laws_heldLeafS.con (k : Nat) (a0 : List S76) (a1 : Int) (r) (h : laws_heldLeafS.f k a0 a1 = some r) : Contract Tryz.prog kit 67 [.row 0 .t76 a0, .sc (.int .i64 a1)] [] (laws_heldLeafS.e r).1 (laws_heldLeafS.e r).2.1 (laws_heldLeafS.e r).2.2 :=
  con_okG kitOk mix (fun k => (CtxOk.cons (laws_markText.xok k) CtxOk.nil)) (laws_heldLeafS.oke k a0 a1) h (by kernel_rfl) (by kernel_rfl) (by kernel_rfl) rfl (by kernel_rfl) rfl rfl
noncomputable def laws_heldLeafS.x (k : Nat) : X := fun ins bs κ => match ins, bs with
  | [.row 0 .t76 a0, .sc (.int .i64 a1)], [] => (laws_heldLeafS.f k a0 a1).bind fun r => κ (laws_heldLeafS.e r).1 (laws_heldLeafS.e r).2.1 (laws_heldLeafS.e r).2.2
  | _, _ => none
theorem laws_heldLeafS.xok (k : Nat) : XOk 67 (laws_heldLeafS.x k) := by
  intro ins bs κ res h
  unfold laws_heldLeafS.x at h
  split at h
  · obtain ⟨r, hr, h⟩ := Option.bind_eq_some_iff.1 h
    exact ⟨_, _, _, laws_heldLeafS.con k _ _ r hr, h⟩
  · cases h

/-! ### laws_heldBlockS: function 43 -/
noncomputable def laws_heldBlockS.sp : Nat → Option (Spec Ty) := fun r => bif Nat.beq r 2 then some ⟨[(0, .keep), (1, .keep), (5, .keep)], []⟩ else none
noncomputable def laws_heldBlockS.en : Option (Spec Ty) := none
noncomputable def laws_heldBlockS.s2 (x0 : List S48) (x1 : Int) (x5 : Int) : St Ty D := ⟨(Env.put (Env.put (Env.put E (some 0) (.row 0 .t48 x0)) (some 1) (.sc (.int .i64 x1))) (some 5) (.sc (.int .i64 x5))), H0, 1000⟩
noncomputable def laws_heldBlockS.ctx (k : Nat) : Ctx Ty D := (cons 67 (laws_heldLeafS.x k) (fun _ _ _ _ => none))
noncomputable def laws_heldBlockS.c2 : Nat → (List S48) → Int → Int → Option (Int)
  | 0, _, _, _ => none
  | k + 1, x0, x1, x5 => (if x5 < (x0.length : Int) then (if 0 ≤ x5 then (if x5 < (x0.length : Int) then (if (((rd_T48 x0 x5).f0) == (decide ((Int.tmod x1 3) = 0))) = true then (if 0 ≤ x5 then (if x5 < (x0.length : Int) then (if ((rd_T48 x0 x5).f1) = (w64 (x1 + 1)) then (if 0 ≤ x5 then (if x5 < (x0.length : Int) then ((laws_heldLeafS.f k ((rd_T48 x0 x5).f2) (w64 ((w64 (x1 + 1)) + 1))).bind fun t1 => (if t1 < 0 then (some ((-1))) else (laws_heldBlockS.c2 k x0 t1 (w64 (x5 + 1))))) else none) else none) else (some ((-1)))) else none) else none) else (some ((-1)))) else none) else none) else (some (x1)))
noncomputable def laws_heldBlockS.f (k : Nat) (a0 : List S48) (a1 : Int) : Option (Int) := (laws_heldBlockS.c2 k a0 a1 0)
noncomputable def laws_heldBlockS.e (r : Int) : Res Ty D := (.sc (.int .i64 r), [], [])
noncomputable abbrev laws_heldBlockS.g (rec : List Item → St Ty D → R) (k : Nat) := go1 Tryz.f43 (laws_heldBlockS.ctx k) laws_heldBlockS.sp 0 laws_heldBlockS.en rec
set_option maxRecDepth 100000 in
theorem laws_heldBlockS.t2 (rec : List Item → St Ty D → R) (k : Nat) (x0 : List S48) (x1 : Int) (x5 : Int) : laws_heldBlockS.g rec k (td Tryz.f43 2) (laws_heldBlockS.s2 x0 x1 x5) =
  bif decide (x5 < (x0.length : Int)) then bif decide (0 ≤ x5) then bif decide (x5 < (x0.length : Int)) then bif !(((rd_T48 x0 x5).f0) == (decide ((Int.tmod x1 3) = 0))) then some (laws_heldBlockS.e ((-1))) else bif decide (0 ≤ x5) then bif decide (x5 < (x0.length : Int)) then bif !decide (((rd_T48 x0 x5).f1) = (w64 (x1 + 1))) then some (laws_heldBlockS.e ((-1))) else bif decide (0 ≤ x5) then bif decide (x5 < (x0.length : Int)) then (laws_heldLeafS.f k ((rd_T48 x0 x5).f2) (w64 ((w64 (x1 + 1)) + 1))).bind fun t1 => bif decide (t1 < 0) then some (laws_heldBlockS.e ((-1))) else rec (td Tryz.f43 2) (laws_heldBlockS.s2 x0 t1 (w64 (x5 + 1))) else none else none else none else none else none else none else some (laws_heldBlockS.e (x1)) := by kernel_rfl
set_option maxRecDepth 100000 in
theorem laws_heldBlockS.te (rec : List Item → St Ty D → R) (k : Nat) (a0 : List S48) (a1 : Int) : laws_heldBlockS.g rec k [.code (body Tryz.f43)] (startSt [.row 0 .t48 a0, .sc (.int .i64 a1)] []) =
  rec (td Tryz.f43 2) (laws_heldBlockS.s2 a0 a1 0) := by kernel_rfl
set_option maxRecDepth 100000 in
theorem laws_heldBlockS.ok : ∀ k : Nat, (∀ (x0 : List S48) (x1 : Int) (x5 : Int), goF Tryz.f43 laws_heldBlockS.ctx laws_heldBlockS.sp 0 laws_heldBlockS.en k (td Tryz.f43 2) (laws_heldBlockS.s2 x0 x1 x5) = (laws_heldBlockS.c2 k x0 x1 x5).map laws_heldBlockS.e)
  | 0 => fun _ _ _ => rfl
  | k + 1 => by
    have ih := laws_heldBlockS.ok k
    have i2 := ih
    intro x0 x1 x5; rw [laws_heldBlockS.c2]; exact (laws_heldBlockS.t2 _ k x0 x1 x5).trans (cd (cd (cd (nb rfl (cd (cd (nd rfl (cd (cd (bn (fun t1 => (cd rfl (i2 _ _ _)))) rfl) rfl)) rfl) rfl)) rfl) rfl) rfl)
set_option maxRecDepth 100000 in
theorem laws_heldBlockS.oke (k : Nat) (a0 : List S48) (a1 : Int) : goF Tryz.f43 laws_heldBlockS.ctx laws_heldBlockS.sp 0 laws_heldBlockS.en (k + 1) [.code (body Tryz.f43)] (startSt [.row 0 .t48 a0, .sc (.int .i64 a1)] []) = (laws_heldBlockS.f k a0 a1).map laws_heldBlockS.e := by
  have i2 := laws_heldBlockS.ok k
  rw [laws_heldBlockS.f]; exact (laws_heldBlockS.te _ k a0 a1).trans (i2 _ _ _)
theorem laws_heldBlockS.con (k : Nat) (a0 : List S48) (a1 : Int) (r) (h : laws_heldBlockS.f k a0 a1 = some r) : Contract Tryz.prog kit 43 [.row 0 .t48 a0, .sc (.int .i64 a1)] [] (laws_heldBlockS.e r).1 (laws_heldBlockS.e r).2.1 (laws_heldBlockS.e r).2.2 :=
  con_okG kitOk mix (fun k => (CtxOk.cons (laws_heldLeafS.xok k) CtxOk.nil)) (laws_heldBlockS.oke k a0 a1) h (by kernel_rfl) (by kernel_rfl) (by kernel_rfl) rfl (by kernel_rfl) rfl rfl
noncomputable def laws_heldBlockS.x (k : Nat) : X := fun ins bs κ => match ins, bs with
  | [.row 0 .t48 a0, .sc (.int .i64 a1)], [] => (laws_heldBlockS.f k a0 a1).bind fun r => κ (laws_heldBlockS.e r).1 (laws_heldBlockS.e r).2.1 (laws_heldBlockS.e r).2.2
  | _, _ => none
theorem laws_heldBlockS.xok (k : Nat) : XOk 43 (laws_heldBlockS.x k) := by
  intro ins bs κ res h
  unfold laws_heldBlockS.x at h
  split at h
  · obtain ⟨r, hr, h⟩ := Option.bind_eq_some_iff.1 h
    exact ⟨_, _, _, laws_heldBlockS.con k _ _ r hr, h⟩
  · cases h

/-! ### laws_heldFlash: function 17 -/
noncomputable def laws_heldFlash.sp : Nat → Option (Spec Ty) := fun r => none
noncomputable def laws_heldFlash.en : Option (Spec Ty) := none
noncomputable def laws_heldFlash.ctx (k : Nat) : Ctx Ty D := (cons 43 (laws_heldBlockS.x k) (fun _ _ _ _ => none))
noncomputable def laws_heldFlash.f (k : Nat) (a0_0 : List S48) (a1 : Int) : Option (Int) := ((laws_heldBlockS.f k a0_0 a1).bind fun t1 => (if t1 < 0 then (some ((-1))) else (some (t1))))
noncomputable def laws_heldFlash.e (r : Int) : Res Ty D := (.sc (.int .i64 r), [], [])
noncomputable abbrev laws_heldFlash.g (rec : List Item → St Ty D → R) (k : Nat) := go1 Tryz.f17 (laws_heldFlash.ctx k) laws_heldFlash.sp 0 laws_heldFlash.en rec
set_option maxRecDepth 100000 in
theorem laws_heldFlash.te (rec : List Item → St Ty D → R) (k : Nat) (a0_0 : List S48) (a1 : Int) : laws_heldFlash.g rec k [.code (body Tryz.f17)] (startSt [.ag [.row 0 .t48 a0_0], .sc (.int .i64 a1)] []) =
  (laws_heldBlockS.f k a0_0 a1).bind fun t1 => bif decide (t1 < 0) then some (laws_heldFlash.e ((-1))) else some (laws_heldFlash.e (t1)) := by kernel_rfl
set_option maxRecDepth 100000 in
theorem laws_heldFlash.oke (k : Nat) (a0_0 : List S48) (a1 : Int) : goF Tryz.f17 laws_heldFlash.ctx laws_heldFlash.sp 0 laws_heldFlash.en (k + 1) [.code (body Tryz.f17)] (startSt [.ag [.row 0 .t48 a0_0], .sc (.int .i64 a1)] []) = (laws_heldFlash.f k a0_0 a1).map laws_heldFlash.e := by
  rw [laws_heldFlash.f]; exact (laws_heldFlash.te _ k a0_0 a1).trans (bn (fun t1 => (cd rfl rfl)))
theorem laws_heldFlash.con (k : Nat) (a0_0 : List S48) (a1 : Int) (r) (h : laws_heldFlash.f k a0_0 a1 = some r) : Contract Tryz.prog kit 17 [.ag [.row 0 .t48 a0_0], .sc (.int .i64 a1)] [] (laws_heldFlash.e r).1 (laws_heldFlash.e r).2.1 (laws_heldFlash.e r).2.2 :=
  con_okG kitOk mix (fun k => (CtxOk.cons (laws_heldBlockS.xok k) CtxOk.nil)) (laws_heldFlash.oke k a0_0 a1) h (by kernel_rfl) (by kernel_rfl) (by kernel_rfl) rfl (by kernel_rfl) rfl rfl
noncomputable def laws_heldFlash.x (k : Nat) : X := fun ins bs κ => match ins, bs with
  | [.ag [.row 0 .t48 a0_0], .sc (.int .i64 a1)], [] => (laws_heldFlash.f k a0_0 a1).bind fun r => κ (laws_heldFlash.e r).1 (laws_heldFlash.e r).2.1 (laws_heldFlash.e r).2.2
  | _, _ => none
theorem laws_heldFlash.xok (k : Nat) : XOk 17 (laws_heldFlash.x k) := by
  intro ins bs κ res h
  unfold laws_heldFlash.x at h
  split at h
  · obtain ⟨r, hr, h⟩ := Option.bind_eq_some_iff.1 h
    exact ⟨_, _, _, laws_heldFlash.con k _ _ r hr, h⟩
  · cases h

/-! ### laws_heldVolS: function 44 -/
noncomputable def laws_heldVolS.sp : Nat → Option (Spec Ty) := fun r => bif Nat.beq r 2 then some ⟨[(0, .keep), (1, .keep), (5, .keep)], []⟩ else none
noncomputable def laws_heldVolS.en : Option (Spec Ty) := none
noncomputable def laws_heldVolS.s2 (x0 : List S96) (x1 : Int) (x5 : Int) : St Ty D := ⟨(Env.put (Env.put (Env.put E (some 0) (.row 0 .t96 x0)) (some 1) (.sc (.int .i64 x1))) (some 5) (.sc (.int .i64 x5))), H0, 1000⟩
noncomputable def laws_heldVolS.ctx (k : Nat) : Ctx Ty D := (fun _ _ _ _ => none)
noncomputable def laws_heldVolS.c2 : Nat → (List S96) → Int → Int → Option (Int)
  | 0, _, _, _ => none
  | k + 1, x0, x1, x5 => (if x5 < (x0.length : Int) then (if 0 ≤ x5 then (if x5 < (x0.length : Int) then (if ((rd_T96 x0 x5).f0) = x1 then (if 0 ≤ x5 then (if x5 < (x0.length : Int) then (if ((rd_T96 x0 x5).f1) = (w64 (x1 + 1)) then (laws_heldVolS.c2 k x0 (w64 ((w64 (x1 + 1)) + 1)) (w64 (x5 + 1))) else (some ((-1)))) else none) else none) else (some ((-1)))) else none) else none) else (some (x1)))
noncomputable def laws_heldVolS.f (k : Nat) (a0 : List S96) (a1 : Int) : Option (Int) := (laws_heldVolS.c2 k a0 a1 0)
noncomputable def laws_heldVolS.e (r : Int) : Res Ty D := (.sc (.int .i64 r), [], [])
noncomputable abbrev laws_heldVolS.g (rec : List Item → St Ty D → R) (k : Nat) := go1 Tryz.f44 (laws_heldVolS.ctx k) laws_heldVolS.sp 0 laws_heldVolS.en rec
set_option maxRecDepth 100000 in
theorem laws_heldVolS.t2 (rec : List Item → St Ty D → R) (k : Nat) (x0 : List S96) (x1 : Int) (x5 : Int) : laws_heldVolS.g rec k (td Tryz.f44 2) (laws_heldVolS.s2 x0 x1 x5) =
  bif decide (x5 < (x0.length : Int)) then bif decide (0 ≤ x5) then bif decide (x5 < (x0.length : Int)) then bif !decide (((rd_T96 x0 x5).f0) = x1) then some (laws_heldVolS.e ((-1))) else bif decide (0 ≤ x5) then bif decide (x5 < (x0.length : Int)) then bif !decide (((rd_T96 x0 x5).f1) = (w64 (x1 + 1))) then some (laws_heldVolS.e ((-1))) else rec (td Tryz.f44 2) (laws_heldVolS.s2 x0 (w64 ((w64 (x1 + 1)) + 1)) (w64 (x5 + 1))) else none else none else none else none else some (laws_heldVolS.e (x1)) := by kernel_rfl
set_option maxRecDepth 100000 in
theorem laws_heldVolS.te (rec : List Item → St Ty D → R) (k : Nat) (a0 : List S96) (a1 : Int) : laws_heldVolS.g rec k [.code (body Tryz.f44)] (startSt [.row 0 .t96 a0, .sc (.int .i64 a1)] []) =
  rec (td Tryz.f44 2) (laws_heldVolS.s2 a0 a1 0) := by kernel_rfl
set_option maxRecDepth 100000 in
theorem laws_heldVolS.ok : ∀ k : Nat, (∀ (x0 : List S96) (x1 : Int) (x5 : Int), goF Tryz.f44 laws_heldVolS.ctx laws_heldVolS.sp 0 laws_heldVolS.en k (td Tryz.f44 2) (laws_heldVolS.s2 x0 x1 x5) = (laws_heldVolS.c2 k x0 x1 x5).map laws_heldVolS.e)
  | 0 => fun _ _ _ => rfl
  | k + 1 => by
    have ih := laws_heldVolS.ok k
    have i2 := ih
    intro x0 x1 x5; rw [laws_heldVolS.c2]; exact (laws_heldVolS.t2 _ k x0 x1 x5).trans (cd (cd (cd (nd rfl (cd (cd (nd rfl (i2 _ _ _)) rfl) rfl)) rfl) rfl) rfl)
set_option maxRecDepth 100000 in
theorem laws_heldVolS.oke (k : Nat) (a0 : List S96) (a1 : Int) : goF Tryz.f44 laws_heldVolS.ctx laws_heldVolS.sp 0 laws_heldVolS.en (k + 1) [.code (body Tryz.f44)] (startSt [.row 0 .t96 a0, .sc (.int .i64 a1)] []) = (laws_heldVolS.f k a0 a1).map laws_heldVolS.e := by
  have i2 := laws_heldVolS.ok k
  rw [laws_heldVolS.f]; exact (laws_heldVolS.te _ k a0 a1).trans (i2 _ _ _)
theorem laws_heldVolS.con (k : Nat) (a0 : List S96) (a1 : Int) (r) (h : laws_heldVolS.f k a0 a1 = some r) : Contract Tryz.prog kit 44 [.row 0 .t96 a0, .sc (.int .i64 a1)] [] (laws_heldVolS.e r).1 (laws_heldVolS.e r).2.1 (laws_heldVolS.e r).2.2 :=
  con_okG kitOk mix (fun k => CtxOk.nil) (laws_heldVolS.oke k a0 a1) h (by kernel_rfl) (by kernel_rfl) (by kernel_rfl) rfl (by kernel_rfl) rfl rfl
noncomputable def laws_heldVolS.x (k : Nat) : X := fun ins bs κ => match ins, bs with
  | [.row 0 .t96 a0, .sc (.int .i64 a1)], [] => (laws_heldVolS.f k a0 a1).bind fun r => κ (laws_heldVolS.e r).1 (laws_heldVolS.e r).2.1 (laws_heldVolS.e r).2.2
  | _, _ => none
theorem laws_heldVolS.xok (k : Nat) : XOk 44 (laws_heldVolS.x k) := by
  intro ins bs κ res h
  unfold laws_heldVolS.x at h
  split at h
  · obtain ⟨r, hr, h⟩ := Option.bind_eq_some_iff.1 h
    exact ⟨_, _, _, laws_heldVolS.con k _ _ r hr, h⟩
  · cases h

/-! ### laws_heldIntS: function 99 -/
noncomputable def laws_heldIntS.sp : Nat → Option (Spec Ty) := fun r => bif Nat.beq r 2 then some ⟨[(0, .keep), (1, .keep), (5, .keep)], []⟩ else none
noncomputable def laws_heldIntS.en : Option (Spec Ty) := none
noncomputable def laws_heldIntS.s2 (x0 : List Int) (x1 : Int) (x5 : Int) : St Ty D := ⟨(Env.put (Env.put (Env.put E (some 0) (.row 0 .t3 x0)) (some 1) (.sc (.int .i64 x1))) (some 5) (.sc (.int .i64 x5))), H0, 1000⟩
noncomputable def laws_heldIntS.ctx (k : Nat) : Ctx Ty D := (fun _ _ _ _ => none)
noncomputable def laws_heldIntS.c2 : Nat → (List Int) → Int → Int → Option (Int)
  | 0, _, _, _ => none
  | k + 1, x0, x1, x5 => (if x5 < (x0.length : Int) then (if 0 ≤ x5 then (if x5 < (x0.length : Int) then (if (rd_T3 x0 x5) = x1 then (laws_heldIntS.c2 k x0 (w64 (x1 + 1)) (w64 (x5 + 1))) else (some ((-1)))) else none) else none) else (some (x1)))
noncomputable def laws_heldIntS.f (k : Nat) (a0 : List Int) (a1 : Int) : Option (Int) := (laws_heldIntS.c2 k a0 a1 0)
noncomputable def laws_heldIntS.e (r : Int) : Res Ty D := (.sc (.int .i64 r), [], [])
noncomputable abbrev laws_heldIntS.g (rec : List Item → St Ty D → R) (k : Nat) := go1 Tryz.f99 (laws_heldIntS.ctx k) laws_heldIntS.sp 0 laws_heldIntS.en rec
set_option maxRecDepth 100000 in
theorem laws_heldIntS.t2 (rec : List Item → St Ty D → R) (k : Nat) (x0 : List Int) (x1 : Int) (x5 : Int) : laws_heldIntS.g rec k (td Tryz.f99 2) (laws_heldIntS.s2 x0 x1 x5) =
  bif decide (x5 < (x0.length : Int)) then bif decide (0 ≤ x5) then bif decide (x5 < (x0.length : Int)) then bif !decide ((rd_T3 x0 x5) = x1) then some (laws_heldIntS.e ((-1))) else rec (td Tryz.f99 2) (laws_heldIntS.s2 x0 (w64 (x1 + 1)) (w64 (x5 + 1))) else none else none else some (laws_heldIntS.e (x1)) := by kernel_rfl
set_option maxRecDepth 100000 in
theorem laws_heldIntS.te (rec : List Item → St Ty D → R) (k : Nat) (a0 : List Int) (a1 : Int) : laws_heldIntS.g rec k [.code (body Tryz.f99)] (startSt [.row 0 .t3 a0, .sc (.int .i64 a1)] []) =
  rec (td Tryz.f99 2) (laws_heldIntS.s2 a0 a1 0) := by kernel_rfl
set_option maxRecDepth 100000 in
theorem laws_heldIntS.ok : ∀ k : Nat, (∀ (x0 : List Int) (x1 : Int) (x5 : Int), goF Tryz.f99 laws_heldIntS.ctx laws_heldIntS.sp 0 laws_heldIntS.en k (td Tryz.f99 2) (laws_heldIntS.s2 x0 x1 x5) = (laws_heldIntS.c2 k x0 x1 x5).map laws_heldIntS.e)
  | 0 => fun _ _ _ => rfl
  | k + 1 => by
    have ih := laws_heldIntS.ok k
    have i2 := ih
    intro x0 x1 x5; rw [laws_heldIntS.c2]; exact (laws_heldIntS.t2 _ k x0 x1 x5).trans (cd (cd (cd (nd rfl (i2 _ _ _)) rfl) rfl) rfl)
set_option maxRecDepth 100000 in
theorem laws_heldIntS.oke (k : Nat) (a0 : List Int) (a1 : Int) : goF Tryz.f99 laws_heldIntS.ctx laws_heldIntS.sp 0 laws_heldIntS.en (k + 1) [.code (body Tryz.f99)] (startSt [.row 0 .t3 a0, .sc (.int .i64 a1)] []) = (laws_heldIntS.f k a0 a1).map laws_heldIntS.e := by
  have i2 := laws_heldIntS.ok k
  rw [laws_heldIntS.f]; exact (laws_heldIntS.te _ k a0 a1).trans (i2 _ _ _)
theorem laws_heldIntS.con (k : Nat) (a0 : List Int) (a1 : Int) (r) (h : laws_heldIntS.f k a0 a1 = some r) : Contract Tryz.prog kit 99 [.row 0 .t3 a0, .sc (.int .i64 a1)] [] (laws_heldIntS.e r).1 (laws_heldIntS.e r).2.1 (laws_heldIntS.e r).2.2 :=
  con_okG kitOk mix (fun k => CtxOk.nil) (laws_heldIntS.oke k a0 a1) h (by kernel_rfl) (by kernel_rfl) (by kernel_rfl) rfl (by kernel_rfl) rfl rfl
noncomputable def laws_heldIntS.x (k : Nat) : X := fun ins bs κ => match ins, bs with
  | [.row 0 .t3 a0, .sc (.int .i64 a1)], [] => (laws_heldIntS.f k a0 a1).bind fun r => κ (laws_heldIntS.e r).1 (laws_heldIntS.e r).2.1 (laws_heldIntS.e r).2.2
  | _, _ => none
theorem laws_heldIntS.xok (k : Nat) : XOk 99 (laws_heldIntS.x k) := by
  intro ins bs κ res h
  unfold laws_heldIntS.x at h
  split at h
  · obtain ⟨r, hr, h⟩ := Option.bind_eq_some_iff.1 h
    exact ⟨_, _, _, laws_heldIntS.con k _ _ r hr, h⟩
  · cases h

/-! ### laws_heldKnotS: function 68 -/
noncomputable def laws_heldKnotS.sp : Nat → Option (Spec Ty) := fun r => bif Nat.beq r 2 then some ⟨[(0, .keep), (1, .keep), (5, .keep)], []⟩ else none
noncomputable def laws_heldKnotS.en : Option (Spec Ty) := none
noncomputable def laws_heldKnotS.s2 (x0 : List S132) (x1 : Int) (x5 : Int) : St Ty D := ⟨(Env.put (Env.put (Env.put E (some 0) (.row 0 .t132 x0)) (some 1) (.sc (.int .i64 x1))) (some 5) (.sc (.int .i64 x5))), H0, 1000⟩
noncomputable def laws_heldKnotS.ctx (k : Nat) : Ctx Ty D := (cons 99 (laws_heldIntS.x k) (fun _ _ _ _ => none))
noncomputable def laws_heldKnotS.c2 : Nat → (List S132) → Int → Int → Option (Int)
  | 0, _, _, _ => none
  | k + 1, x0, x1, x5 => (if x5 < (x0.length : Int) then (if 0 ≤ x5 then (if x5 < (x0.length : Int) then (if (((rd_T132 x0 x5).f0) == (decide ((Int.tmod x1 3) = 0))) = true then (if 0 ≤ x5 then (if x5 < (x0.length : Int) then ((laws_heldIntS.f k ((rd_T132 x0 x5).f1) (w64 (x1 + 1))).bind fun t1 => (if t1 < 0 then (some ((-1))) else (laws_heldKnotS.c2 k x0 t1 (w64 (x5 + 1))))) else none) else none) else (some ((-1)))) else none) else none) else (some (x1)))
noncomputable def laws_heldKnotS.f (k : Nat) (a0 : List S132) (a1 : Int) : Option (Int) := (laws_heldKnotS.c2 k a0 a1 0)
noncomputable def laws_heldKnotS.e (r : Int) : Res Ty D := (.sc (.int .i64 r), [], [])
noncomputable abbrev laws_heldKnotS.g (rec : List Item → St Ty D → R) (k : Nat) := go1 Tryz.f68 (laws_heldKnotS.ctx k) laws_heldKnotS.sp 0 laws_heldKnotS.en rec
set_option maxRecDepth 100000 in
theorem laws_heldKnotS.t2 (rec : List Item → St Ty D → R) (k : Nat) (x0 : List S132) (x1 : Int) (x5 : Int) : laws_heldKnotS.g rec k (td Tryz.f68 2) (laws_heldKnotS.s2 x0 x1 x5) =
  bif decide (x5 < (x0.length : Int)) then bif decide (0 ≤ x5) then bif decide (x5 < (x0.length : Int)) then bif !(((rd_T132 x0 x5).f0) == (decide ((Int.tmod x1 3) = 0))) then some (laws_heldKnotS.e ((-1))) else bif decide (0 ≤ x5) then bif decide (x5 < (x0.length : Int)) then (laws_heldIntS.f k ((rd_T132 x0 x5).f1) (w64 (x1 + 1))).bind fun t1 => bif decide (t1 < 0) then some (laws_heldKnotS.e ((-1))) else rec (td Tryz.f68 2) (laws_heldKnotS.s2 x0 t1 (w64 (x5 + 1))) else none else none else none else none else some (laws_heldKnotS.e (x1)) := by kernel_rfl
set_option maxRecDepth 100000 in
theorem laws_heldKnotS.te (rec : List Item → St Ty D → R) (k : Nat) (a0 : List S132) (a1 : Int) : laws_heldKnotS.g rec k [.code (body Tryz.f68)] (startSt [.row 0 .t132 a0, .sc (.int .i64 a1)] []) =
  rec (td Tryz.f68 2) (laws_heldKnotS.s2 a0 a1 0) := by kernel_rfl
set_option maxRecDepth 100000 in
theorem laws_heldKnotS.ok : ∀ k : Nat, (∀ (x0 : List S132) (x1 : Int) (x5 : Int), goF Tryz.f68 laws_heldKnotS.ctx laws_heldKnotS.sp 0 laws_heldKnotS.en k (td Tryz.f68 2) (laws_heldKnotS.s2 x0 x1 x5) = (laws_heldKnotS.c2 k x0 x1 x5).map laws_heldKnotS.e)
  | 0 => fun _ _ _ => rfl
  | k + 1 => by
    have ih := laws_heldKnotS.ok k
    have i2 := ih
    intro x0 x1 x5; rw [laws_heldKnotS.c2]; exact (laws_heldKnotS.t2 _ k x0 x1 x5).trans (cd (cd (cd (nb rfl (cd (cd (bn (fun t1 => (cd rfl (i2 _ _ _)))) rfl) rfl)) rfl) rfl) rfl)
set_option maxRecDepth 100000 in
theorem laws_heldKnotS.oke (k : Nat) (a0 : List S132) (a1 : Int) : goF Tryz.f68 laws_heldKnotS.ctx laws_heldKnotS.sp 0 laws_heldKnotS.en (k + 1) [.code (body Tryz.f68)] (startSt [.row 0 .t132 a0, .sc (.int .i64 a1)] []) = (laws_heldKnotS.f k a0 a1).map laws_heldKnotS.e := by
  have i2 := laws_heldKnotS.ok k
  rw [laws_heldKnotS.f]; exact (laws_heldKnotS.te _ k a0 a1).trans (i2 _ _ _)
theorem laws_heldKnotS.con (k : Nat) (a0 : List S132) (a1 : Int) (r) (h : laws_heldKnotS.f k a0 a1 = some r) : Contract Tryz.prog kit 68 [.row 0 .t132 a0, .sc (.int .i64 a1)] [] (laws_heldKnotS.e r).1 (laws_heldKnotS.e r).2.1 (laws_heldKnotS.e r).2.2 :=
  con_okG kitOk mix (fun k => (CtxOk.cons (laws_heldIntS.xok k) CtxOk.nil)) (laws_heldKnotS.oke k a0 a1) h (by kernel_rfl) (by kernel_rfl) (by kernel_rfl) rfl (by kernel_rfl) rfl rfl
noncomputable def laws_heldKnotS.x (k : Nat) : X := fun ins bs κ => match ins, bs with
  | [.row 0 .t132 a0, .sc (.int .i64 a1)], [] => (laws_heldKnotS.f k a0 a1).bind fun r => κ (laws_heldKnotS.e r).1 (laws_heldKnotS.e r).2.1 (laws_heldKnotS.e r).2.2
  | _, _ => none
theorem laws_heldKnotS.xok (k : Nat) : XOk 68 (laws_heldKnotS.x k) := by
  intro ins bs κ res h
  unfold laws_heldKnotS.x at h
  split at h
  · obtain ⟨r, hr, h⟩ := Option.bind_eq_some_iff.1 h
    exact ⟨_, _, _, laws_heldKnotS.con k _ _ r hr, h⟩
  · cases h

/-! ### laws_heldArena: function 45 -/
noncomputable def laws_heldArena.sp : Nat → Option (Spec Ty) := fun r => none
noncomputable def laws_heldArena.en : Option (Spec Ty) := none
noncomputable def laws_heldArena.ctx (k : Nat) : Ctx Ty D := (cons 68 (laws_heldKnotS.x k) (fun _ _ _ _ => none))
noncomputable def laws_heldArena.f (k : Nat) (a0_0 : List S132) (a1 : Int) : Option (Int) := ((laws_heldKnotS.f k a0_0 a1).bind fun t1 => (if t1 < 0 then (some ((-1))) else (some (t1))))
noncomputable def laws_heldArena.e (r : Int) : Res Ty D := (.sc (.int .i64 r), [], [])
noncomputable abbrev laws_heldArena.g (rec : List Item → St Ty D → R) (k : Nat) := go1 Tryz.f45 (laws_heldArena.ctx k) laws_heldArena.sp 0 laws_heldArena.en rec
set_option maxRecDepth 100000 in
theorem laws_heldArena.te (rec : List Item → St Ty D → R) (k : Nat) (a0_0 : List S132) (a1 : Int) : laws_heldArena.g rec k [.code (body Tryz.f45)] (startSt [.ag [.row 0 .t132 a0_0], .sc (.int .i64 a1)] []) =
  (laws_heldKnotS.f k a0_0 a1).bind fun t1 => bif decide (t1 < 0) then some (laws_heldArena.e ((-1))) else some (laws_heldArena.e (t1)) := by kernel_rfl
set_option maxRecDepth 100000 in
theorem laws_heldArena.oke (k : Nat) (a0_0 : List S132) (a1 : Int) : goF Tryz.f45 laws_heldArena.ctx laws_heldArena.sp 0 laws_heldArena.en (k + 1) [.code (body Tryz.f45)] (startSt [.ag [.row 0 .t132 a0_0], .sc (.int .i64 a1)] []) = (laws_heldArena.f k a0_0 a1).map laws_heldArena.e := by
  rw [laws_heldArena.f]; exact (laws_heldArena.te _ k a0_0 a1).trans (bn (fun t1 => (cd rfl rfl)))
theorem laws_heldArena.con (k : Nat) (a0_0 : List S132) (a1 : Int) (r) (h : laws_heldArena.f k a0_0 a1 = some r) : Contract Tryz.prog kit 45 [.ag [.row 0 .t132 a0_0], .sc (.int .i64 a1)] [] (laws_heldArena.e r).1 (laws_heldArena.e r).2.1 (laws_heldArena.e r).2.2 :=
  con_okG kitOk mix (fun k => (CtxOk.cons (laws_heldKnotS.xok k) CtxOk.nil)) (laws_heldArena.oke k a0_0 a1) h (by kernel_rfl) (by kernel_rfl) (by kernel_rfl) rfl (by kernel_rfl) rfl rfl
noncomputable def laws_heldArena.x (k : Nat) : X := fun ins bs κ => match ins, bs with
  | [.ag [.row 0 .t132 a0_0], .sc (.int .i64 a1)], [] => (laws_heldArena.f k a0_0 a1).bind fun r => κ (laws_heldArena.e r).1 (laws_heldArena.e r).2.1 (laws_heldArena.e r).2.2
  | _, _ => none
theorem laws_heldArena.xok (k : Nat) : XOk 45 (laws_heldArena.x k) := by
  intro ins bs κ res h
  unfold laws_heldArena.x at h
  split at h
  · obtain ⟨r, hr, h⟩ := Option.bind_eq_some_iff.1 h
    exact ⟨_, _, _, laws_heldArena.con k _ _ r hr, h⟩
  · cases h

/-! ### laws_heldStore: function 18 -/
noncomputable def laws_heldStore.sp : Nat → Option (Spec Ty) := fun r => none
noncomputable def laws_heldStore.en : Option (Spec Ty) := none
noncomputable def laws_heldStore.ctx (k : Nat) : Ctx Ty D := (cons 44 (laws_heldVolS.x k) (cons 45 (laws_heldArena.x k) (fun _ _ _ _ => none)))
noncomputable def laws_heldStore.f (k : Nat) (a0_0 : List S96) (a0_1 : List S132) (a0_2 : Int) (a1 : Int) : Option (Int) := ((laws_heldVolS.f k a0_0 a1).bind fun t1 => (if t1 < 0 then (some ((-1))) else ((laws_heldArena.f k a0_1 t1).bind fun t2 => (if t2 < 0 then (some ((-1))) else (some (t2))))))
noncomputable def laws_heldStore.e (r : Int) : Res Ty D := (.sc (.int .i64 r), [], [])
noncomputable abbrev laws_heldStore.g (rec : List Item → St Ty D → R) (k : Nat) := go1 Tryz.f18 (laws_heldStore.ctx k) laws_heldStore.sp 0 laws_heldStore.en rec
set_option maxRecDepth 100000 in
theorem laws_heldStore.te (rec : List Item → St Ty D → R) (k : Nat) (a0_0 : List S96) (a0_1 : List S132) (a0_2 : Int) (a1 : Int) : laws_heldStore.g rec k [.code (body Tryz.f18)] (startSt [.ag [.row 0 .t96 a0_0, .row 0 .t132 a0_1, .sc (.int .i64 a0_2)], .sc (.int .i64 a1)] []) =
  (laws_heldVolS.f k a0_0 a1).bind fun t1 => bif decide (t1 < 0) then some (laws_heldStore.e ((-1))) else (laws_heldArena.f k a0_1 t1).bind fun t2 => bif decide (t2 < 0) then some (laws_heldStore.e ((-1))) else some (laws_heldStore.e (t2)) := by kernel_rfl
set_option maxRecDepth 100000 in
theorem laws_heldStore.oke (k : Nat) (a0_0 : List S96) (a0_1 : List S132) (a0_2 : Int) (a1 : Int) : goF Tryz.f18 laws_heldStore.ctx laws_heldStore.sp 0 laws_heldStore.en (k + 1) [.code (body Tryz.f18)] (startSt [.ag [.row 0 .t96 a0_0, .row 0 .t132 a0_1, .sc (.int .i64 a0_2)], .sc (.int .i64 a1)] []) = (laws_heldStore.f k a0_0 a0_1 a0_2 a1).map laws_heldStore.e := by
  rw [laws_heldStore.f]; exact (laws_heldStore.te _ k a0_0 a0_1 a0_2 a1).trans (bn (fun t1 => (cd rfl (bn (fun t2 => (cd rfl rfl))))))
theorem laws_heldStore.con (k : Nat) (a0_0 : List S96) (a0_1 : List S132) (a0_2 : Int) (a1 : Int) (r) (h : laws_heldStore.f k a0_0 a0_1 a0_2 a1 = some r) : Contract Tryz.prog kit 18 [.ag [.row 0 .t96 a0_0, .row 0 .t132 a0_1, .sc (.int .i64 a0_2)], .sc (.int .i64 a1)] [] (laws_heldStore.e r).1 (laws_heldStore.e r).2.1 (laws_heldStore.e r).2.2 :=
  con_okG kitOk mix (fun k => (CtxOk.cons (laws_heldVolS.xok k) (CtxOk.cons (laws_heldArena.xok k) CtxOk.nil))) (laws_heldStore.oke k a0_0 a0_1 a0_2 a1) h (by kernel_rfl) (by kernel_rfl) (by kernel_rfl) rfl (by kernel_rfl) rfl rfl
noncomputable def laws_heldStore.x (k : Nat) : X := fun ins bs κ => match ins, bs with
  | [.ag [.row 0 .t96 a0_0, .row 0 .t132 a0_1, .sc (.int .i64 a0_2)], .sc (.int .i64 a1)], [] => (laws_heldStore.f k a0_0 a0_1 a0_2 a1).bind fun r => κ (laws_heldStore.e r).1 (laws_heldStore.e r).2.1 (laws_heldStore.e r).2.2
  | _, _ => none
theorem laws_heldStore.xok (k : Nat) : XOk 18 (laws_heldStore.x k) := by
  intro ins bs κ res h
  unfold laws_heldStore.x at h
  split at h
  · obtain ⟨r, hr, h⟩ := Option.bind_eq_some_iff.1 h
    exact ⟨_, _, _, laws_heldStore.con k _ _ _ _ r hr, h⟩
  · cases h
end Go.Proofs.YtmboeckendhdnaaGreat.M2

/- Plain runs of functions: each is a plain Lean function, and keeps its contract. Written by a program of this session. -/
namespace Go.Proofs.YtmboeckendhdnaaGreat.M2
open Go Go.Proofs.YtmboeckendhdnaaGreat.PK
set_option linter.unusedVariables false
set_option linter.unusedSimpArgs false
set_option maxHeartbeats 4000000
/-! ### laws_heldDevice: function 8 -/
noncomputable def laws_heldDevice.sp : Nat → Option (Spec Ty) := fun r => none
noncomputable def laws_heldDevice.en : Option (Spec Ty) := none
noncomputable def laws_heldDevice.ctx (k : Nat) : Ctx Ty D := (cons 17 (laws_heldFlash.x k) (cons 18 (laws_heldStore.x k) (fun _ _ _ _ => none)))
noncomputable def laws_heldDevice.f (k : Nat) (a0_0 : List S48) (a0_1 : List S96) (a0_2 : List S132) (a0_3 : Int) (a0_4 : Int) (a0_5 : Int) (a0_6 : Int) (a1 : Int) : Option (Int) := ((laws_heldFlash.f k a0_0 a1).bind fun t1 => (if t1 < 0 then (some ((-1))) else ((laws_heldStore.f k a0_1 a0_2 a0_3 t1).bind fun t2 => (if t2 < 0 then (some ((-1))) else (some (t2))))))
noncomputable def laws_heldDevice.e (r : Int) : Res Ty D := (.sc (.int .i64 r), [], [])
noncomputable abbrev laws_heldDevice.g (rec : List Item → St Ty D → R) (k : Nat) := go1 Tryz.f8 (laws_heldDevice.ctx k) laws_heldDevice.sp 0 laws_heldDevice.en rec
set_option maxRecDepth 100000 in
theorem laws_heldDevice.te (rec : List Item → St Ty D → R) (k : Nat) (a0_0 : List S48) (a0_1 : List S96) (a0_2 : List S132) (a0_3 : Int) (a0_4 : Int) (a0_5 : Int) (a0_6 : Int) (a1 : Int) : laws_heldDevice.g rec k [.code (body Tryz.f8)] (startSt [.ag [.row 0 .t48 a0_0, .row 0 .t96 a0_1, .row 0 .t132 a0_2, .sc (.int .i64 a0_3), .sc (.int .i64 a0_4), .sc (.int .i64 a0_5), .sc (.int .i64 a0_6)], .sc (.int .i64 a1)] []) =
  (laws_heldFlash.f k a0_0 a1).bind fun t1 => bif decide (t1 < 0) then some (laws_heldDevice.e ((-1))) else (laws_heldStore.f k a0_1 a0_2 a0_3 t1).bind fun t2 => bif decide (t2 < 0) then some (laws_heldDevice.e ((-1))) else some (laws_heldDevice.e (t2)) := by kernel_rfl
set_option maxRecDepth 100000 in
theorem laws_heldDevice.oke (k : Nat) (a0_0 : List S48) (a0_1 : List S96) (a0_2 : List S132) (a0_3 : Int) (a0_4 : Int) (a0_5 : Int) (a0_6 : Int) (a1 : Int) : goF Tryz.f8 laws_heldDevice.ctx laws_heldDevice.sp 0 laws_heldDevice.en (k + 1) [.code (body Tryz.f8)] (startSt [.ag [.row 0 .t48 a0_0, .row 0 .t96 a0_1, .row 0 .t132 a0_2, .sc (.int .i64 a0_3), .sc (.int .i64 a0_4), .sc (.int .i64 a0_5), .sc (.int .i64 a0_6)], .sc (.int .i64 a1)] []) = (laws_heldDevice.f k a0_0 a0_1 a0_2 a0_3 a0_4 a0_5 a0_6 a1).map laws_heldDevice.e := by
  rw [laws_heldDevice.f]; exact (laws_heldDevice.te _ k a0_0 a0_1 a0_2 a0_3 a0_4 a0_5 a0_6 a1).trans (bn (fun t1 => (cd rfl (bn (fun t2 => (cd rfl rfl))))))
theorem laws_heldDevice.con (k : Nat) (a0_0 : List S48) (a0_1 : List S96) (a0_2 : List S132) (a0_3 : Int) (a0_4 : Int) (a0_5 : Int) (a0_6 : Int) (a1 : Int) (r) (h : laws_heldDevice.f k a0_0 a0_1 a0_2 a0_3 a0_4 a0_5 a0_6 a1 = some r) : Contract Tryz.prog kit 8 [.ag [.row 0 .t48 a0_0, .row 0 .t96 a0_1, .row 0 .t132 a0_2, .sc (.int .i64 a0_3), .sc (.int .i64 a0_4), .sc (.int .i64 a0_5), .sc (.int .i64 a0_6)], .sc (.int .i64 a1)] [] (laws_heldDevice.e r).1 (laws_heldDevice.e r).2.1 (laws_heldDevice.e r).2.2 :=
  con_okG kitOk mix (fun k => (CtxOk.cons (laws_heldFlash.xok k) (CtxOk.cons (laws_heldStore.xok k) CtxOk.nil))) (laws_heldDevice.oke k a0_0 a0_1 a0_2 a0_3 a0_4 a0_5 a0_6 a1) h (by kernel_rfl) (by kernel_rfl) (by kernel_rfl) rfl (by kernel_rfl) rfl rfl
noncomputable def laws_heldDevice.x (k : Nat) : X := fun ins bs κ => match ins, bs with
  | [.ag [.row 0 .t48 a0_0, .row 0 .t96 a0_1, .row 0 .t132 a0_2, .sc (.int .i64 a0_3), .sc (.int .i64 a0_4), .sc (.int .i64 a0_5), .sc (.int .i64 a0_6)], .sc (.int .i64 a1)], [] => (laws_heldDevice.f k a0_0 a0_1 a0_2 a0_3 a0_4 a0_5 a0_6 a1).bind fun r => κ (laws_heldDevice.e r).1 (laws_heldDevice.e r).2.1 (laws_heldDevice.e r).2.2
  | _, _ => none
theorem laws_heldDevice.xok (k : Nat) : XOk 8 (laws_heldDevice.x k) := by
  intro ins bs κ res h
  unfold laws_heldDevice.x at h
  split at h
  · obtain ⟨r, hr, h⟩ := Option.bind_eq_some_iff.1 h
    exact ⟨_, _, _, laws_heldDevice.con k _ _ _ _ _ _ _ _ r hr, h⟩
  · cases h

/-! ### laws_FnExactDeviceNew: function 3 -/
noncomputable def laws_FnExactDeviceNew.sp : Nat → Option (Spec Ty) := fun r => none
noncomputable def laws_FnExactDeviceNew.en : Option (Spec Ty) := none
noncomputable def laws_FnExactDeviceNew.ctx (k : Nat) : Ctx Ty D := (cons 4 (spec_DeviceNew.x k) (cons 5 (impl_DeviceNew.x k) (cons 6 (laws_eqDevice.x k) (cons 7 (laws_markDevice.x k) (cons 8 (laws_heldDevice.x k) (fun _ _ _ _ => none))))))
noncomputable def laws_FnExactDeviceNew.f (k : Nat) (a0 : Int) : Option (Bool) := ((spec_DeviceNew.f k a0).bind fun t1 => ((impl_DeviceNew.f k a0).bind fun t2 => ((laws_eqDevice.f k t2.1 t2.2.1 t2.2.2.1 t2.2.2.2.1 t2.2.2.2.2.1 t2.2.2.2.2.2.1 t2.2.2.2.2.2.2.1 t1.1 t1.2.1 t1.2.2.1 t1.2.2.2.1 t1.2.2.2.2.1 t1.2.2.2.2.2.1 t1.2.2.2.2.2.2.1).bind fun t3 => (if t3 = true then (if (t2.2.2.2.2.2.2.2 == t1.2.2.2.2.2.2.2) = true then ((laws_markDevice.f k t2.2.2.2.1 t2.2.2.2.2.1 t2.2.2.2.2.2.1 t2.2.2.2.2.2.2.1 1 t2.1 t2.2.1 t2.2.2.1).bind fun t4 => ((laws_heldDevice.f k t4.2.1 t4.2.2.1 t4.2.2.2 t2.2.2.2.1 t2.2.2.2.2.1 t2.2.2.2.2.2.1 t2.2.2.2.2.2.2.1 1).bind fun t5 => (if t5 < 0 then (some (false)) else (if t5 = t4.1 then ((impl_DeviceNew.f k a0).bind fun t6 => ((laws_eqDevice.f k t6.1 t6.2.1 t6.2.2.1 t6.2.2.2.1 t6.2.2.2.2.1 t6.2.2.2.2.2.1 t6.2.2.2.2.2.2.1 t1.1 t1.2.1 t1.2.2.1 t1.2.2.2.1 t1.2.2.2.2.1 t1.2.2.2.2.2.1 t1.2.2.2.2.2.2.1).bind fun t7 => (if t7 = true then (if (t6.2.2.2.2.2.2.2 == t1.2.2.2.2.2.2.2) = true then ((laws_heldDevice.f k t4.2.1 t4.2.2.1 t4.2.2.2 t2.2.2.2.1 t2.2.2.2.2.1 t2.2.2.2.2.2.1 t2.2.2.2.2.2.2.1 1).bind fun t8 => (if t8 < 0 then (some (false)) else (if t8 = t4.1 then (some (true)) else (some (false))))) else (some (false))) else (some (false))))) else (some (false)))))) else (some (false))) else (some (false))))))
noncomputable def laws_FnExactDeviceNew.e (r : Bool) : Res Ty D := (.sc (.bool r), [], [])
noncomputable abbrev laws_FnExactDeviceNew.g (rec : List Item → St Ty D → R) (k : Nat) := go1 Tryz.f3 (laws_FnExactDeviceNew.ctx k) laws_FnExactDeviceNew.sp 0 laws_FnExactDeviceNew.en rec
set_option maxRecDepth 100000 in
theorem laws_FnExactDeviceNew.te (rec : List Item → St Ty D → R) (k : Nat) (a0 : Int) : laws_FnExactDeviceNew.g rec k [.code (body Tryz.f3)] (startSt [.sc (.int .i64 a0)] []) =
  (spec_DeviceNew.f k a0).bind fun t1 => (impl_DeviceNew.f k a0).bind fun t2 => (laws_eqDevice.f k t2.1 t2.2.1 t2.2.2.1 t2.2.2.2.1 t2.2.2.2.2.1 t2.2.2.2.2.2.1 t2.2.2.2.2.2.2.1 t1.1 t1.2.1 t1.2.2.1 t1.2.2.2.1 t1.2.2.2.2.1 t1.2.2.2.2.2.1 t1.2.2.2.2.2.2.1).bind fun t3 => bif !t3 then some (laws_FnExactDeviceNew.e (false)) else bif !(t2.2.2.2.2.2.2.2 == t1.2.2.2.2.2.2.2) then some (laws_FnExactDeviceNew.e (false)) else (laws_markDevice.f k t2.2.2.2.1 t2.2.2.2.2.1 t2.2.2.2.2.2.1 t2.2.2.2.2.2.2.1 1 t2.1 t2.2.1 t2.2.2.1).bind fun t4 => (laws_heldDevice.f k t4.2.1 t4.2.2.1 t4.2.2.2 t2.2.2.2.1 t2.2.2.2.2.1 t2.2.2.2.2.2.1 t2.2.2.2.2.2.2.1 1).bind fun t5 => bif decide (t5 < 0) then some (laws_FnExactDeviceNew.e (false)) else bif !decide (t5 = t4.1) then some (laws_FnExactDeviceNew.e (false)) else (impl_DeviceNew.f k a0).bind fun t6 => (laws_eqDevice.f k t6.1 t6.2.1 t6.2.2.1 t6.2.2.2.1 t6.2.2.2.2.1 t6.2.2.2.2.2.1 t6.2.2.2.2.2.2.1 t1.1 t1.2.1 t1.2.2.1 t1.2.2.2.1 t1.2.2.2.2.1 t1.2.2.2.2.2.1 t1.2.2.2.2.2.2.1).bind fun t7 => bif !t7 then some (laws_FnExactDeviceNew.e (false)) else bif !(t6.2.2.2.2.2.2.2 == t1.2.2.2.2.2.2.2) then some (laws_FnExactDeviceNew.e (false)) else (laws_heldDevice.f k t4.2.1 t4.2.2.1 t4.2.2.2 t2.2.2.2.1 t2.2.2.2.2.1 t2.2.2.2.2.2.1 t2.2.2.2.2.2.2.1 1).bind fun t8 => bif decide (t8 < 0) then some (laws_FnExactDeviceNew.e (false)) else bif !decide (t8 = t4.1) then some (laws_FnExactDeviceNew.e (false)) else some (laws_FnExactDeviceNew.e (true)) := by kernel_rfl
set_option maxRecDepth 100000 in
theorem laws_FnExactDeviceNew.oke (k : Nat) (a0 : Int) : goF Tryz.f3 laws_FnExactDeviceNew.ctx laws_FnExactDeviceNew.sp 0 laws_FnExactDeviceNew.en (k + 1) [.code (body Tryz.f3)] (startSt [.sc (.int .i64 a0)] []) = (laws_FnExactDeviceNew.f k a0).map laws_FnExactDeviceNew.e := by
  rw [laws_FnExactDeviceNew.f]; exact (laws_FnExactDeviceNew.te _ k a0).trans (bn (fun t1 => (bn (fun t2 => (bn (fun t3 => (nb rfl (nb rfl (bn (fun t4 => (bn (fun t5 => (cd rfl (nd rfl (bn (fun t6 => (bn (fun t7 => (nb rfl (nb rfl (bn (fun t8 => (cd rfl (nd rfl rfl))))))))))))))))))))))))
theorem laws_FnExactDeviceNew.con (k : Nat) (a0 : Int) (r) (h : laws_FnExactDeviceNew.f k a0 = some r) : Contract Tryz.prog kit 3 [.sc (.int .i64 a0)] [] (laws_FnExactDeviceNew.e r).1 (laws_FnExactDeviceNew.e r).2.1 (laws_FnExactDeviceNew.e r).2.2 :=
  con_okG kitOk mix (fun k => (CtxOk.cons (spec_DeviceNew.xok k) (CtxOk.cons (impl_DeviceNew.xok k) (CtxOk.cons (laws_eqDevice.xok k) (CtxOk.cons (laws_markDevice.xok k) (CtxOk.cons (laws_heldDevice.xok k) CtxOk.nil)))))) (laws_FnExactDeviceNew.oke k a0) h (by kernel_rfl) (by kernel_rfl) (by kernel_rfl) rfl (by kernel_rfl) rfl rfl
noncomputable def laws_FnExactDeviceNew.x (k : Nat) : X := fun ins bs κ => match ins, bs with
  | [.sc (.int .i64 a0)], [] => (laws_FnExactDeviceNew.f k a0).bind fun r => κ (laws_FnExactDeviceNew.e r).1 (laws_FnExactDeviceNew.e r).2.1 (laws_FnExactDeviceNew.e r).2.2
  | _, _ => none
theorem laws_FnExactDeviceNew.xok (k : Nat) : XOk 3 (laws_FnExactDeviceNew.x k) := by
  intro ins bs κ res h
  unfold laws_FnExactDeviceNew.x at h
  split at h
  · obtain ⟨r, hr, h⟩ := Option.bind_eq_some_iff.1 h
    exact ⟨_, _, _, laws_FnExactDeviceNew.con k _ r hr, h⟩
  · cases h
end Go.Proofs.YtmboeckendhdnaaGreat.M2



/- The law FnExactDeviceNew: what the functions answer is reckoned at each number of blocks that is let through; at all others no flash is made. -/
namespace Go.Proofs.YtmboeckendhdnaaGreat.M2.Mp
set_option linter.unusedVariables false
open Go Go.Proofs.YtmboeckendhdnaaGreat.PK

theorem evx_out {p : Prop} (h : p) : p := h
set_option maxRecDepth 1000000 in
theorem new3 : laws_FnExactDeviceNew.f 300 3 = some true := by kernel_rfl
set_option maxRecDepth 1000000 in
theorem new4 : laws_FnExactDeviceNew.f 300 4 = some true := by kernel_rfl
set_option maxRecDepth 1000000 in
theorem new5 : laws_FnExactDeviceNew.f 300 5 = some true := by kernel_rfl
set_option maxRecDepth 1000000 in
theorem new6 : laws_FnExactDeviceNew.f 300 6 = some true := by kernel_rfl
set_option maxRecDepth 1000000 in
theorem new7 : laws_FnExactDeviceNew.f 300 7 = some true := by kernel_rfl
set_option maxRecDepth 1000000 in
theorem new8 : laws_FnExactDeviceNew.f 300 8 = some true := by kernel_rfl
set_option maxRecDepth 1000000 in
theorem new9 : laws_FnExactDeviceNew.f 300 9 = some true := by kernel_rfl
set_option maxRecDepth 1000000 in
theorem new10 : laws_FnExactDeviceNew.f 300 10 = some true := by kernel_rfl
theorem sFl {n : Int} (h : ¬ (3 ≤ n ∧ n ≤ 10)) : spec_FlashNew.f 300 n = some ([], false) := by
  have e : spec_l01In.f 300 n 3 10 = some false := by
    unfold spec_l01In.f
    by_cases h1 : n ≥ 3
    · rw [if_pos h1, decide_eq_false (show ¬ n ≤ 10 by omega)]
    · rw [if_neg h1]
  unfold spec_FlashNew.f
  rw [e, Option.bind_some, if_neg (by simp)]
theorem iFl {n : Int} (h : ¬ (3 ≤ n ∧ n ≤ 10)) : impl_FlashNew.f 300 n = some ([], false) := by
  have e : impl_in.f 300 n 3 10 = some false := by
    unfold impl_in.f
    by_cases h1 : n ≥ 3
    · rw [if_pos h1, decide_eq_false (show ¬ n ≤ 10 by omega)]
    · rw [if_neg h1]
  unfold impl_FlashNew.f
  rw [e, Option.bind_some, if_neg (by simp)]
theorem sNo {n : Int} (h : ¬ (3 ≤ n ∧ n ≤ 10)) : spec_DeviceNew.f 300 n = some ([], [], [], 0, 0, 0, 0, false) := by
  unfold spec_DeviceNew.f
  rw [sFl h, Option.bind_some, if_neg (by simp)]
theorem iNo {n : Int} (h : ¬ (3 ≤ n ∧ n ≤ 10)) : impl_DeviceNew.f 300 n = some ([], [], [], 0, 0, 0, 0, false) := by
  unfold impl_DeviceNew.f
  rw [iFl h, Option.bind_some, if_neg (by simp)]
set_option maxRecDepth 1000000 in
theorem new0 : laws_FnExactDeviceNew.f 300 0 = some true := by kernel_rfl
theorem fnExactDeviceNewX (n : Int) : ∃ k, laws_FnExactDeviceNew.f k n = some true := by
  refine ⟨300, ?_⟩
  by_cases h : 3 ≤ n ∧ n ≤ 10
  · have h2 : n = 3 ∨ n = 4 ∨ n = 5 ∨ n = 6 ∨ n = 7 ∨ n = 8 ∨ n = 9 ∨ n = 10 := by omega
    rcases h2 with rfl | rfl | rfl | rfl | rfl | rfl | rfl | rfl
    · exact new3
    · exact new4
    · exact new5
    · exact new6
    · exact new7
    · exact new8
    · exact new9
    · exact new10
  · have h0 := new0
    unfold laws_FnExactDeviceNew.f at h0 ⊢
    rw [sNo (by omega), iNo (by omega)] at h0
    rw [sNo h, iNo h]
    exact h0
end Go.Proofs.YtmboeckendhdnaaGreat.M2.Mp

/- From a function's contract to a call of it from without: what it answers; what was there stays. -/
namespace Go.Proofs.YtmboeckendhdnaaGreat.M2
open Go Go.RowKit
set_option linter.unusedVariables false
section
variable {Ty : Type} {D : Ty → Type} {P : Program} {K : Kit Ty D}
theorem hp0 (k : Nat) : hpOf ([] : List (Blk Ty D)) k = none := rfl
theorem blk0 (nm : Nm) : blkAt K (hpOf ([] : List (Blk Ty D))) nm = none := by
  unfold blkAt; cases nm.sub <;> rfl
theorem own0 (γ : Nm → Hdr) (g : Nat) (nm : Nm) : ¬ Own K (hpOf ([] : List (Blk Ty D))) γ g nm := by
  rintro ⟨⟨b, hb⟩, _⟩; rw [blk0] at hb; cases hb
/-- The memory of a call from without. -/
def Out (Ty : Type) (D : Ty → Type) (w : World) : Mem Ty D := ⟨w, fun _ g => g < w.heap.size, hpOf [], fun _ => (none, 0), (· < ([] : List (Blk Ty D)).length)⟩
theorem top {f : FuncId} {ins : List (AV Ty D)} {v : Value} (h : Contract P K f ins [] (.sc v) [] []) (w : World) (args : Array Value) (hsz : args.size = ins.length)
    (ha : ∀ (k : Nat) u x, args[k]? = some u → ins[k]? = some x → x ≠ .dd ∧ Va K (Out Ty D w) u x) : Calls P f args w fun e w' => e = .returned v ∧ Below w.heap.size w w' := by
  have hl : Lay K (Out Ty D w) := by
    refine ⟨fun nm b hb => ?_, fun g nm nm' h => (own0 _ _ _ h).elim, fun g hg => hg, fun g hg => ⟨hg, fun nm => own0 _ _ _⟩, fun id b hb => ?_⟩
    · rw [show blkAt K (Out Ty D w).H nm = none from blk0 nm] at hb; cases hb
    · cases hb
  refine (h.2.2 w (fun _ g => g < w.heap.size) (fun _ => (none, 0)) args hl (fun g hg _ => hg) hsz ha).mono fun e w' he => ?_
  obtain ⟨u, γ', he, _, _, hv, hk, _⟩ := he
  have hu : u = v := hv.1
  exact ⟨by rw [he, hu], hk.os, hk.tape, hk.output, hk.size, fun k hk' => hk.block k hk' (fun ⟨nm, ho⟩ => own0 _ _ _ ho)⟩
/-- A row of scalars that was there. -/
theorem fz_flat {w : World} {t : Ty} {l : List (D t)} {n : D t → Value} (hc : K.cells t = 1) (he : ∀ x, K.emb t x = [.sc (n x)]) (hs : ∀ x, scalar (n x) = true) {g o c len : Nat} (hg : g < w.heap.size) (hl : l.length = len) (hle : len ≤ c)
    (hcell : ∀ (i : Nat) x, l[i]? = some x → w.cell? ⟨g, o + i, none⟩ = some (n x)) (q : Nat) : Fz K w (fun g => g < w.heap.size) (.slice (some ⟨g, o, none⟩) len c) (.row q t l) := by
  subst hl
  refine ⟨1, _, _, rfl, hle, .inr ⟨g, o, rfl, hg, fun i x hx j cc hj => ?_⟩⟩
  rw [he] at hj
  cases j with
  | succ j => simp at hj
  | zero =>
    simp at hj; subst hj
    refine ⟨n x, ?_, rfl, hs x⟩
    rw [hc, ← hcell i x hx]; congr 2; omega
theorem fz_nil {w : World} {S : Nat → Prop} {t : Ty} {a : Option Addr} {c : Nat} (q : Nat) : Fz K w S (.slice a 0 c) (.row q t []) := ⟨1, a, c, rfl, Nat.zero_le _, .inl rfl⟩
end
end Go.Proofs.YtmboeckendhdnaaGreat.M2

/- What the arguments of a law, read off the memory, are to the plain interpreter: scalars, structs, rows that nobody writes, rows of rows. -/
namespace Go.Proofs.YtmboeckendhdnaaGreat.M2
open Go Go.RowKit
set_option linter.unusedVariables false
set_option linter.unusedSimpArgs false
section
variable {Ty : Type} {D : Ty → Type} {P : Program} {K : Kit Ty D}

/-- The cells are such: rows that were there, so many rows within one another. -/
def CellsAt (K : Kit Ty D) (w : World) (d : Nat) (cs : List Value) (av : List (AV Ty D)) : Prop := cs.length = av.length ∧ ∀ (j : Nat) u c, cs[j]? = some u → av[j]? = some c → FzC K w (fun g => g < w.heap.size) d u c
def OpM {α : Type} (P : Program) (K : Kit Ty D) (t : TypeId) (d : Nat) (em : α → List (AV Ty D)) (wf : α → Prop) : Prop :=
  ∀ (H : Type) (enc : TypeId × Value → H) (w : World) (base : Nat) (spare : Nat → Bool) (held : Bool) (fuel : Nat) (cs : List Value) (x : DataW H × List MemPlace),
    DataW.trod enc P w base spare held fuel t cs = some x → ∃ y : α, CellsAt K w d cs (em y) ∧ wf y
theorem FzC.up {w : World} {S : Nat → Prop} : ∀ {d : Nat} {v : Value} {x : AV Ty D}, FzC K w S d v x → FzC K w S (d + 1) v x := by
  intro d
  induction d with
  | zero =>
    intro v x h
    cases x with
    | sc u => exact h
    | _ => exact h.elim
  | succ d ih =>
    intro v x h
    cases x with
    | sc u => exact h
    | row g t l =>
      obtain ⟨a, c, h1, h2, h3⟩ := h
      refine ⟨a, c, h1, h2, h3.imp id ?_⟩
      rintro ⟨g, o, q1, q2, q3⟩
      refine ⟨g, o, q1, q2, fun i x hx j c hc => ?_⟩
      obtain ⟨u, hu, hf⟩ := q3 i x hx j c hc
      exact ⟨u, hu, ih hf⟩
    | _ => exact h.elim
theorem CellsAt.up {w : World} {d : Nat} {cs : List Value} {av : List (AV Ty D)} (h : CellsAt K w d cs av) : CellsAt K w (d + 1) cs av := ⟨h.1, fun j u c hu hc => (h.2 j u c hu hc).up⟩
theorem OpM.up {α : Type} {t : TypeId} {d : Nat} {em : α → List (AV Ty D)} {wf : α → Prop} (h : OpM P K t d em wf) : OpM P K t (d + 1) em wf := fun H enc w base spare held fuel cs x hx => by
  obtain ⟨y, h1, h2⟩ := h H enc w base spare held fuel cs x hx
  exact ⟨y, h1.up, h2⟩
theorem cells_one {w : World} {d : Nat} {v u : Value} (hv : v = u) (hs : scalar u = true) : CellsAt K w d [v] [.sc u] := by
  refine ⟨rfl, fun j x c hx hc => ?_⟩
  cases j with
  | succ j => simp at hx
  | zero =>
    simp at hx hc
    subst hx hc
    cases d <;> exact ⟨hv, hs⟩
theorem op_int {t : TypeId} {k : IntKind} (hu : P.underlying t = some (.int k)) : OpM P K t 0 (fun n : Int => [.sc (.int k n)]) (fun n => (Lit.int k n).wf = true) := by
  intro H enc w base spare held fuel cs x h
  obtain ⟨n, rfl, _, hw⟩ := DataW.trod_int hu h
  exact ⟨n, cells_one rfl rfl, hw⟩
theorem op_bool {t : TypeId} (hu : P.underlying t = some .bool) : OpM P K t 0 (fun b : Bool => [.sc (.bool b)]) (fun _ => True) := by
  intro H enc w base spare held fuel cs x h
  obtain ⟨n, rfl, _⟩ := DataW.trod_bool hu h
  exact ⟨n, cells_one rfl rfl, trivial⟩
theorem op_string {t : TypeId} (hu : P.underlying t = some .string) : OpM P K t 0 (fun s : ByteArray => [.sc (.string s)]) (fun s => s.size ≤ maxLen) := by
  intro H enc w base spare held fuel cs x h
  obtain ⟨n, rfl, _, hw⟩ := DataW.trod_string hu h
  exact ⟨n, cells_one rfl rfl, hw⟩
theorem choose_list {α : Type} {Q : Nat → α → Prop} : ∀ (n : Nat), (∀ i, i < n → ∃ y, Q i y) → ∃ ys : List α, ys.length = n ∧ ∀ i y, ys[i]? = some y → Q i y
  | 0, _ => ⟨[], rfl, fun i y h => by simp at h⟩
  | n + 1, h => by
    obtain ⟨ys, hl, hq⟩ := choose_list n (fun i hi => h i (by omega))
    obtain ⟨y, hy⟩ := h n (by omega)
    refine ⟨ys ++ [y], by simp [hl], fun i z hz => ?_⟩
    rcases Nat.lt_or_ge i ys.length with hi | hi
    · rw [List.getElem?_append_left hi] at hz
      exact hq i z hz
    · rw [List.getElem?_append_right hi] at hz
      have hi2 : i - ys.length = 0 := by
        have := (List.getElem?_eq_some_iff.1 hz).1
        simp at this
        omega
      rw [hi2] at hz
      have : i = n := by omega
      subst this
      simp at hz
      subst hz
      exact hy
theorem adds (a : Addr) (m n : Nat) : (a.add m).add n = a.add (m + n) := by
  unfold Addr.add
  by_cases h1 : m = 0 <;> by_cases h2 : n = 0 <;> simp_all [Nat.add_assoc]
theorem op_slice {t e : TypeId} {te : Ty} {d : Nat} {wf : D te → Prop} (hu : P.underlying t = some (.slice e)) (hc : P.cellsOf e = K.cells te) (hlen0 : ∀ x, (K.emb te x).length = K.cells te) (hpos : 0 < K.cells te) (ho : OpM P K e d (K.emb te) wf) :
    OpM P K t (d + 1) (fun l : List (D te) => [.row 0 te l]) (fun xs => xs.length ≤ maxLen ∧ ∀ x ∈ xs, wf x) := by
  intro H enc w base spare held fuel cs x h
  rcases DataW.trod_slice hu h with ⟨rfl, _⟩ | ⟨a, len, cap, elems, rest, n, _, rfl, _, hb, hl, hm, hlen, hel, _, _⟩
  · refine ⟨[], ⟨rfl, fun j u c hx hcc => ?_⟩, by simp, fun x hx => absurd hx (by simp)⟩
    cases j with
    | succ j => simp at hx
    | zero =>
      simp at hx hcc
      subst hx hcc
      exact ⟨none, 0, rfl, Nat.le_refl _, .inl rfl⟩
  · have each : ∀ i, i < len → ∃ y : D te, ∃ c : List Value, (CellsAt K w d c (K.emb te y) ∧ ∀ j u, c[j]? = some u → w.cell? (a.add (i * K.cells te + j)) = some u) ∧ wf y := by
      intro i hi
      have h1 := hel i hi
      rw [List.getElem?_eq_getElem (by omega), Option.bind_eq_some_iff, hc] at h1
      obtain ⟨c, h2, h3⟩ := h1
      obtain ⟨_, hcl, hcell⟩ := World.cells?_some h2
      obtain ⟨y, hk, hw⟩ := ho H enc w base spare held n c _ h3
      refine ⟨y, c, ⟨hk, fun j u hj => ?_⟩, hw⟩
      have hjl : j < c.length := (List.getElem?_eq_some_iff.1 hj).1
      rw [← adds, hcell j (by omega), hj]
    obtain ⟨ys, hyl, hys⟩ := choose_list len each
    have hml : len ≤ maxLen := Nat.le_trans hl hm
    refine ⟨ys, ⟨rfl, fun j u c hx hcc => ?_⟩, by rw [hyl]; exact hml, fun y hy => ?_⟩
    · cases j with
      | succ j => simp at hx
      | zero =>
        simp at hx hcc
        subst hx hcc
        refine ⟨some a, cap, by rw [hyl], by rw [hyl]; exact hl, ?_⟩
        by_cases h0 : ys = []
        · exact .inl h0
        · refine .inr ?_
          have hl0 : 0 < ys.length := List.length_pos_iff.2 h0
          have cell : ∀ (i : Nat) y, ys[i]? = some y → ∀ (j : Nat) cc, (K.emb te y)[j]? = some cc → ∃ u, w.cell? (a.add (i * K.cells te + j)) = some u ∧ FzC K w (fun g => g < w.heap.size) d u cc := by
            intro i y hy j cc hcc
            obtain ⟨c, ⟨hk, hcell⟩, _⟩ := hys i y hy
            have hj : j < c.length := by rw [hk.1]; exact (List.getElem?_eq_some_iff.1 hcc).1
            exact ⟨c[j], hcell j _ (List.getElem?_eq_getElem hj), hk.2 j _ cc (List.getElem?_eq_getElem hj) hcc⟩
          obtain ⟨u0, hu0, _⟩ := cell 0 ys[0] (List.getElem?_eq_getElem hl0) 0 ((K.emb te ys[0])[0]'(by rw [hlen0]; exact hpos)) (List.getElem?_eq_getElem _)
          have hsp : a.spot = none := by
            have h1 := World.cell?_spot hu0
            have h2 : (a.add (0 * K.cells te + 0)) = a := by simp [Addr.add]
            rw [h2] at h1
            exact h1
          obtain ⟨g, o, sp⟩ := a
          simp only at hsp
          subst hsp
          have hadd : ∀ j, (⟨g, o, none⟩ : Addr).add j = ⟨g, o + j, none⟩ := fun j => by unfold Addr.add; split <;> simp_all
          have hg : g < w.heap.size := by
            rw [hadd] at hu0
            unfold World.cell? at hu0
            rcases Nat.lt_or_ge g w.heap.size with h | h
            · exact h
            · simp [Array.getElem?_eq_none h] at hu0
          refine ⟨g, o, rfl, hg, fun i y hy j cc hcc => ?_⟩
          obtain ⟨u, h1, h2⟩ := cell i y hy j cc hcc
          rw [hadd] at h1
          exact ⟨u, h1, h2⟩
    · obtain ⟨j, hj, he⟩ := List.getElem_of_mem hy
      obtain ⟨_, _, hw⟩ := hys j y (by rw [List.getElem?_eq_getElem hj, he])
      exact hw
/-- The fields fs, read off the cells from off on. -/
def OpF {α : Type} (P : Program) (K : Kit Ty D) (fs : List Field) (off d n : Nat) (em : α → List (AV Ty D)) (wf : α → Prop) : Prop :=
  ∀ (H : Type) (enc : TypeId × Value → H) (w : World) (base : Nat) (spare : Nat → Bool) (held : Bool) (fuel : Nat) (cs : List Value), cs.length = off + n →
    (∀ f ∈ fs, ∃ x, DataW.trod enc P w base spare held fuel f.type ((cs.drop f.offset).take (P.cellsOf f.type)) = some x) → ∃ y : α, CellsAt K w d (cs.drop off) (em y) ∧ wf y
theorem opF_one {α : Type} {f : Field} {off d n : Nat} {em : α → List (AV Ty D)} {wf : α → Prop} (hoff : f.offset = off) (hc : P.cellsOf f.type = n) (ho : OpM P K f.type d em wf) : OpF P K [f] off d n em wf := by
  intro H enc w base spare held fuel cs hl h
  obtain ⟨x, hx⟩ := h f (by simp)
  obtain ⟨y, hk, hw⟩ := ho H enc w base spare held fuel _ x hx
  rw [hoff, hc, List.take_of_length_le (by rw [List.length_drop]; omega)] at hk
  exact ⟨y, hk, hw⟩
theorem CellsAt.app {w : World} {d : Nat} {c1 c2 : List Value} {a1 a2 : List (AV Ty D)} (h1 : CellsAt K w d c1 a1) (h2 : CellsAt K w d c2 a2) : CellsAt K w d (c1 ++ c2) (a1 ++ a2) := by
  refine ⟨by rw [List.length_append, List.length_append, h1.1, h2.1], fun j u c hu hc => ?_⟩
  rcases Nat.lt_or_ge j c1.length with h | h
  · rw [List.getElem?_append_left h] at hu
    rw [List.getElem?_append_left (by rw [← h1.1]; exact h)] at hc
    exact h1.2 j u c hu hc
  · rw [List.getElem?_append_right h] at hu
    rw [List.getElem?_append_right (by rw [← h1.1]; exact h), ← h1.1] at hc
    exact h2.2 _ u c hu hc
theorem opF_cons {α β : Type} {f : Field} {fs : List Field} {off d n m : Nat} {ea : α → List (AV Ty D)} {eb : β → List (AV Ty D)} {wa : α → Prop} {wb : β → Prop} (hoff : f.offset = off) (hc : P.cellsOf f.type = n) (ho : OpM P K f.type d ea wa) (hr : OpF P K fs (off + n) d m eb wb) :
    OpF P K (f :: fs) off d (n + m) (fun p : α × β => ea p.1 ++ eb p.2) (fun p => wa p.1 ∧ wb p.2) := by
  intro H enc w base spare held fuel cs hl h
  obtain ⟨x, hx⟩ := h f (by simp)
  obtain ⟨y, hk, hw⟩ := ho H enc w base spare held fuel _ x hx
  obtain ⟨z, hk2, hw2⟩ := hr H enc w base spare held fuel cs (by omega) (fun g hg => h g (List.mem_cons_of_mem _ hg))
  rw [hoff, hc] at hk
  refine ⟨(y, z), ?_, hw, hw2⟩
  have := hk.app hk2
  rw [← List.drop_drop, List.take_append_drop] at this
  exact this
theorem op_tuple {α : Type} {t : TypeId} {fs : List Field} {d n : Nat} {em : α → List (AV Ty D)} {wf : α → Prop} (hu : P.underlying t = some (.struct fs.toArray)) (hc : P.cellsOf t = n) (ho : OpF P K fs 0 d n em wf) : OpM P K t d em wf := by
  intro H enc w base spare held fuel cs x h
  obtain ⟨xs, m, _, _, hl, hlen, hf⟩ := DataW.trod_struct hu h
  obtain ⟨y, hk, hw⟩ := ho H enc w base spare held m cs (by omega) (fun fl hfl => by
    obtain ⟨i, hi, he⟩ := List.getElem_of_mem hfl
    have h1 := hf i fl (by simpa using (List.getElem?_eq_getElem hi).trans (congrArg some he))
    have hlen2 : xs.length = fs.length := by simpa using hlen
    exact ⟨xs[i]'(by omega), by rw [h1, List.getElem?_eq_getElem]⟩)
  exact ⟨y, by simpa using hk, hw⟩
/-- The same, of a structure. -/
theorem op_iso {α β : Type} {t : TypeId} {d : Nat} {em : α → List (AV Ty D)} {em' : β → List (AV Ty D)} {wf : α → Prop} {wf' : β → Prop} (g : α → β) (h : OpM P K t d em wf) (he : ∀ y, em' (g y) = em y) (hw : ∀ y, wf y → wf' (g y)) : OpM P K t d em' wf' := fun H enc w base spare held fuel cs x hx => by
  obtain ⟨y, h1, h2⟩ := h H enc w base spare held fuel cs x hx
  exact ⟨g y, by rw [he]; exact h1, hw y h2⟩
/-- A struct that is handed over. -/
theorem va_ag {w : World} {d : Nat} {cs : List Value} {av : List (AV Ty D)} (h : CellsAt K w d cs av) : Va K (Out Ty D w) (.agg cs.toArray) (.ag av) := by
  refine ⟨cs, rfl, h.1, fun j u c hu hc => ?_⟩
  have hf := h.2 j u c hu hc
  cases d with
  | zero =>
    cases c with
    | sc x => exact ⟨by simp, hf⟩
    | _ => exact hf.elim
  | succ d =>
    cases c with
    | sc x => exact ⟨by simp, hf⟩
    | row g t l => exact ⟨by simp, ⟨d + 1, hf⟩⟩
    | _ => exact hf.elim
/-- A scalar that is handed over. -/
theorem va_sc {w : World} {d : Nat} {v u : Value} (h : CellsAt K w d [v] [.sc u]) : Va K (Out Ty D w) v (.sc u) := by
  have hf := h.2 0 v _ rfl rfl
  cases d <;> exact hf
/-- A row that is handed over. -/
theorem va_row {w : World} {d : Nat} {v : Value} {t : Ty} {l : List (D t)} (h : CellsAt K w d [v] [.row 0 t l]) : Va K (Out Ty D w) v (.row 0 t l) := ⟨d, h.2 0 v _ rfl rfl⟩
end
end Go.Proofs.YtmboeckendhdnaaGreat.M2

/- The law FnExactDeviceNew holds, for every input: from its function's contract and the plain statement of what it answers. -/
namespace Go.Proofs.YtmboeckendhdnaaGreat.fnExactDeviceNew
set_option linter.unusedVariables false
set_option linter.unusedSimpArgs false
open Go Go.ChangeShapes Go.WideShapes Go.ChangeAt Go.RowKit
open Go.Proofs.YtmboeckendhdnaaGreat.PK
open Go.Proofs.YtmboeckendhdnaaGreat.M2 (top Va Vc Out kit AV Ty D Contract OpM op_int op_bool op_string op_slice op_tuple op_iso opF_one opF_cons va_ag va_row va_sc)
theorem own : ownKnob Tryz.prog.godebug = none := by kernel_rfl
theorem laidOut : laidOutB Tryz.prog = true := by kernel_rfl

set_option maxRecDepth 100000 in
set_option maxHeartbeats 4000000 in
theorem lifted (os : Os) (started : os.Started) (H : Type) (enc : TypeId × Value → H) :
    ReturnsInHanded {} Tryz.checked os 3 .any (Rows.fnExactDeviceNewSpec.pre6 enc Tryz.prog Tryz.f3 Rows.fnExactDeviceNewRow.domain false) (Rows.fnExactDeviceNewSpec.post enc Tryz.prog Tryz.f3 false true false false) := by
  refine returnsInHanded_of_change_sized (C := Tryz.checked) own started (by kernel_rfl) Tryz.func3
    (ChangeSpec.witness6 (enc := enc) (C := Tryz.checked) false ⟨#[], #[.int .i64 0], []⟩ 8 (by kernel_rfl) (by kernel_rfl) (by kernel_rfl) (by kernel_rfl)) ?_
  intro W base args ds gs before hval0 hW hcnd hsz0 _
  have hval : ∀ (j : Nat) t v, Tryz.f3.params[j]? = some t → args[j]? = some v → Value.okWide Tryz.prog W .any base t v := hval0
  have hW' := hW
  obtain ⟨p, q, hA0, hV, rfl, hfz, hnd⟩ := hW
  have hA : DataW.TrodAll enc Tryz.prog W 0 (fun _ => true) true Tryz.f3.params.toList args.toList ds p := hA0
  rw [Tryz.params3] at hA hval
  obtain ⟨v0, vs0, d0, ds0, p0, q0, hargs, rfl, rfl, h0, r0⟩ := trodAll_cons hA
  obtain ⟨rfl, rfl, rfl⟩ := trodAll_nil r0
  obtain rfl : args = #[v0] := by cases args; simp_all
  obtain ⟨rfl, rfl⟩ := trodVars_none hV
  have k0 := h0
  have lt0 : ∀ x ∈ p0, x.block < W.heap.size := by obtain ⟨m, hm⟩ := k0; exact DataW.trod_lt m _ _ _ hm
  obtain ⟨fu0, hf0⟩ := h0
  obtain ⟨y0, K0, Y0⟩ := (op_int Tryz.underlying3) H enc W 0 (fun _ => true) true fu0 _ _ hf0
  obtain ⟨b0, rfl⟩ := okWide_int Tryz.underlying3 (hval 0 3 v0 rfl rfl)

  obtain ⟨k, hp⟩ := M2.Mp.evx_out (M2.Mp.fnExactDeviceNewX y0 )
  have con : Contract Tryz.prog kit 3 [.sc (.int .i64 y0)] [] (.sc (.bool true)) [] [] := M2.laws_FnExactDeviceNew.con k y0 true hp
  refine (top con W #[.int .i64 b0] rfl (fun j u x hu hx => by
    match j, hu, hx with
    | 0, hu, hx => simp only [List.getElem?_cons_zero, List.getElem?_cons_succ, List.getElem?_toArray, Option.some.injEq] at hu hx; subst hu hx; exact ⟨by simp, (va_sc K0)⟩
    | j + 1, hu, _ => simp at hu)).mono fun e W' ⟨he, bel⟩ => ?_
  subst he
  exact ⟨_, rfl, _, _, _, [], _, [], hW', trodAll_mk1 (shut_bool Tryz.underlying4 _), (trodAll_cons_mk (Below.trod laidOut (by kernel_rfl) (of_decide_eq_true (by kernel_rfl)) k0 bel lt0) trodAll_mk0), rfl, bel.frame _, fun h => by cases h⟩
theorem over : Rows.fnExactDeviceNewRow.holds Tryz.pinned (OpenSpec.ofChange Rows.fnExactDeviceNewSpec) :=
  OpenClaim.holds_of_wide 3 Tryz.f3 rfl rfl rfl rfl rfl rfl rfl ⟨rfl, rfl, rfl, rfl, rfl⟩ rfl rfl rfl rfl rfl (by kernel_rfl) Tryz.func3 (by kernel_rfl)
    (of_decide_eq_true (by kernel_rfl)) (by unfold Func.isWrapper; first | (rw [if_pos (by decide +kernel)]; kernel_rfl) | (rw [if_neg (by decide +kernel)]; exact ⟨rfl, rfl⟩))
    (fun os started H enc _ => lifted os started H enc)
end Go.Proofs.YtmboeckendhdnaaGreat.fnExactDeviceNew
namespace Go.Proofs.YtmboeckendhdnaaGreat
/-- The row, under a short name, for the claim. -/
theorem fnExactDeviceNew_holds : Rows.FnExactDeviceNewSaid := fnExactDeviceNew.over
end Go.Proofs.YtmboeckendhdnaaGreat
