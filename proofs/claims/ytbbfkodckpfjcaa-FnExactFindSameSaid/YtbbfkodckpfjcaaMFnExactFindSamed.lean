/- FnExactFindSame: functions of the translation as Lean functions with what their calls come to, plain lemmas on them, and, at the end, the row. Parts of one proof, merged by a program of this session; each part's own sentence stands at its head. -/
import Derived.IntWalk
import Derived.KernelRfl
import Derived.Laws.BitsLemmas
import Derived.Test.YtbbfkodckpfjcaaMFnExactFindSamec
/- Plain runs of functions: each is a plain Lean function, and keeps its contract. Written by a program of this session. -/
namespace Go.Proofs.Ytbbfkodckpfjcaa.M2
open Go Go.Proofs.Ytbbfkodckpfjcaa.PK
set_option linter.unusedVariables false
set_option linter.unusedSimpArgs false
set_option maxHeartbeats 4000000
/-! ### laws_eqBlockS: function 22 -/
noncomputable def laws_eqBlockS.sp : Nat → Option (Spec Ty) := fun r => bif Nat.beq r 4 then some ⟨[(0, .keep), (1, .keep), (5, .keep)], []⟩ else none
noncomputable def laws_eqBlockS.en : Option (Spec Ty) := none
noncomputable def laws_eqBlockS.s4 (x0 : List S62) (x1 : List S62) (x5 : Int) : St Ty D := ⟨(Env.put (Env.put (Env.put E (some 0) (.row 0 .t62 x0)) (some 1) (.row 0 .t62 x1)) (some 5) (.sc (.int .i64 x5))), H0, 1000⟩
noncomputable def laws_eqBlockS.ctx (k : Nat) : Ctx Ty D := (cons 31 (laws_eqBlock.x k) (fun _ _ _ _ => none))
noncomputable def laws_eqBlockS.c4 : Nat → (List S62) → (List S62) → Int → Option (Bool)
  | 0, _, _, _ => none
  | k + 1, x0, x1, x5 => (if x5 < (x0.length : Int) then (if 0 ≤ x5 then (if x5 < (x0.length : Int) then (if 0 ≤ x5 then (if x5 < (x1.length : Int) then ((laws_eqBlock.f k ((rd_T62 x0 x5).f0) ((rd_T62 x0 x5).f1) ((rd_T62 x0 x5).f2) ((rd_T62 x1 x5).f0) ((rd_T62 x1 x5).f1) ((rd_T62 x1 x5).f2)).bind fun t1 => (if t1 = true then (laws_eqBlockS.c4 k x0 x1 (w64 (x5 + 1))) else (some (false)))) else none) else none) else none) else none) else (some (true)))
noncomputable def laws_eqBlockS.f (k : Nat) (a0 : List S62) (a1 : List S62) : Option (Bool) := (if (a0.length : Int) = (a1.length : Int) then (laws_eqBlockS.c4 k a0 a1 0) else (some (false)))
noncomputable def laws_eqBlockS.e (r : Bool) : Res Ty D := (.sc (.bool r), [], [])
noncomputable abbrev laws_eqBlockS.g (rec : List Item → St Ty D → R) (k : Nat) := go1 Try.f22 (laws_eqBlockS.ctx k) laws_eqBlockS.sp 0 laws_eqBlockS.en rec
set_option maxRecDepth 100000 in
theorem laws_eqBlockS.t4 (rec : List Item → St Ty D → R) (k : Nat) (x0 : List S62) (x1 : List S62) (x5 : Int) : laws_eqBlockS.g rec k (td Try.f22 4) (laws_eqBlockS.s4 x0 x1 x5) =
  bif decide (x5 < (x0.length : Int)) then bif decide (0 ≤ x5) then bif decide (x5 < (x0.length : Int)) then bif decide (0 ≤ x5) then bif decide (x5 < (x1.length : Int)) then (laws_eqBlock.f k ((rd_T62 x0 x5).f0) ((rd_T62 x0 x5).f1) ((rd_T62 x0 x5).f2) ((rd_T62 x1 x5).f0) ((rd_T62 x1 x5).f1) ((rd_T62 x1 x5).f2)).bind fun t1 => bif !t1 then some (laws_eqBlockS.e (false)) else rec (td Try.f22 4) (laws_eqBlockS.s4 x0 x1 (w64 (x5 + 1))) else none else none else none else none else some (laws_eqBlockS.e (true)) := by kernel_rfl
set_option maxRecDepth 100000 in
theorem laws_eqBlockS.te (rec : List Item → St Ty D → R) (k : Nat) (a0 : List S62) (a1 : List S62) : laws_eqBlockS.g rec k [.code (body Try.f22)] (startSt [.row 0 .t62 a0, .row 0 .t62 a1] []) =
  bif !decide ((a0.length : Int) = (a1.length : Int)) then some (laws_eqBlockS.e (false)) else rec (td Try.f22 4) (laws_eqBlockS.s4 a0 a1 0) := by kernel_rfl
set_option maxRecDepth 100000 in
theorem laws_eqBlockS.ok : ∀ k : Nat, (∀ (x0 : List S62) (x1 : List S62) (x5 : Int), goF Try.f22 laws_eqBlockS.ctx laws_eqBlockS.sp 0 laws_eqBlockS.en k (td Try.f22 4) (laws_eqBlockS.s4 x0 x1 x5) = (laws_eqBlockS.c4 k x0 x1 x5).map laws_eqBlockS.e)
  | 0 => fun _ _ _ => rfl
  | k + 1 => by
    have ih := laws_eqBlockS.ok k
    have i4 := ih
    intro x0 x1 x5; rw [laws_eqBlockS.c4]; exact (laws_eqBlockS.t4 _ k x0 x1 x5).trans (cd (cd (cd (cd (cd (bn (fun t1 => (nb rfl (i4 _ _ _)))) rfl) rfl) rfl) rfl) rfl)
set_option maxRecDepth 100000 in
theorem laws_eqBlockS.oke (k : Nat) (a0 : List S62) (a1 : List S62) : goF Try.f22 laws_eqBlockS.ctx laws_eqBlockS.sp 0 laws_eqBlockS.en (k + 1) [.code (body Try.f22)] (startSt [.row 0 .t62 a0, .row 0 .t62 a1] []) = (laws_eqBlockS.f k a0 a1).map laws_eqBlockS.e := by
  have i4 := laws_eqBlockS.ok k
  rw [laws_eqBlockS.f]; exact (laws_eqBlockS.te _ k a0 a1).trans (nd rfl (i4 _ _ _))
theorem laws_eqBlockS.con (k : Nat) (a0 : List S62) (a1 : List S62) (r) (h : laws_eqBlockS.f k a0 a1 = some r) : Contract Try.prog kit 22 [.row 0 .t62 a0, .row 0 .t62 a1] [] (laws_eqBlockS.e r).1 (laws_eqBlockS.e r).2.1 (laws_eqBlockS.e r).2.2 :=
  con_okG kitOk mix (fun k => (CtxOk.cons (laws_eqBlock.xok k) CtxOk.nil)) (laws_eqBlockS.oke k a0 a1) h (by kernel_rfl) (by kernel_rfl) (by kernel_rfl) rfl (by kernel_rfl) rfl rfl
noncomputable def laws_eqBlockS.x (k : Nat) : X := fun ins bs κ => match ins, bs with
  | [.row 0 .t62 a0, .row 0 .t62 a1], [] => (laws_eqBlockS.f k a0 a1).bind fun r => κ (laws_eqBlockS.e r).1 (laws_eqBlockS.e r).2.1 (laws_eqBlockS.e r).2.2
  | _, _ => none
theorem laws_eqBlockS.xok (k : Nat) : XOk 22 (laws_eqBlockS.x k) := by
  intro ins bs κ res h
  unfold laws_eqBlockS.x at h
  split at h
  · obtain ⟨r, hr, h⟩ := Option.bind_eq_some_iff.1 h
    exact ⟨_, _, _, laws_eqBlockS.con k _ _ r hr, h⟩
  · cases h

/-! ### laws_eqFlash: function 10 -/
noncomputable def laws_eqFlash.sp : Nat → Option (Spec Ty) := fun r => none
noncomputable def laws_eqFlash.en : Option (Spec Ty) := none
noncomputable def laws_eqFlash.ctx (k : Nat) : Ctx Ty D := (cons 22 (laws_eqBlockS.x k) (fun _ _ _ _ => none))
noncomputable def laws_eqFlash.f (k : Nat) (a0_0 : List S62) (a1_0 : List S62) : Option (Bool) := ((laws_eqBlockS.f k a0_0 a1_0).bind fun t1 => (if t1 = true then (some (true)) else (some (false))))
noncomputable def laws_eqFlash.e (r : Bool) : Res Ty D := (.sc (.bool r), [], [])
noncomputable abbrev laws_eqFlash.g (rec : List Item → St Ty D → R) (k : Nat) := go1 Try.f10 (laws_eqFlash.ctx k) laws_eqFlash.sp 0 laws_eqFlash.en rec
set_option maxRecDepth 100000 in
theorem laws_eqFlash.te (rec : List Item → St Ty D → R) (k : Nat) (a0_0 : List S62) (a1_0 : List S62) : laws_eqFlash.g rec k [.code (body Try.f10)] (startSt [.ag [.row 0 .t62 a0_0], .ag [.row 0 .t62 a1_0]] []) =
  (laws_eqBlockS.f k a0_0 a1_0).bind fun t1 => bif !t1 then some (laws_eqFlash.e (false)) else some (laws_eqFlash.e (true)) := by kernel_rfl
set_option maxRecDepth 100000 in
theorem laws_eqFlash.oke (k : Nat) (a0_0 : List S62) (a1_0 : List S62) : goF Try.f10 laws_eqFlash.ctx laws_eqFlash.sp 0 laws_eqFlash.en (k + 1) [.code (body Try.f10)] (startSt [.ag [.row 0 .t62 a0_0], .ag [.row 0 .t62 a1_0]] []) = (laws_eqFlash.f k a0_0 a1_0).map laws_eqFlash.e := by
  rw [laws_eqFlash.f]; exact (laws_eqFlash.te _ k a0_0 a1_0).trans (bn (fun t1 => (nb rfl rfl)))
theorem laws_eqFlash.con (k : Nat) (a0_0 : List S62) (a1_0 : List S62) (r) (h : laws_eqFlash.f k a0_0 a1_0 = some r) : Contract Try.prog kit 10 [.ag [.row 0 .t62 a0_0], .ag [.row 0 .t62 a1_0]] [] (laws_eqFlash.e r).1 (laws_eqFlash.e r).2.1 (laws_eqFlash.e r).2.2 :=
  con_okG kitOk mix (fun k => (CtxOk.cons (laws_eqBlockS.xok k) CtxOk.nil)) (laws_eqFlash.oke k a0_0 a1_0) h (by kernel_rfl) (by kernel_rfl) (by kernel_rfl) rfl (by kernel_rfl) rfl rfl
noncomputable def laws_eqFlash.x (k : Nat) : X := fun ins bs κ => match ins, bs with
  | [.ag [.row 0 .t62 a0_0], .ag [.row 0 .t62 a1_0]], [] => (laws_eqFlash.f k a0_0 a1_0).bind fun r => κ (laws_eqFlash.e r).1 (laws_eqFlash.e r).2.1 (laws_eqFlash.e r).2.2
  | _, _ => none
theorem laws_eqFlash.xok (k : Nat) : XOk 10 (laws_eqFlash.x k) := by
  intro ins bs κ res h
  unfold laws_eqFlash.x at h
  split at h
  · obtain ⟨r, hr, h⟩ := Option.bind_eq_some_iff.1 h
    exact ⟨_, _, _, laws_eqFlash.con k _ _ r hr, h⟩
  · cases h

/-! ### laws_FnExactSpotOf: function 3 -/
noncomputable def laws_FnExactSpotOf.sp : Nat → Option (Spec Ty) := fun r => none
noncomputable def laws_FnExactSpotOf.en : Option (Spec Ty) := none
noncomputable def laws_FnExactSpotOf.ctx (k : Nat) : Ctx Ty D := (cons 6 (laws_szFlash.x k) (cons 7 (spec_SpotOf.x k) (cons 8 (laws_toFlash.x k) (cons 9 (impl_SpotOf.x k) (cons 10 (laws_eqFlash.x k) (fun _ _ _ _ => none))))))
noncomputable def laws_FnExactSpotOf.f (k : Nat) (a0_0 : List S59) (a1 : Int) : Option (Bool) := ((laws_szFlash.f k a0_0 1048576).bind fun t1 => (if t1 < 0 then (some (true)) else ((laws_toFlash.f k a0_0).bind fun t2 => ((spec_SpotOf.f k t2 a1).bind fun t3 => ((laws_toFlash.f k a0_0).bind fun t4 => ((impl_SpotOf.f k t4 a1).bind fun t5 => (if t5.1 = t3.1 then (if t5.2.1 = t3.2.1 then (if (t5.2.2 == t3.2.2) = true then ((laws_toFlash.f k a0_0).bind fun t6 => ((laws_eqFlash.f k t4 t6).bind fun t7 => (if t7 = true then (some (true)) else (some (false))))) else (some (false))) else (some (false))) else (some (false)))))))))
noncomputable def laws_FnExactSpotOf.e (r : Bool) : Res Ty D := (.sc (.bool r), [], [])
noncomputable abbrev laws_FnExactSpotOf.g (rec : List Item → St Ty D → R) (k : Nat) := go1 Try.f3 (laws_FnExactSpotOf.ctx k) laws_FnExactSpotOf.sp 0 laws_FnExactSpotOf.en rec
set_option maxRecDepth 100000 in
theorem laws_FnExactSpotOf.te (rec : List Item → St Ty D → R) (k : Nat) (a0_0 : List S59) (a1 : Int) : laws_FnExactSpotOf.g rec k [.code (body Try.f3)] (startSt [.ag [.row 0 .t59 a0_0], .sc (.int .i64 a1)] []) =
  (laws_szFlash.f k a0_0 1048576).bind fun t1 => bif decide (t1 < 0) then some (laws_FnExactSpotOf.e (true)) else (laws_toFlash.f k a0_0).bind fun t2 => (spec_SpotOf.f k t2 a1).bind fun t3 => (laws_toFlash.f k a0_0).bind fun t4 => (impl_SpotOf.f k t4 a1).bind fun t5 => bif !decide (t5.1 = t3.1) then some (laws_FnExactSpotOf.e (false)) else bif !decide (t5.2.1 = t3.2.1) then some (laws_FnExactSpotOf.e (false)) else bif !(t5.2.2 == t3.2.2) then some (laws_FnExactSpotOf.e (false)) else (laws_toFlash.f k a0_0).bind fun t6 => (laws_eqFlash.f k t4 t6).bind fun t7 => bif !t7 then some (laws_FnExactSpotOf.e (false)) else some (laws_FnExactSpotOf.e (true)) := by kernel_rfl
set_option maxRecDepth 100000 in
theorem laws_FnExactSpotOf.oke (k : Nat) (a0_0 : List S59) (a1 : Int) : goF Try.f3 laws_FnExactSpotOf.ctx laws_FnExactSpotOf.sp 0 laws_FnExactSpotOf.en (k + 1) [.code (body Try.f3)] (startSt [.ag [.row 0 .t59 a0_0], .sc (.int .i64 a1)] []) = (laws_FnExactSpotOf.f k a0_0 a1).map laws_FnExactSpotOf.e := by
  rw [laws_FnExactSpotOf.f]; exact (laws_FnExactSpotOf.te _ k a0_0 a1).trans (bn (fun t1 => (cd rfl (bn (fun t2 => (bn (fun t3 => (bn (fun t4 => (bn (fun t5 => (nd rfl (nd rfl (nb rfl (bn (fun t6 => (bn (fun t7 => (nb rfl rfl)))))))))))))))))))
theorem laws_FnExactSpotOf.con (k : Nat) (a0_0 : List S59) (a1 : Int) (r) (h : laws_FnExactSpotOf.f k a0_0 a1 = some r) : Contract Try.prog kit 3 [.ag [.row 0 .t59 a0_0], .sc (.int .i64 a1)] [] (laws_FnExactSpotOf.e r).1 (laws_FnExactSpotOf.e r).2.1 (laws_FnExactSpotOf.e r).2.2 :=
  con_okG kitOk mix (fun k => (CtxOk.cons (laws_szFlash.xok k) (CtxOk.cons (spec_SpotOf.xok k) (CtxOk.cons (laws_toFlash.xok k) (CtxOk.cons (impl_SpotOf.xok k) (CtxOk.cons (laws_eqFlash.xok k) CtxOk.nil)))))) (laws_FnExactSpotOf.oke k a0_0 a1) h (by kernel_rfl) (by kernel_rfl) (by kernel_rfl) rfl (by kernel_rfl) rfl rfl
noncomputable def laws_FnExactSpotOf.x (k : Nat) : X := fun ins bs κ => match ins, bs with
  | [.ag [.row 0 .t59 a0_0], .sc (.int .i64 a1)], [] => (laws_FnExactSpotOf.f k a0_0 a1).bind fun r => κ (laws_FnExactSpotOf.e r).1 (laws_FnExactSpotOf.e r).2.1 (laws_FnExactSpotOf.e r).2.2
  | _, _ => none
theorem laws_FnExactSpotOf.xok (k : Nat) : XOk 3 (laws_FnExactSpotOf.x k) := by
  intro ins bs κ res h
  unfold laws_FnExactSpotOf.x at h
  split at h
  · obtain ⟨r, hr, h⟩ := Option.bind_eq_some_iff.1 h
    exact ⟨_, _, _, laws_FnExactSpotOf.con k _ _ r hr, h⟩
  · cases h

/-! ### spec_l04Tokens: function 46 -/
noncomputable def spec_l04Tokens.sp : Nat → Option (Spec Ty) := fun r => bif Nat.beq r 3 then some ⟨[(0, .keep), (4, .own .t86), (5, .keep)], []⟩ else none
noncomputable def spec_l04Tokens.en : Option (Spec Ty) := some ⟨[(2, .own .t86), (3, .keep)], []⟩
noncomputable def spec_l04Tokens.s3 (x0 : ByteArray) (x5 : Int) (h64 : List S86) : St Ty D := ⟨(Env.put (Env.put (Env.put E (some 0) (.sc (.string x0))) (some 4) (.sl 64 none)) (some 5) (.sc (.int .i64 x5))), Heap.put H0 [(64, some (.rowb .t86 h64 0))], 1000⟩
noncomputable def spec_l04Tokens.ctx (k : Nat) : Ctx Ty D := (fun _ _ _ _ => none)
noncomputable def spec_l04Tokens.c3 : Nat → ByteArray → Int → (List S86) → Option ((List S86) × Bool)
  | 0, _, _, _ => none
  | k + 1, x0, x5, h64 => (if x5 < (x0.size : Int) then (if 0 ≤ x5 then (if x5 < (x0.size : Int) then (if (w64 ((bt x0 x5))) > 128 then (if (w64 (x5 + 2)) > (x0.size : Int) then (some (h64, false)) else (if 0 ≤ (w64 (x5 + 1)) then (if (w64 (x5 + 1)) < (x0.size : Int) then (if h64.length + ([(S86.mk (w64 ((bt x0 (w64 (x5 + 1))))) (w64 ((w64 ((bt x0 x5))) - 128)) (⟨#[]⟩ : ByteArray))] : List S86).length ≤ 4398046511104 then (spec_l04Tokens.c3 k x0 (w64 (x5 + 2)) (h64 ++ ([(S86.mk (w64 ((bt x0 (w64 (x5 + 1))))) (w64 ((w64 ((bt x0 x5))) - 128)) (⟨#[]⟩ : ByteArray))] : List S86))) else none) else none) else none)) else (if (w64 ((w64 (x5 + 1)) + (w64 ((bt x0 x5))))) > (x0.size : Int) then (some (h64, false)) else (if 0 ≤ (w64 ((w64 (x5 + 1)) + (w64 ((bt x0 x5))))) then (if (w64 ((w64 (x5 + 1)) + (w64 ((bt x0 x5))))) ≤ (x0.size : Int) then (if 0 ≤ (w64 (x5 + 1)) then (if (w64 (x5 + 1)) ≤ (w64 ((w64 (x5 + 1)) + (w64 ((bt x0 x5))))) then (if h64.length + ([(S86.mk 0 0 (x0.extract ((w64 (x5 + 1)).toNat) ((w64 ((w64 (x5 + 1)) + (w64 ((bt x0 x5))))).toNat)))] : List S86).length ≤ 4398046511104 then (spec_l04Tokens.c3 k x0 (w64 ((w64 (x5 + 1)) + (w64 ((bt x0 x5))))) (h64 ++ ([(S86.mk 0 0 (x0.extract ((w64 (x5 + 1)).toNat) ((w64 ((w64 (x5 + 1)) + (w64 ((bt x0 x5))))).toNat)))] : List S86))) else none) else none) else none) else none) else none))) else none) else none) else (some (h64, true)))
noncomputable def spec_l04Tokens.f (k : Nat) (a0 : ByteArray) : Option ((List S86) × Bool) := (spec_l04Tokens.c3 k a0 0 ([] : List S86))
noncomputable def spec_l04Tokens.e (r : (List S86) × Bool) : Res Ty D := (.tu [.sl 0 none, .sc (.bool r.2)], [], [.rowb .t86 r.1 0])
noncomputable abbrev spec_l04Tokens.g (rec : List Item → St Ty D → R) (k : Nat) := go1 Try.f46 (spec_l04Tokens.ctx k) spec_l04Tokens.sp 0 spec_l04Tokens.en rec
set_option maxRecDepth 100000 in
theorem spec_l04Tokens.t3 (rec : List Item → St Ty D → R) (k : Nat) (x0 : ByteArray) (x5 : Int) (h64 : List S86) : spec_l04Tokens.g rec k (td Try.f46 3) (spec_l04Tokens.s3 x0 x5 h64) =
  bif decide (x5 < (x0.size : Int)) then bif decide (0 ≤ x5) then bif decide (x5 < (x0.size : Int)) then bif decide ((w64 ((bt x0 x5))) > 128) then bif decide ((w64 (x5 + 2)) > (x0.size : Int)) then some (spec_l04Tokens.e (h64, false)) else bif decide (0 ≤ (w64 (x5 + 1))) then bif decide ((w64 (x5 + 1)) < (x0.size : Int)) then bif decide (h64.length + ([(S86.mk (w64 ((bt x0 (w64 (x5 + 1))))) (w64 ((w64 ((bt x0 x5))) - 128)) (⟨#[]⟩ : ByteArray))] : List S86).length ≤ 4398046511104) then rec (td Try.f46 3) (spec_l04Tokens.s3 x0 (w64 (x5 + 2)) (h64 ++ ([(S86.mk (w64 ((bt x0 (w64 (x5 + 1))))) (w64 ((w64 ((bt x0 x5))) - 128)) (⟨#[]⟩ : ByteArray))] : List S86))) else none else none else none else bif decide ((w64 ((w64 (x5 + 1)) + (w64 ((bt x0 x5))))) > (x0.size : Int)) then some (spec_l04Tokens.e (h64, false)) else bif decide (0 ≤ (w64 ((w64 (x5 + 1)) + (w64 ((bt x0 x5)))))) then bif decide ((w64 ((w64 (x5 + 1)) + (w64 ((bt x0 x5))))) ≤ (x0.size : Int)) then bif decide (0 ≤ (w64 (x5 + 1))) then bif decide ((w64 (x5 + 1)) ≤ (w64 ((w64 (x5 + 1)) + (w64 ((bt x0 x5)))))) then bif decide (h64.length + ([(S86.mk 0 0 (x0.extract ((w64 (x5 + 1)).toNat) ((w64 ((w64 (x5 + 1)) + (w64 ((bt x0 x5))))).toNat)))] : List S86).length ≤ 4398046511104) then rec (td Try.f46 3) (spec_l04Tokens.s3 x0 (w64 ((w64 (x5 + 1)) + (w64 ((bt x0 x5))))) (h64 ++ ([(S86.mk 0 0 (x0.extract ((w64 (x5 + 1)).toNat) ((w64 ((w64 (x5 + 1)) + (w64 ((bt x0 x5))))).toNat)))] : List S86))) else none else none else none else none else none else none else none else some (spec_l04Tokens.e (h64, true)) := by kernel_rfl
set_option maxRecDepth 100000 in
theorem spec_l04Tokens.te (rec : List Item → St Ty D → R) (k : Nat) (a0 : ByteArray) : spec_l04Tokens.g rec k [.code (body Try.f46)] (startSt [.sc (.string a0)] []) =
  rec (td Try.f46 3) (spec_l04Tokens.s3 a0 0 ([] : List S86)) := by kernel_rfl
set_option maxRecDepth 100000 in
theorem spec_l04Tokens.ok : ∀ k : Nat, (∀ (x0 : ByteArray) (x5 : Int) (h64 : List S86), goF Try.f46 spec_l04Tokens.ctx spec_l04Tokens.sp 0 spec_l04Tokens.en k (td Try.f46 3) (spec_l04Tokens.s3 x0 x5 h64) = (spec_l04Tokens.c3 k x0 x5 h64).map spec_l04Tokens.e)
  | 0 => fun _ _ _ => rfl
  | k + 1 => by
    have ih := spec_l04Tokens.ok k
    have i3 := ih
    intro x0 x5 h64; rw [spec_l04Tokens.c3]; exact (spec_l04Tokens.t3 _ k x0 x5 h64).trans (cd (cd (cd (cd (cd rfl (cd (cd (cd (i3 _ _ _) rfl) rfl) rfl)) (cd rfl (cd (cd (cd (cd (cd (i3 _ _ _) rfl) rfl) rfl) rfl) rfl))) rfl) rfl) rfl)
set_option maxRecDepth 100000 in
theorem spec_l04Tokens.oke (k : Nat) (a0 : ByteArray) : goF Try.f46 spec_l04Tokens.ctx spec_l04Tokens.sp 0 spec_l04Tokens.en (k + 1) [.code (body Try.f46)] (startSt [.sc (.string a0)] []) = (spec_l04Tokens.f k a0).map spec_l04Tokens.e := by
  have i3 := spec_l04Tokens.ok k
  rw [spec_l04Tokens.f]; exact (spec_l04Tokens.te _ k a0).trans (i3 _ _ _)
theorem spec_l04Tokens.con (k : Nat) (a0 : ByteArray) (r) (h : spec_l04Tokens.f k a0 = some r) : Contract Try.prog kit 46 [.sc (.string a0)] [] (spec_l04Tokens.e r).1 (spec_l04Tokens.e r).2.1 (spec_l04Tokens.e r).2.2 :=
  con_okG kitOk mix (fun k => CtxOk.nil) (spec_l04Tokens.oke k a0) h (by kernel_rfl) (by kernel_rfl) (by kernel_rfl) rfl (by kernel_rfl) rfl rfl
noncomputable def spec_l04Tokens.x (k : Nat) : X := fun ins bs κ => match ins, bs with
  | [.sc (.string a0)], [] => (spec_l04Tokens.f k a0).bind fun r => κ (spec_l04Tokens.e r).1 (spec_l04Tokens.e r).2.1 (spec_l04Tokens.e r).2.2
  | _, _ => none
theorem spec_l04Tokens.xok (k : Nat) : XOk 46 (spec_l04Tokens.x k) := by
  intro ins bs κ res h
  unfold spec_l04Tokens.x at h
  split at h
  · obtain ⟨r, hr, h⟩ := Option.bind_eq_some_iff.1 h
    exact ⟨_, _, _, spec_l04Tokens.con k _ r hr, h⟩
  · cases h

/-! ### spec_PlainOf: function 47 -/
noncomputable def spec_PlainOf.sp : Nat → Option (Spec Ty) := fun r => bif Nat.beq r 3 then some ⟨[(0, .keep), (4, .own .t5), (5, .keep)], []⟩ else bif Nat.beq r 13 then some ⟨[(0, .keep), (4, .own .t5), (5, .keep), (6, .box [.keep, .keep, .keep]), (7, .keep), (45, .box [.keep, .keep, .keep]), (46, .keep), (47, .keep), (48, .keep), (51, .box [.keep, .keep, .keep]), (52, .keep), (53, .keep)], []⟩ else none
noncomputable def spec_PlainOf.en : Option (Spec Ty) := none
noncomputable def spec_PlainOf.s3 (x0 : List S86) (x5 : Int) (h64 : List Int) : St Ty D := ⟨(Env.put (Env.put (Env.put E (some 0) (.row 0 .t86 x0)) (some 4) (.sl 64 none)) (some 5) (.sc (.int .i64 x5))), Heap.put H0 [(64, some (.rowb .t5 h64 0))], 1000⟩
noncomputable def spec_PlainOf.s13 (x0 : List S86) (x5 : Int) (x7 : Int) (x46 : Int) (x47 : Bool) (x48 : Bool) (x52 : ByteArray) (x53 : Bool) (h64 : List Int) (h65_0 : Int) (h65_1 : Int) (h65_2 : ByteArray) : St Ty D := ⟨(Env.put (Env.put (Env.put (Env.put (Env.put (Env.put (Env.put (Env.put (Env.put (Env.put (Env.put (Env.put E (some 0) (.row 0 .t86 x0)) (some 4) (.sl 64 none)) (some 5) (.sc (.int .i64 x5))) (some 6) (.pt 65 0 0)) (some 7) (.sc (.int .i64 x7))) (some 45) (.pt 65 0 1)) (some 46) (.sc (.int .i64 x46))) (some 47) (.sc (.bool x47))) (some 48) (.sc (.bool x48))) (some 51) (.pt 65 0 2)) (some 52) (.sc (.string x52))) (some 53) (.sc (.bool x53))), Heap.put H0 [(64, some (.rowb .t5 h64 0)), (65, some (.box [.sc (.int .i64 h65_0), .sc (.int .i64 h65_1), .sc (.string h65_2)]))], 1000⟩
noncomputable def spec_PlainOf.ctx (k : Nat) : Ctx Ty D := (cons 37 (spec_l01In.x k) (fun _ _ _ _ => none))
mutual
noncomputable def spec_PlainOf.c3 : Nat → (List S86) → Int → (List Int) → Option (ByteArray × Bool)
  | 0, _, _, _ => none
  | k + 1, x0, x5, h64 => (if x5 < (x0.length : Int) then (if 0 ≤ x5 then (if x5 < (x0.length : Int) then (if ((rd_T86 x0 x5).f0) = 0 then ((spec_l01In.f k (((rd_T86 x0 x5).f2).size : Int) 1 31).bind fun t1 => (if t1 = true then (if ((rd_T86 x0 x5).f1) = 0 then (if h64.length + (bytesOf ((rd_T86 x0 x5).f2)).length ≤ 140737488355328 then (if ((h64 ++ (bytesOf ((rd_T86 x0 x5).f2))).length : Int) > 64 then (some ((⟨#[]⟩ : ByteArray), false)) else (spec_PlainOf.c3 k x0 (w64 (x5 + 1)) (h64 ++ (bytesOf ((rd_T86 x0 x5).f2))))) else none) else (some ((⟨#[]⟩ : ByteArray), false))) else (some ((⟨#[]⟩ : ByteArray), false)))) else ((spec_l01In.f k ((rd_T86 x0 x5).f0) 1 (h64.length : Int)).bind fun t2 => (if t2 = true then ((spec_l01In.f k ((rd_T86 x0 x5).f1) 1 31).bind fun t3 => (if t3 = true then (if (seq ((rd_T86 x0 x5).f2) (⟨#[]⟩ : ByteArray)) = true then (spec_PlainOf.c13 k x0 x5 0 ((rd_T86 x0 x5).f1) t3 (!t3) ((rd_T86 x0 x5).f2) (!(seq ((rd_T86 x0 x5).f2) (⟨#[]⟩ : ByteArray))) h64 ((rd_T86 x0 x5).f0) ((rd_T86 x0 x5).f1) ((rd_T86 x0 x5).f2)) else (some ((⟨#[]⟩ : ByteArray), false))) else (some ((⟨#[]⟩ : ByteArray), false)))) else (some ((⟨#[]⟩ : ByteArray), false))))) else none) else none) else (some ((strOfNums h64), true)))
noncomputable def spec_PlainOf.c13 : Nat → (List S86) → Int → Int → Int → Bool → Bool → ByteArray → Bool → (List Int) → Int → Int → ByteArray → Option (ByteArray × Bool)
  | 0, _, _, _, _, _, _, _, _, _, _, _, _ => none
  | k + 1, x0, x5, x7, x46, x47, x48, x52, x53, h64, h65_0, h65_1, h65_2 => (if x7 < h65_1 then (if 0 ≤ (w64 ((h64.length : Int) - h65_0)) then (if (w64 ((h64.length : Int) - h65_0)) < (h64.length : Int) then (if h64.length + ([(rd_T5 h64 (w64 ((h64.length : Int) - h65_0)))] : List Int).length ≤ 140737488355328 then (spec_PlainOf.c13 k x0 x5 (w64 (x7 + 1)) x46 x47 x48 x52 x53 (h64 ++ ([(rd_T5 h64 (w64 ((h64.length : Int) - h65_0)))] : List Int)) h65_0 h65_1 h65_2) else none) else none) else none) else (if (h64.length : Int) > 64 then (some ((⟨#[]⟩ : ByteArray), false)) else (spec_PlainOf.c3 k x0 (w64 (x5 + 1)) h64)))
end
noncomputable def spec_PlainOf.f (k : Nat) (a0 : List S86) : Option (ByteArray × Bool) := (spec_PlainOf.c3 k a0 0 ([] : List Int))
noncomputable def spec_PlainOf.e (r : ByteArray × Bool) : Res Ty D := (.tu [.sc (.string r.1), .sc (.bool r.2)], [], [])
noncomputable abbrev spec_PlainOf.g (rec : List Item → St Ty D → R) (k : Nat) := go1 Try.f47 (spec_PlainOf.ctx k) spec_PlainOf.sp 0 spec_PlainOf.en rec
set_option maxRecDepth 100000 in
theorem spec_PlainOf.t3 (rec : List Item → St Ty D → R) (k : Nat) (x0 : List S86) (x5 : Int) (h64 : List Int) : spec_PlainOf.g rec k (td Try.f47 3) (spec_PlainOf.s3 x0 x5 h64) =
  bif decide (x5 < (x0.length : Int)) then bif decide (0 ≤ x5) then bif decide (x5 < (x0.length : Int)) then bif decide (((rd_T86 x0 x5).f0) = 0) then (spec_l01In.f k (((rd_T86 x0 x5).f2).size : Int) 1 31).bind fun t1 => bif !t1 then some (spec_PlainOf.e ((⟨#[]⟩ : ByteArray), false)) else bif !decide (((rd_T86 x0 x5).f1) = 0) then some (spec_PlainOf.e ((⟨#[]⟩ : ByteArray), false)) else bif decide (h64.length + (bytesOf ((rd_T86 x0 x5).f2)).length ≤ 140737488355328) then bif decide (((h64 ++ (bytesOf ((rd_T86 x0 x5).f2))).length : Int) > 64) then some (spec_PlainOf.e ((⟨#[]⟩ : ByteArray), false)) else rec (td Try.f47 3) (spec_PlainOf.s3 x0 (w64 (x5 + 1)) (h64 ++ (bytesOf ((rd_T86 x0 x5).f2)))) else none else (spec_l01In.f k ((rd_T86 x0 x5).f0) 1 (h64.length : Int)).bind fun t2 => bif !t2 then some (spec_PlainOf.e ((⟨#[]⟩ : ByteArray), false)) else (spec_l01In.f k ((rd_T86 x0 x5).f1) 1 31).bind fun t3 => bif !t3 then some (spec_PlainOf.e ((⟨#[]⟩ : ByteArray), false)) else bif !(seq ((rd_T86 x0 x5).f2) (⟨#[]⟩ : ByteArray)) then some (spec_PlainOf.e ((⟨#[]⟩ : ByteArray), false)) else rec (td Try.f47 13) (spec_PlainOf.s13 x0 x5 0 ((rd_T86 x0 x5).f1) t3 (!t3) ((rd_T86 x0 x5).f2) (!(seq ((rd_T86 x0 x5).f2) (⟨#[]⟩ : ByteArray))) h64 ((rd_T86 x0 x5).f0) ((rd_T86 x0 x5).f1) ((rd_T86 x0 x5).f2)) else none else none else some (spec_PlainOf.e ((strOfNums h64), true)) := by kernel_rfl
set_option maxRecDepth 100000 in
theorem spec_PlainOf.t13 (rec : List Item → St Ty D → R) (k : Nat) (x0 : List S86) (x5 : Int) (x7 : Int) (x46 : Int) (x47 : Bool) (x48 : Bool) (x52 : ByteArray) (x53 : Bool) (h64 : List Int) (h65_0 : Int) (h65_1 : Int) (h65_2 : ByteArray) : spec_PlainOf.g rec k (td Try.f47 13) (spec_PlainOf.s13 x0 x5 x7 x46 x47 x48 x52 x53 h64 h65_0 h65_1 h65_2) =
  bif decide (x7 < h65_1) then bif decide (0 ≤ (w64 ((h64.length : Int) - h65_0))) then bif decide ((w64 ((h64.length : Int) - h65_0)) < (h64.length : Int)) then bif decide (h64.length + ([(rd_T5 h64 (w64 ((h64.length : Int) - h65_0)))] : List Int).length ≤ 140737488355328) then rec (td Try.f47 13) (spec_PlainOf.s13 x0 x5 (w64 (x7 + 1)) x46 x47 x48 x52 x53 (h64 ++ ([(rd_T5 h64 (w64 ((h64.length : Int) - h65_0)))] : List Int)) h65_0 h65_1 h65_2) else none else none else none else bif decide ((h64.length : Int) > 64) then some (spec_PlainOf.e ((⟨#[]⟩ : ByteArray), false)) else rec (td Try.f47 3) (spec_PlainOf.s3 x0 (w64 (x5 + 1)) h64) := by kernel_rfl
set_option maxRecDepth 100000 in
theorem spec_PlainOf.te (rec : List Item → St Ty D → R) (k : Nat) (a0 : List S86) : spec_PlainOf.g rec k [.code (body Try.f47)] (startSt [.row 0 .t86 a0] []) =
  rec (td Try.f47 3) (spec_PlainOf.s3 a0 0 ([] : List Int)) := by kernel_rfl
set_option maxRecDepth 100000 in
theorem spec_PlainOf.ok : ∀ k : Nat, (∀ (x0 : List S86) (x5 : Int) (h64 : List Int), goF Try.f47 spec_PlainOf.ctx spec_PlainOf.sp 0 spec_PlainOf.en k (td Try.f47 3) (spec_PlainOf.s3 x0 x5 h64) = (spec_PlainOf.c3 k x0 x5 h64).map spec_PlainOf.e) ∧ (∀ (x0 : List S86) (x5 : Int) (x7 : Int) (x46 : Int) (x47 : Bool) (x48 : Bool) (x52 : ByteArray) (x53 : Bool) (h64 : List Int) (h65_0 : Int) (h65_1 : Int) (h65_2 : ByteArray), goF Try.f47 spec_PlainOf.ctx spec_PlainOf.sp 0 spec_PlainOf.en k (td Try.f47 13) (spec_PlainOf.s13 x0 x5 x7 x46 x47 x48 x52 x53 h64 h65_0 h65_1 h65_2) = (spec_PlainOf.c13 k x0 x5 x7 x46 x47 x48 x52 x53 h64 h65_0 h65_1 h65_2).map spec_PlainOf.e)
  | 0 => ⟨fun _ _ _ => rfl, fun _ _ _ _ _ _ _ _ _ _ _ _ => rfl⟩
  | k + 1 => by
    have ih := spec_PlainOf.ok k
    obtain ⟨i3, i13⟩ := ih
    refine ⟨?_, ?_⟩
    · intro x0 x5 h64; rw [spec_PlainOf.c3]; exact (spec_PlainOf.t3 _ k x0 x5 h64).trans (cd (cd (cd (cd (bn (fun t1 => (nb rfl (nd rfl (cd (cd rfl (i3 _ _ _)) rfl))))) (bn (fun t2 => (nb rfl (bn (fun t3 => (nb rfl (nb rfl (i13 _ _ _ _ _ _ _ _ _ _ _ _))))))))) rfl) rfl) rfl)
    · intro x0 x5 x7 x46 x47 x48 x52 x53 h64 h65_0 h65_1 h65_2; rw [spec_PlainOf.c13]; exact (spec_PlainOf.t13 _ k x0 x5 x7 x46 x47 x48 x52 x53 h64 h65_0 h65_1 h65_2).trans (cd (cd (cd (cd (i13 _ _ _ _ _ _ _ _ _ _ _ _) rfl) rfl) rfl) (cd rfl (i3 _ _ _)))
set_option maxRecDepth 100000 in
theorem spec_PlainOf.oke (k : Nat) (a0 : List S86) : goF Try.f47 spec_PlainOf.ctx spec_PlainOf.sp 0 spec_PlainOf.en (k + 1) [.code (body Try.f47)] (startSt [.row 0 .t86 a0] []) = (spec_PlainOf.f k a0).map spec_PlainOf.e := by
  obtain ⟨i3, i13⟩ := spec_PlainOf.ok k
  rw [spec_PlainOf.f]; exact (spec_PlainOf.te _ k a0).trans (i3 _ _ _)
theorem spec_PlainOf.con (k : Nat) (a0 : List S86) (r) (h : spec_PlainOf.f k a0 = some r) : Contract Try.prog kit 47 [.row 0 .t86 a0] [] (spec_PlainOf.e r).1 (spec_PlainOf.e r).2.1 (spec_PlainOf.e r).2.2 :=
  con_okG kitOk mix (fun k => (CtxOk.cons (spec_l01In.xok k) CtxOk.nil)) (spec_PlainOf.oke k a0) h (by kernel_rfl) (by kernel_rfl) (by kernel_rfl) rfl (by kernel_rfl) rfl rfl
noncomputable def spec_PlainOf.x (k : Nat) : X := fun ins bs κ => match ins, bs with
  | [.row 0 .t86 a0], [] => (spec_PlainOf.f k a0).bind fun r => κ (spec_PlainOf.e r).1 (spec_PlainOf.e r).2.1 (spec_PlainOf.e r).2.2
  | _, _ => none
theorem spec_PlainOf.xok (k : Nat) : XOk 47 (spec_PlainOf.x k) := by
  intro ins bs κ res h
  unfold spec_PlainOf.x at h
  split at h
  · obtain ⟨r, hr, h⟩ := Option.bind_eq_some_iff.1 h
    exact ⟨_, _, _, spec_PlainOf.con k _ r hr, h⟩
  · cases h

/-! ### spec_l04Match: function 83 -/
noncomputable def spec_l04Match.sp : Nat → Option (Spec Ty) := fun r => bif Nat.beq r 2 then some ⟨[(0, .keep), (1, .keep), (2, .keep), (7, .keep)], []⟩ else none
noncomputable def spec_l04Match.en : Option (Spec Ty) := none
noncomputable def spec_l04Match.s2 (x0 : ByteArray) (x1 : Int) (x2 : Int) (x7 : Int) : St Ty D := ⟨(Env.put (Env.put (Env.put (Env.put E (some 0) (.sc (.string x0))) (some 1) (.sc (.int .i64 x1))) (some 2) (.sc (.int .i64 x2))) (some 7) (.sc (.int .i64 x7))), H0, 1000⟩
noncomputable def spec_l04Match.ctx (k : Nat) : Ctx Ty D := (fun _ _ _ _ => none)
noncomputable def spec_l04Match.c2 : Nat → ByteArray → Int → Int → Int → Option (Int)
  | 0, _, _, _, _ => none
  | k + 1, x0, x1, x2, x7 => (if x7 < 31 then (if (w64 (x2 + x7)) < (x0.size : Int) then (if 0 ≤ (w64 (x1 + x7)) then (if (w64 (x1 + x7)) < (x0.size : Int) then (if 0 ≤ (w64 (x2 + x7)) then (if (w64 (x2 + x7)) < (x0.size : Int) then (if (bt x0 (w64 (x1 + x7))) = (bt x0 (w64 (x2 + x7))) then (spec_l04Match.c2 k x0 x1 x2 (w64 (x7 + 1))) else (some (x7))) else none) else none) else none) else none) else (some (x7))) else (some (x7)))
noncomputable def spec_l04Match.f (k : Nat) (a0 : ByteArray) (a1 : Int) (a2 : Int) : Option (Int) := (spec_l04Match.c2 k a0 a1 a2 0)
noncomputable def spec_l04Match.e (r : Int) : Res Ty D := (.sc (.int .i64 r), [], [])
noncomputable abbrev spec_l04Match.g (rec : List Item → St Ty D → R) (k : Nat) := go1 Try.f83 (spec_l04Match.ctx k) spec_l04Match.sp 0 spec_l04Match.en rec
set_option maxRecDepth 100000 in
theorem spec_l04Match.t2 (rec : List Item → St Ty D → R) (k : Nat) (x0 : ByteArray) (x1 : Int) (x2 : Int) (x7 : Int) : spec_l04Match.g rec k (td Try.f83 2) (spec_l04Match.s2 x0 x1 x2 x7) =
  bif decide (x7 < 31) then bif decide ((w64 (x2 + x7)) < (x0.size : Int)) then bif decide (0 ≤ (w64 (x1 + x7))) then bif decide ((w64 (x1 + x7)) < (x0.size : Int)) then bif decide (0 ≤ (w64 (x2 + x7))) then bif decide ((w64 (x2 + x7)) < (x0.size : Int)) then bif decide ((bt x0 (w64 (x1 + x7))) = (bt x0 (w64 (x2 + x7)))) then rec (td Try.f83 2) (spec_l04Match.s2 x0 x1 x2 (w64 (x7 + 1))) else some (spec_l04Match.e (x7)) else none else none else none else none else some (spec_l04Match.e (x7)) else some (spec_l04Match.e (x7)) := by kernel_rfl
set_option maxRecDepth 100000 in
theorem spec_l04Match.te (rec : List Item → St Ty D → R) (k : Nat) (a0 : ByteArray) (a1 : Int) (a2 : Int) : spec_l04Match.g rec k [.code (body Try.f83)] (startSt [.sc (.string a0), .sc (.int .i64 a1), .sc (.int .i64 a2)] []) =
  rec (td Try.f83 2) (spec_l04Match.s2 a0 a1 a2 0) := by kernel_rfl
set_option maxRecDepth 100000 in
theorem spec_l04Match.ok : ∀ k : Nat, (∀ (x0 : ByteArray) (x1 : Int) (x2 : Int) (x7 : Int), goF Try.f83 spec_l04Match.ctx spec_l04Match.sp 0 spec_l04Match.en k (td Try.f83 2) (spec_l04Match.s2 x0 x1 x2 x7) = (spec_l04Match.c2 k x0 x1 x2 x7).map spec_l04Match.e)
  | 0 => fun _ _ _ _ => rfl
  | k + 1 => by
    have ih := spec_l04Match.ok k
    have i2 := ih
    intro x0 x1 x2 x7; rw [spec_l04Match.c2]; exact (spec_l04Match.t2 _ k x0 x1 x2 x7).trans (cd (cd (cd (cd (cd (cd (cd (i2 _ _ _ _) rfl) rfl) rfl) rfl) rfl) rfl) rfl)
set_option maxRecDepth 100000 in
theorem spec_l04Match.oke (k : Nat) (a0 : ByteArray) (a1 : Int) (a2 : Int) : goF Try.f83 spec_l04Match.ctx spec_l04Match.sp 0 spec_l04Match.en (k + 1) [.code (body Try.f83)] (startSt [.sc (.string a0), .sc (.int .i64 a1), .sc (.int .i64 a2)] []) = (spec_l04Match.f k a0 a1 a2).map spec_l04Match.e := by
  have i2 := spec_l04Match.ok k
  rw [spec_l04Match.f]; exact (spec_l04Match.te _ k a0 a1 a2).trans (i2 _ _ _ _)
theorem spec_l04Match.con (k : Nat) (a0 : ByteArray) (a1 : Int) (a2 : Int) (r) (h : spec_l04Match.f k a0 a1 a2 = some r) : Contract Try.prog kit 83 [.sc (.string a0), .sc (.int .i64 a1), .sc (.int .i64 a2)] [] (spec_l04Match.e r).1 (spec_l04Match.e r).2.1 (spec_l04Match.e r).2.2 :=
  con_okG kitOk mix (fun k => CtxOk.nil) (spec_l04Match.oke k a0 a1 a2) h (by kernel_rfl) (by kernel_rfl) (by kernel_rfl) rfl (by kernel_rfl) rfl rfl
noncomputable def spec_l04Match.x (k : Nat) : X := fun ins bs κ => match ins, bs with
  | [.sc (.string a0), .sc (.int .i64 a1), .sc (.int .i64 a2)], [] => (spec_l04Match.f k a0 a1 a2).bind fun r => κ (spec_l04Match.e r).1 (spec_l04Match.e r).2.1 (spec_l04Match.e r).2.2
  | _, _ => none
theorem spec_l04Match.xok (k : Nat) : XOk 83 (spec_l04Match.x k) := by
  intro ins bs κ res h
  unfold spec_l04Match.x at h
  split at h
  · obtain ⟨r, hr, h⟩ := Option.bind_eq_some_iff.1 h
    exact ⟨_, _, _, spec_l04Match.con k _ _ _ r hr, h⟩
  · cases h

/-! ### spec_TokensOf: function 68 -/
noncomputable def spec_TokensOf.sp : Nat → Option (Spec Ty) := fun r => bif Nat.beq r 5 then some ⟨[(0, .keep), (3, .own .t86), (4, .keep)], []⟩ else bif Nat.beq r 9 then some ⟨[(0, .keep), (3, .own .t86), (4, .keep), (5, .keep), (6, .keep), (7, .keep)], []⟩ else none
noncomputable def spec_TokensOf.en : Option (Spec Ty) := some ⟨[(2, .own .t86)], []⟩
noncomputable def spec_TokensOf.s5 (x0 : ByteArray) (x4 : Int) (h64 : List S86) : St Ty D := ⟨(Env.put (Env.put (Env.put E (some 0) (.sc (.string x0))) (some 3) (.sl 64 none)) (some 4) (.sc (.int .i64 x4))), Heap.put H0 [(64, some (.rowb .t86 h64 0))], 1000⟩
noncomputable def spec_TokensOf.s9 (x0 : ByteArray) (x4 : Int) (x5 : Int) (x6 : Int) (x7 : Int) (h64 : List S86) : St Ty D := ⟨(Env.put (Env.put (Env.put (Env.put (Env.put (Env.put E (some 0) (.sc (.string x0))) (some 3) (.sl 64 none)) (some 4) (.sc (.int .i64 x4))) (some 5) (.sc (.int .i64 x5))) (some 6) (.sc (.int .i64 x6))) (some 7) (.sc (.int .i64 x7))), Heap.put H0 [(64, some (.rowb .t86 h64 0))], 1000⟩
noncomputable def spec_TokensOf.ctx (k : Nat) : Ctx Ty D := (cons 83 (spec_l04Match.x k) (fun _ _ _ _ => none))
mutual
noncomputable def spec_TokensOf.c5 : Nat → ByteArray → Int → (List S86) → Option ((List S86))
  | 0, _, _, _ => none
  | k + 1, x0, x4, h64 => (if x4 < (x0.size : Int) then (spec_TokensOf.c9 k x0 x4 0 0 (w64 (x4 - 1)) h64) else (some (h64)))
noncomputable def spec_TokensOf.c9 : Nat → ByteArray → Int → Int → Int → Int → (List S86) → Option ((List S86))
  | 0, _, _, _, _, _, _ => none
  | k + 1, x0, x4, x5, x6, x7, h64 => (if x7 ≥ 0 then ((spec_l04Match.f k x0 x7 x4).bind fun t1 => (if t1 ≥ 4 then (if t1 > x5 then (spec_TokensOf.c9 k x0 x4 t1 (w64 (x4 - x7)) (w64 (x7 - 1)) h64) else (spec_TokensOf.c9 k x0 x4 x5 x6 (w64 (x7 - 1)) h64)) else (spec_TokensOf.c9 k x0 x4 x5 x6 (w64 (x7 - 1)) h64))) else (if x5 > 0 then (if h64.length + ([(S86.mk x6 x5 (⟨#[]⟩ : ByteArray))] : List S86).length ≤ 4398046511104 then (spec_TokensOf.c5 k x0 (w64 (x4 + x5)) (h64 ++ ([(S86.mk x6 x5 (⟨#[]⟩ : ByteArray))] : List S86))) else none) else (if (w64 ((h64.length : Int) - 1)) ≥ 0 then (if 0 ≤ (w64 ((h64.length : Int) - 1)) then (if (w64 ((h64.length : Int) - 1)) < (h64.length : Int) then (if ((rd_T86 h64 (w64 ((h64.length : Int) - 1))).f0) = 0 then (if 0 ≤ (w64 ((h64.length : Int) - 1)) then (if (w64 ((h64.length : Int) - 1)) < (h64.length : Int) then (if (((rd_T86 h64 (w64 ((h64.length : Int) - 1))).f2).size : Int) < 31 then (if 0 ≤ (w64 ((h64.length : Int) - 1)) then (if (w64 ((h64.length : Int) - 1)) < (h64.length : Int) then (if 0 ≤ (w64 (x4 + 1)) then (if (w64 (x4 + 1)) ≤ (x0.size : Int) then (if 0 ≤ x4 then (if x4 ≤ (w64 (x4 + 1)) then (if ((rd_T86 h64 (w64 ((h64.length : Int) - 1))).f2).size + (x0.extract x4.toNat ((w64 (x4 + 1)).toNat)).size ≤ 9223372036854775807 then (if 0 ≤ (w64 ((h64.length : Int) - 1)) then (if (w64 ((h64.length : Int) - 1)) < (h64.length : Int) then (spec_TokensOf.c5 k x0 (w64 (x4 + 1)) (h64.set ((w64 ((h64.length : Int) - 1)).toNat) (S86.mk ((rd_T86 h64 (w64 ((h64.length : Int) - 1))).f0) ((rd_T86 h64 (w64 ((h64.length : Int) - 1))).f1) (((rd_T86 h64 (w64 ((h64.length : Int) - 1))).f2) ++ (x0.extract x4.toNat ((w64 (x4 + 1)).toNat)))))) else none) else none) else none) else none) else none) else none) else none) else none) else none) else (if 0 ≤ (w64 (x4 + 1)) then (if (w64 (x4 + 1)) ≤ (x0.size : Int) then (if 0 ≤ x4 then (if x4 ≤ (w64 (x4 + 1)) then (if h64.length + ([(S86.mk 0 0 (x0.extract x4.toNat ((w64 (x4 + 1)).toNat)))] : List S86).length ≤ 4398046511104 then (spec_TokensOf.c5 k x0 (w64 (x4 + 1)) (h64 ++ ([(S86.mk 0 0 (x0.extract x4.toNat ((w64 (x4 + 1)).toNat)))] : List S86))) else none) else none) else none) else none) else none)) else none) else none) else (if 0 ≤ (w64 (x4 + 1)) then (if (w64 (x4 + 1)) ≤ (x0.size : Int) then (if 0 ≤ x4 then (if x4 ≤ (w64 (x4 + 1)) then (if h64.length + ([(S86.mk 0 0 (x0.extract x4.toNat ((w64 (x4 + 1)).toNat)))] : List S86).length ≤ 4398046511104 then (spec_TokensOf.c5 k x0 (w64 (x4 + 1)) (h64 ++ ([(S86.mk 0 0 (x0.extract x4.toNat ((w64 (x4 + 1)).toNat)))] : List S86))) else none) else none) else none) else none) else none)) else none) else none) else (if 0 ≤ (w64 (x4 + 1)) then (if (w64 (x4 + 1)) ≤ (x0.size : Int) then (if 0 ≤ x4 then (if x4 ≤ (w64 (x4 + 1)) then (if h64.length + ([(S86.mk 0 0 (x0.extract x4.toNat ((w64 (x4 + 1)).toNat)))] : List S86).length ≤ 4398046511104 then (spec_TokensOf.c5 k x0 (w64 (x4 + 1)) (h64 ++ ([(S86.mk 0 0 (x0.extract x4.toNat ((w64 (x4 + 1)).toNat)))] : List S86))) else none) else none) else none) else none) else none))))
end
noncomputable def spec_TokensOf.f (k : Nat) (a0 : ByteArray) : Option ((List S86)) := (if (a0.size : Int) > 64 then (some (([] : List S86))) else (spec_TokensOf.c5 k a0 0 ([] : List S86)))
noncomputable def spec_TokensOf.e (r : (List S86)) : Res Ty D := (.sl 0 none, [], [.rowb .t86 r 0])
noncomputable abbrev spec_TokensOf.g (rec : List Item → St Ty D → R) (k : Nat) := go1 Try.f68 (spec_TokensOf.ctx k) spec_TokensOf.sp 0 spec_TokensOf.en rec
set_option maxRecDepth 100000 in
theorem spec_TokensOf.t5 (rec : List Item → St Ty D → R) (k : Nat) (x0 : ByteArray) (x4 : Int) (h64 : List S86) : spec_TokensOf.g rec k (td Try.f68 5) (spec_TokensOf.s5 x0 x4 h64) =
  bif decide (x4 < (x0.size : Int)) then rec (td Try.f68 9) (spec_TokensOf.s9 x0 x4 0 0 (w64 (x4 - 1)) h64) else some (spec_TokensOf.e (h64)) := by kernel_rfl
set_option maxRecDepth 100000 in
theorem spec_TokensOf.t9 (rec : List Item → St Ty D → R) (k : Nat) (x0 : ByteArray) (x4 : Int) (x5 : Int) (x6 : Int) (x7 : Int) (h64 : List S86) : spec_TokensOf.g rec k (td Try.f68 9) (spec_TokensOf.s9 x0 x4 x5 x6 x7 h64) =
  bif decide (x7 ≥ 0) then (spec_l04Match.f k x0 x7 x4).bind fun t1 => bif decide (t1 ≥ 4) then bif decide (t1 > x5) then rec (td Try.f68 9) (spec_TokensOf.s9 x0 x4 t1 (w64 (x4 - x7)) (w64 (x7 - 1)) h64) else rec (td Try.f68 9) (spec_TokensOf.s9 x0 x4 x5 x6 (w64 (x7 - 1)) h64) else rec (td Try.f68 9) (spec_TokensOf.s9 x0 x4 x5 x6 (w64 (x7 - 1)) h64) else bif decide (x5 > 0) then bif decide (h64.length + ([(S86.mk x6 x5 (⟨#[]⟩ : ByteArray))] : List S86).length ≤ 4398046511104) then rec (td Try.f68 5) (spec_TokensOf.s5 x0 (w64 (x4 + x5)) (h64 ++ ([(S86.mk x6 x5 (⟨#[]⟩ : ByteArray))] : List S86))) else none else bif decide ((w64 ((h64.length : Int) - 1)) ≥ 0) then bif decide (0 ≤ (w64 ((h64.length : Int) - 1))) then bif decide ((w64 ((h64.length : Int) - 1)) < (h64.length : Int)) then bif decide (((rd_T86 h64 (w64 ((h64.length : Int) - 1))).f0) = 0) then bif decide (0 ≤ (w64 ((h64.length : Int) - 1))) then bif decide ((w64 ((h64.length : Int) - 1)) < (h64.length : Int)) then bif decide ((((rd_T86 h64 (w64 ((h64.length : Int) - 1))).f2).size : Int) < 31) then bif decide (0 ≤ (w64 ((h64.length : Int) - 1))) then bif decide ((w64 ((h64.length : Int) - 1)) < (h64.length : Int)) then bif decide (0 ≤ (w64 (x4 + 1))) then bif decide ((w64 (x4 + 1)) ≤ (x0.size : Int)) then bif decide (0 ≤ x4) then bif decide (x4 ≤ (w64 (x4 + 1))) then bif decide (((rd_T86 h64 (w64 ((h64.length : Int) - 1))).f2).size + (x0.extract x4.toNat ((w64 (x4 + 1)).toNat)).size ≤ 9223372036854775807) then bif decide (0 ≤ (w64 ((h64.length : Int) - 1))) then bif decide ((w64 ((h64.length : Int) - 1)) < (h64.length : Int)) then rec (td Try.f68 5) (spec_TokensOf.s5 x0 (w64 (x4 + 1)) (h64.set ((w64 ((h64.length : Int) - 1)).toNat) (S86.mk ((rd_T86 h64 (w64 ((h64.length : Int) - 1))).f0) ((rd_T86 h64 (w64 ((h64.length : Int) - 1))).f1) (((rd_T86 h64 (w64 ((h64.length : Int) - 1))).f2) ++ (x0.extract x4.toNat ((w64 (x4 + 1)).toNat)))))) else none else none else none else none else none else none else none else none else none else bif decide (0 ≤ (w64 (x4 + 1))) then bif decide ((w64 (x4 + 1)) ≤ (x0.size : Int)) then bif decide (0 ≤ x4) then bif decide (x4 ≤ (w64 (x4 + 1))) then bif decide (h64.length + ([(S86.mk 0 0 (x0.extract x4.toNat ((w64 (x4 + 1)).toNat)))] : List S86).length ≤ 4398046511104) then rec (td Try.f68 5) (spec_TokensOf.s5 x0 (w64 (x4 + 1)) (h64 ++ ([(S86.mk 0 0 (x0.extract x4.toNat ((w64 (x4 + 1)).toNat)))] : List S86))) else none else none else none else none else none else none else none else bif decide (0 ≤ (w64 (x4 + 1))) then bif decide ((w64 (x4 + 1)) ≤ (x0.size : Int)) then bif decide (0 ≤ x4) then bif decide (x4 ≤ (w64 (x4 + 1))) then bif decide (h64.length + ([(S86.mk 0 0 (x0.extract x4.toNat ((w64 (x4 + 1)).toNat)))] : List S86).length ≤ 4398046511104) then rec (td Try.f68 5) (spec_TokensOf.s5 x0 (w64 (x4 + 1)) (h64 ++ ([(S86.mk 0 0 (x0.extract x4.toNat ((w64 (x4 + 1)).toNat)))] : List S86))) else none else none else none else none else none else none else none else bif decide (0 ≤ (w64 (x4 + 1))) then bif decide ((w64 (x4 + 1)) ≤ (x0.size : Int)) then bif decide (0 ≤ x4) then bif decide (x4 ≤ (w64 (x4 + 1))) then bif decide (h64.length + ([(S86.mk 0 0 (x0.extract x4.toNat ((w64 (x4 + 1)).toNat)))] : List S86).length ≤ 4398046511104) then rec (td Try.f68 5) (spec_TokensOf.s5 x0 (w64 (x4 + 1)) (h64 ++ ([(S86.mk 0 0 (x0.extract x4.toNat ((w64 (x4 + 1)).toNat)))] : List S86))) else none else none else none else none else none := by kernel_rfl
set_option maxRecDepth 100000 in
theorem spec_TokensOf.te (rec : List Item → St Ty D → R) (k : Nat) (a0 : ByteArray) : spec_TokensOf.g rec k [.code (body Try.f68)] (startSt [.sc (.string a0)] []) =
  bif decide ((a0.size : Int) > 64) then some (spec_TokensOf.e (([] : List S86))) else rec (td Try.f68 5) (spec_TokensOf.s5 a0 0 ([] : List S86)) := by kernel_rfl
set_option maxRecDepth 100000 in
theorem spec_TokensOf.ok : ∀ k : Nat, (∀ (x0 : ByteArray) (x4 : Int) (h64 : List S86), goF Try.f68 spec_TokensOf.ctx spec_TokensOf.sp 0 spec_TokensOf.en k (td Try.f68 5) (spec_TokensOf.s5 x0 x4 h64) = (spec_TokensOf.c5 k x0 x4 h64).map spec_TokensOf.e) ∧ (∀ (x0 : ByteArray) (x4 : Int) (x5 : Int) (x6 : Int) (x7 : Int) (h64 : List S86), goF Try.f68 spec_TokensOf.ctx spec_TokensOf.sp 0 spec_TokensOf.en k (td Try.f68 9) (spec_TokensOf.s9 x0 x4 x5 x6 x7 h64) = (spec_TokensOf.c9 k x0 x4 x5 x6 x7 h64).map spec_TokensOf.e)
  | 0 => ⟨fun _ _ _ => rfl, fun _ _ _ _ _ _ => rfl⟩
  | k + 1 => by
    have ih := spec_TokensOf.ok k
    obtain ⟨i5, i9⟩ := ih
    refine ⟨?_, ?_⟩
    · intro x0 x4 h64; rw [spec_TokensOf.c5]; exact (spec_TokensOf.t5 _ k x0 x4 h64).trans (cd (i9 _ _ _ _ _ _) rfl)
    · intro x0 x4 x5 x6 x7 h64; rw [spec_TokensOf.c9]; exact (spec_TokensOf.t9 _ k x0 x4 x5 x6 x7 h64).trans (cd (bn (fun t1 => (cd (cd (i9 _ _ _ _ _ _) (i9 _ _ _ _ _ _)) (i9 _ _ _ _ _ _)))) (cd (cd (i5 _ _ _) rfl) (cd (cd (cd (cd (cd (cd (cd (cd (cd (cd (cd (cd (cd (cd (cd (cd (i5 _ _ _) rfl) rfl) rfl) rfl) rfl) rfl) rfl) rfl) rfl) (cd (cd (cd (cd (cd (i5 _ _ _) rfl) rfl) rfl) rfl) rfl)) rfl) rfl) (cd (cd (cd (cd (cd (i5 _ _ _) rfl) rfl) rfl) rfl) rfl)) rfl) rfl) (cd (cd (cd (cd (cd (i5 _ _ _) rfl) rfl) rfl) rfl) rfl))))
set_option maxRecDepth 100000 in
theorem spec_TokensOf.oke (k : Nat) (a0 : ByteArray) : goF Try.f68 spec_TokensOf.ctx spec_TokensOf.sp 0 spec_TokensOf.en (k + 1) [.code (body Try.f68)] (startSt [.sc (.string a0)] []) = (spec_TokensOf.f k a0).map spec_TokensOf.e := by
  obtain ⟨i5, i9⟩ := spec_TokensOf.ok k
  rw [spec_TokensOf.f]; exact (spec_TokensOf.te _ k a0).trans (cd rfl (i5 _ _ _))
theorem spec_TokensOf.con (k : Nat) (a0 : ByteArray) (r) (h : spec_TokensOf.f k a0 = some r) : Contract Try.prog kit 68 [.sc (.string a0)] [] (spec_TokensOf.e r).1 (spec_TokensOf.e r).2.1 (spec_TokensOf.e r).2.2 :=
  con_okG kitOk mix (fun k => (CtxOk.cons (spec_l04Match.xok k) CtxOk.nil)) (spec_TokensOf.oke k a0) h (by kernel_rfl) (by kernel_rfl) (by kernel_rfl) rfl (by kernel_rfl) rfl rfl
noncomputable def spec_TokensOf.x (k : Nat) : X := fun ins bs κ => match ins, bs with
  | [.sc (.string a0)], [] => (spec_TokensOf.f k a0).bind fun r => κ (spec_TokensOf.e r).1 (spec_TokensOf.e r).2.1 (spec_TokensOf.e r).2.2
  | _, _ => none
theorem spec_TokensOf.xok (k : Nat) : XOk 68 (spec_TokensOf.x k) := by
  intro ins bs κ res h
  unfold spec_TokensOf.x at h
  split at h
  · obtain ⟨r, hr, h⟩ := Option.bind_eq_some_iff.1 h
    exact ⟨_, _, _, spec_TokensOf.con k _ r hr, h⟩
  · cases h
end Go.Proofs.Ytbbfkodckpfjcaa.M2

/- Plain runs of functions: each is a plain Lean function, and keeps its contract. Written by a program of this session. -/
namespace Go.Proofs.Ytbbfkodckpfjcaa.M2
open Go Go.Proofs.Ytbbfkodckpfjcaa.PK
set_option linter.unusedVariables false
set_option linter.unusedSimpArgs false
set_option maxHeartbeats 4000000
/-! ### spec_PackText: function 48 -/
noncomputable def spec_PackText.sp : Nat → Option (Spec Ty) := fun r => bif Nat.beq r 6 then some ⟨[(0, .keep), (4, .own .t86), (5, .keep), (6, .keep)], []⟩ else none
noncomputable def spec_PackText.en : Option (Spec Ty) := none
noncomputable def spec_PackText.s6 (x0 : ByteArray) (x5 : ByteArray) (x6 : Int) (h64 : List S86) : St Ty D := ⟨(Env.put (Env.put (Env.put (Env.put E (some 0) (.sc (.string x0))) (some 4) (.sl 64 none)) (some 5) (.sc (.string x5))) (some 6) (.sc (.int .i64 x6))), Heap.put H0 [(64, some (.rowb .t86 h64 0))], 1000⟩
noncomputable def spec_PackText.ctx (k : Nat) : Ctx Ty D := (cons 68 (spec_TokensOf.x k) (fun _ _ _ _ => none))
noncomputable def spec_PackText.c6 : Nat → ByteArray → ByteArray → Int → (List S86) → Option (ByteArray × Bool)
  | 0, _, _, _, _ => none
  | k + 1, x0, x5, x6, h64 => (if x6 < (h64.length : Int) then (if 0 ≤ x6 then (if x6 < (h64.length : Int) then (if ((rd_T86 h64 x6).f0) = 0 then (if x5.size + (strOfNums ([(Go.IntKind.wrap .u8 ((((rd_T86 h64 x6).f2).size : Int)))] : List Int)).size ≤ 9223372036854775807 then (if (x5 ++ (strOfNums ([(Go.IntKind.wrap .u8 ((((rd_T86 h64 x6).f2).size : Int)))] : List Int))).size + ((rd_T86 h64 x6).f2).size ≤ 9223372036854775807 then (spec_PackText.c6 k x0 ((x5 ++ (strOfNums ([(Go.IntKind.wrap .u8 ((((rd_T86 h64 x6).f2).size : Int)))] : List Int))) ++ ((rd_T86 h64 x6).f2)) (w64 (x6 + 1)) h64) else none) else none) else (if x5.size + (strOfNums ([(Go.IntKind.wrap .u8 ((w64 (128 + ((rd_T86 h64 x6).f1))))), (Go.IntKind.wrap .u8 ((rd_T86 h64 x6).f0))] : List Int)).size ≤ 9223372036854775807 then (spec_PackText.c6 k x0 (x5 ++ (strOfNums ([(Go.IntKind.wrap .u8 ((w64 (128 + ((rd_T86 h64 x6).f1))))), (Go.IntKind.wrap .u8 ((rd_T86 h64 x6).f0))] : List Int))) (w64 (x6 + 1)) h64) else none)) else none) else none) else (if (w64 ((x0.size : Int) + 1)) ≤ (x5.size : Int) then (if (⟨#[114]⟩ : ByteArray).size + x0.size ≤ 9223372036854775807 then (some (((⟨#[114]⟩ : ByteArray) ++ x0), true)) else none) else (some (x5, true))))
noncomputable def spec_PackText.f (k : Nat) (a0 : ByteArray) : Option (ByteArray × Bool) := (if (a0.size : Int) > 64 then (some ((⟨#[]⟩ : ByteArray), false)) else ((spec_TokensOf.f k a0).bind fun t1 => (spec_PackText.c6 k a0 (⟨#[122]⟩ : ByteArray) 0 t1)))
noncomputable def spec_PackText.e (r : ByteArray × Bool) : Res Ty D := (.tu [.sc (.string r.1), .sc (.bool r.2)], [], [])
noncomputable abbrev spec_PackText.g (rec : List Item → St Ty D → R) (k : Nat) := go1 Try.f48 (spec_PackText.ctx k) spec_PackText.sp 0 spec_PackText.en rec
set_option maxRecDepth 100000 in
theorem spec_PackText.t6 (rec : List Item → St Ty D → R) (k : Nat) (x0 : ByteArray) (x5 : ByteArray) (x6 : Int) (h64 : List S86) : spec_PackText.g rec k (td Try.f48 6) (spec_PackText.s6 x0 x5 x6 h64) =
  bif decide (x6 < (h64.length : Int)) then bif decide (0 ≤ x6) then bif decide (x6 < (h64.length : Int)) then bif decide (((rd_T86 h64 x6).f0) = 0) then bif decide (x5.size + (strOfNums ([(Go.IntKind.wrap .u8 ((((rd_T86 h64 x6).f2).size : Int)))] : List Int)).size ≤ 9223372036854775807) then bif decide ((x5 ++ (strOfNums ([(Go.IntKind.wrap .u8 ((((rd_T86 h64 x6).f2).size : Int)))] : List Int))).size + ((rd_T86 h64 x6).f2).size ≤ 9223372036854775807) then rec (td Try.f48 6) (spec_PackText.s6 x0 ((x5 ++ (strOfNums ([(Go.IntKind.wrap .u8 ((((rd_T86 h64 x6).f2).size : Int)))] : List Int))) ++ ((rd_T86 h64 x6).f2)) (w64 (x6 + 1)) h64) else none else none else bif decide (x5.size + (strOfNums ([(Go.IntKind.wrap .u8 ((w64 (128 + ((rd_T86 h64 x6).f1))))), (Go.IntKind.wrap .u8 ((rd_T86 h64 x6).f0))] : List Int)).size ≤ 9223372036854775807) then rec (td Try.f48 6) (spec_PackText.s6 x0 (x5 ++ (strOfNums ([(Go.IntKind.wrap .u8 ((w64 (128 + ((rd_T86 h64 x6).f1))))), (Go.IntKind.wrap .u8 ((rd_T86 h64 x6).f0))] : List Int))) (w64 (x6 + 1)) h64) else none else none else none else bif decide ((w64 ((x0.size : Int) + 1)) ≤ (x5.size : Int)) then bif decide ((⟨#[114]⟩ : ByteArray).size + x0.size ≤ 9223372036854775807) then some (spec_PackText.e (((⟨#[114]⟩ : ByteArray) ++ x0), true)) else none else some (spec_PackText.e (x5, true)) := by kernel_rfl
set_option maxRecDepth 100000 in
theorem spec_PackText.te (rec : List Item → St Ty D → R) (k : Nat) (a0 : ByteArray) : spec_PackText.g rec k [.code (body Try.f48)] (startSt [.sc (.string a0)] []) =
  bif decide ((a0.size : Int) > 64) then some (spec_PackText.e ((⟨#[]⟩ : ByteArray), false)) else (spec_TokensOf.f k a0).bind fun t1 => rec (td Try.f48 6) (spec_PackText.s6 a0 (⟨#[122]⟩ : ByteArray) 0 t1) := by kernel_rfl
set_option maxRecDepth 100000 in
theorem spec_PackText.ok : ∀ k : Nat, (∀ (x0 : ByteArray) (x5 : ByteArray) (x6 : Int) (h64 : List S86), goF Try.f48 spec_PackText.ctx spec_PackText.sp 0 spec_PackText.en k (td Try.f48 6) (spec_PackText.s6 x0 x5 x6 h64) = (spec_PackText.c6 k x0 x5 x6 h64).map spec_PackText.e)
  | 0 => fun _ _ _ _ => rfl
  | k + 1 => by
    have ih := spec_PackText.ok k
    have i6 := ih
    intro x0 x5 x6 h64; rw [spec_PackText.c6]; exact (spec_PackText.t6 _ k x0 x5 x6 h64).trans (cd (cd (cd (cd (cd (cd (i6 _ _ _ _) rfl) rfl) (cd (i6 _ _ _ _) rfl)) rfl) rfl) (cd (cd rfl rfl) rfl))
set_option maxRecDepth 100000 in
theorem spec_PackText.oke (k : Nat) (a0 : ByteArray) : goF Try.f48 spec_PackText.ctx spec_PackText.sp 0 spec_PackText.en (k + 1) [.code (body Try.f48)] (startSt [.sc (.string a0)] []) = (spec_PackText.f k a0).map spec_PackText.e := by
  have i6 := spec_PackText.ok k
  rw [spec_PackText.f]; exact (spec_PackText.te _ k a0).trans (cd rfl (bn (fun t1 => (i6 _ _ _ _))))
theorem spec_PackText.con (k : Nat) (a0 : ByteArray) (r) (h : spec_PackText.f k a0 = some r) : Contract Try.prog kit 48 [.sc (.string a0)] [] (spec_PackText.e r).1 (spec_PackText.e r).2.1 (spec_PackText.e r).2.2 :=
  con_okG kitOk mix (fun k => (CtxOk.cons (spec_TokensOf.xok k) CtxOk.nil)) (spec_PackText.oke k a0) h (by kernel_rfl) (by kernel_rfl) (by kernel_rfl) rfl (by kernel_rfl) rfl rfl
noncomputable def spec_PackText.x (k : Nat) : X := fun ins bs κ => match ins, bs with
  | [.sc (.string a0)], [] => (spec_PackText.f k a0).bind fun r => κ (spec_PackText.e r).1 (spec_PackText.e r).2.1 (spec_PackText.e r).2.2
  | _, _ => none
theorem spec_PackText.xok (k : Nat) : XOk 48 (spec_PackText.x k) := by
  intro ins bs κ res h
  unfold spec_PackText.x at h
  split at h
  · obtain ⟨r, hr, h⟩ := Option.bind_eq_some_iff.1 h
    exact ⟨_, _, _, spec_PackText.con k _ r hr, h⟩
  · cases h

/-! ### spec_UnpackText: function 32 -/
noncomputable def spec_UnpackText.sp : Nat → Option (Spec Ty) := fun r => none
noncomputable def spec_UnpackText.en : Option (Spec Ty) := none
noncomputable def spec_UnpackText.ctx (k : Nat) : Ctx Ty D := (cons 46 (spec_l04Tokens.x k) (cons 47 (spec_PlainOf.x k) (cons 48 (spec_PackText.x k) (fun _ _ _ _ => none))))
noncomputable def spec_UnpackText.f (k : Nat) (a0 : ByteArray) : Option (ByteArray × Bool) := (if (a0.size : Int) = 0 then (some ((⟨#[]⟩ : ByteArray), false)) else (if 1 ≤ (a0.size : Int) then (if 0 < (a0.size : Int) then (if (bt a0 0) = 122 then (if 1 ≤ (a0.size : Int) then ((spec_l04Tokens.f k (a0.extract 1 a0.size)).bind fun t1 => ((spec_PlainOf.f k t1.1).bind fun t2 => (if t1.2 = true then (if t2.2 = true then ((spec_PackText.f k t2.1).bind fun t3 => (if t3.2 = true then (if (seq t3.1 a0) = true then (some (t2.1, true)) else (some ((⟨#[]⟩ : ByteArray), false))) else (some ((⟨#[]⟩ : ByteArray), false)))) else (some ((⟨#[]⟩ : ByteArray), false))) else (some ((⟨#[]⟩ : ByteArray), false))))) else none) else ((spec_PackText.f k (a0.extract 1 a0.size)).bind fun t4 => (if t4.2 = true then (if (seq t4.1 a0) = true then (some ((a0.extract 1 a0.size), true)) else (some ((⟨#[]⟩ : ByteArray), false))) else (some ((⟨#[]⟩ : ByteArray), false))))) else none) else none))
noncomputable def spec_UnpackText.e (r : ByteArray × Bool) : Res Ty D := (.tu [.sc (.string r.1), .sc (.bool r.2)], [], [])
noncomputable abbrev spec_UnpackText.g (rec : List Item → St Ty D → R) (k : Nat) := go1 Try.f32 (spec_UnpackText.ctx k) spec_UnpackText.sp 0 spec_UnpackText.en rec
set_option maxRecDepth 100000 in
theorem spec_UnpackText.te (rec : List Item → St Ty D → R) (k : Nat) (a0 : ByteArray) : spec_UnpackText.g rec k [.code (body Try.f32)] (startSt [.sc (.string a0)] []) =
  bif decide ((a0.size : Int) = 0) then some (spec_UnpackText.e ((⟨#[]⟩ : ByteArray), false)) else bif decide (1 ≤ (a0.size : Int)) then bif decide (0 < (a0.size : Int)) then bif decide ((bt a0 0) = 122) then bif decide (1 ≤ (a0.size : Int)) then (spec_l04Tokens.f k (a0.extract 1 a0.size)).bind fun t1 => (spec_PlainOf.f k t1.1).bind fun t2 => bif !t1.2 then some (spec_UnpackText.e ((⟨#[]⟩ : ByteArray), false)) else bif !t2.2 then some (spec_UnpackText.e ((⟨#[]⟩ : ByteArray), false)) else (spec_PackText.f k t2.1).bind fun t3 => bif !t3.2 then some (spec_UnpackText.e ((⟨#[]⟩ : ByteArray), false)) else bif !(seq t3.1 a0) then some (spec_UnpackText.e ((⟨#[]⟩ : ByteArray), false)) else some (spec_UnpackText.e (t2.1, true)) else none else (spec_PackText.f k (a0.extract 1 a0.size)).bind fun t4 => bif !t4.2 then some (spec_UnpackText.e ((⟨#[]⟩ : ByteArray), false)) else bif !(seq t4.1 a0) then some (spec_UnpackText.e ((⟨#[]⟩ : ByteArray), false)) else some (spec_UnpackText.e ((a0.extract 1 a0.size), true)) else none else none := by kernel_rfl
set_option maxRecDepth 100000 in
theorem spec_UnpackText.oke (k : Nat) (a0 : ByteArray) : goF Try.f32 spec_UnpackText.ctx spec_UnpackText.sp 0 spec_UnpackText.en (k + 1) [.code (body Try.f32)] (startSt [.sc (.string a0)] []) = (spec_UnpackText.f k a0).map spec_UnpackText.e := by
  rw [spec_UnpackText.f]; exact (spec_UnpackText.te _ k a0).trans (cd rfl (cd (cd (cd (cd (bn (fun t1 => (bn (fun t2 => (nb rfl (nb rfl (bn (fun t3 => (nb rfl (nb rfl rfl)))))))))) rfl) (bn (fun t4 => (nb rfl (nb rfl rfl))))) rfl) rfl))
theorem spec_UnpackText.con (k : Nat) (a0 : ByteArray) (r) (h : spec_UnpackText.f k a0 = some r) : Contract Try.prog kit 32 [.sc (.string a0)] [] (spec_UnpackText.e r).1 (spec_UnpackText.e r).2.1 (spec_UnpackText.e r).2.2 :=
  con_okG kitOk mix (fun k => (CtxOk.cons (spec_l04Tokens.xok k) (CtxOk.cons (spec_PlainOf.xok k) (CtxOk.cons (spec_PackText.xok k) CtxOk.nil)))) (spec_UnpackText.oke k a0) h (by kernel_rfl) (by kernel_rfl) (by kernel_rfl) rfl (by kernel_rfl) rfl rfl
noncomputable def spec_UnpackText.x (k : Nat) : X := fun ins bs κ => match ins, bs with
  | [.sc (.string a0)], [] => (spec_UnpackText.f k a0).bind fun r => κ (spec_UnpackText.e r).1 (spec_UnpackText.e r).2.1 (spec_UnpackText.e r).2.2
  | _, _ => none
theorem spec_UnpackText.xok (k : Nat) : XOk 32 (spec_UnpackText.x k) := by
  intro ins bs κ res h
  unfold spec_UnpackText.x at h
  split at h
  · obtain ⟨r, hr, h⟩ := Option.bind_eq_some_iff.1 h
    exact ⟨_, _, _, spec_UnpackText.con k _ r hr, h⟩
  · cases h

/-! ### spec_l13Text: function 23 -/
noncomputable def spec_l13Text.sp : Nat → Option (Spec Ty) := fun r => none
noncomputable def spec_l13Text.en : Option (Spec Ty) := none
noncomputable def spec_l13Text.ctx (k : Nat) : Ctx Ty D := (cons 18 (spec_l13Newest.x k) (cons 32 (spec_UnpackText.x k) (fun _ _ _ _ => none)))
noncomputable def spec_l13Text.f (k : Nat) (a0 : List S45) (a1 : Int) : Option (ByteArray × Bool) := ((spec_l13Newest.f k a0 a1).bind fun t1 => (if t1.2.2.2.2.2.2.2.2 = true then ((spec_UnpackText.f k t1.2.2.2.2.2.2.2.1).bind fun t2 => (some (t2.1, t2.2))) else (some ((⟨#[]⟩ : ByteArray), false))))
noncomputable def spec_l13Text.e (r : ByteArray × Bool) : Res Ty D := (.tu [.sc (.string r.1), .sc (.bool r.2)], [], [])
noncomputable abbrev spec_l13Text.g (rec : List Item → St Ty D → R) (k : Nat) := go1 Try.f23 (spec_l13Text.ctx k) spec_l13Text.sp 0 spec_l13Text.en rec
set_option maxRecDepth 100000 in
theorem spec_l13Text.te (rec : List Item → St Ty D → R) (k : Nat) (a0 : List S45) (a1 : Int) : spec_l13Text.g rec k [.code (body Try.f23)] (startSt [.row 0 .t45 a0, .sc (.int .i64 a1)] []) =
  (spec_l13Newest.f k a0 a1).bind fun t1 => bif !t1.2.2.2.2.2.2.2.2 then some (spec_l13Text.e ((⟨#[]⟩ : ByteArray), false)) else (spec_UnpackText.f k t1.2.2.2.2.2.2.2.1).bind fun t2 => some (spec_l13Text.e (t2.1, t2.2)) := by kernel_rfl
set_option maxRecDepth 100000 in
theorem spec_l13Text.oke (k : Nat) (a0 : List S45) (a1 : Int) : goF Try.f23 spec_l13Text.ctx spec_l13Text.sp 0 spec_l13Text.en (k + 1) [.code (body Try.f23)] (startSt [.row 0 .t45 a0, .sc (.int .i64 a1)] []) = (spec_l13Text.f k a0 a1).map spec_l13Text.e := by
  rw [spec_l13Text.f]; exact (spec_l13Text.te _ k a0 a1).trans (bn (fun t1 => (nb rfl (bn (fun t2 => rfl)))))
theorem spec_l13Text.con (k : Nat) (a0 : List S45) (a1 : Int) (r) (h : spec_l13Text.f k a0 a1 = some r) : Contract Try.prog kit 23 [.row 0 .t45 a0, .sc (.int .i64 a1)] [] (spec_l13Text.e r).1 (spec_l13Text.e r).2.1 (spec_l13Text.e r).2.2 :=
  con_okG kitOk mix (fun k => (CtxOk.cons (spec_l13Newest.xok k) (CtxOk.cons (spec_UnpackText.xok k) CtxOk.nil))) (spec_l13Text.oke k a0 a1) h (by kernel_rfl) (by kernel_rfl) (by kernel_rfl) rfl (by kernel_rfl) rfl rfl
noncomputable def spec_l13Text.x (k : Nat) : X := fun ins bs κ => match ins, bs with
  | [.row 0 .t45 a0, .sc (.int .i64 a1)], [] => (spec_l13Text.f k a0 a1).bind fun r => κ (spec_l13Text.e r).1 (spec_l13Text.e r).2.1 (spec_l13Text.e r).2.2
  | _, _ => none
theorem spec_l13Text.xok (k : Nat) : XOk 23 (spec_l13Text.x k) := by
  intro ins bs κ res h
  unfold spec_l13Text.x at h
  split at h
  · obtain ⟨r, hr, h⟩ := Option.bind_eq_some_iff.1 h
    exact ⟨_, _, _, spec_l13Text.con k _ _ r hr, h⟩
  · cases h

/-! ### spec_ChunkText: function 11 -/
noncomputable def spec_ChunkText.sp : Nat → Option (Spec Ty) := fun r => none
noncomputable def spec_ChunkText.en : Option (Spec Ty) := none
noncomputable def spec_ChunkText.ctx (k : Nat) : Ctx Ty D := (cons 19 (spec_ScanAll.x k) (cons 23 (spec_l13Text.x k) (fun _ _ _ _ => none)))
noncomputable def spec_ChunkText.f (k : Nat) (a0_0 : List S62) (a1 : Int) : Option (ByteArray × Bool) := ((spec_ScanAll.f k a0_0).bind fun t1 => ((spec_l13Text.f k t1 a1).bind fun t2 => (some (t2.1, t2.2))))
noncomputable def spec_ChunkText.e (r : ByteArray × Bool) : Res Ty D := (.tu [.sc (.string r.1), .sc (.bool r.2)], [], [])
noncomputable abbrev spec_ChunkText.g (rec : List Item → St Ty D → R) (k : Nat) := go1 Try.f11 (spec_ChunkText.ctx k) spec_ChunkText.sp 0 spec_ChunkText.en rec
set_option maxRecDepth 100000 in
theorem spec_ChunkText.te (rec : List Item → St Ty D → R) (k : Nat) (a0_0 : List S62) (a1 : Int) : spec_ChunkText.g rec k [.code (body Try.f11)] (startSt [.ag [.row 0 .t62 a0_0], .sc (.int .i64 a1)] []) =
  (spec_ScanAll.f k a0_0).bind fun t1 => (spec_l13Text.f k t1 a1).bind fun t2 => some (spec_ChunkText.e (t2.1, t2.2)) := by kernel_rfl
set_option maxRecDepth 100000 in
theorem spec_ChunkText.oke (k : Nat) (a0_0 : List S62) (a1 : Int) : goF Try.f11 spec_ChunkText.ctx spec_ChunkText.sp 0 spec_ChunkText.en (k + 1) [.code (body Try.f11)] (startSt [.ag [.row 0 .t62 a0_0], .sc (.int .i64 a1)] []) = (spec_ChunkText.f k a0_0 a1).map spec_ChunkText.e := by
  rw [spec_ChunkText.f]; exact (spec_ChunkText.te _ k a0_0 a1).trans (bn (fun t1 => (bn (fun t2 => rfl))))
theorem spec_ChunkText.con (k : Nat) (a0_0 : List S62) (a1 : Int) (r) (h : spec_ChunkText.f k a0_0 a1 = some r) : Contract Try.prog kit 11 [.ag [.row 0 .t62 a0_0], .sc (.int .i64 a1)] [] (spec_ChunkText.e r).1 (spec_ChunkText.e r).2.1 (spec_ChunkText.e r).2.2 :=
  con_okG kitOk mix (fun k => (CtxOk.cons (spec_ScanAll.xok k) (CtxOk.cons (spec_l13Text.xok k) CtxOk.nil))) (spec_ChunkText.oke k a0_0 a1) h (by kernel_rfl) (by kernel_rfl) (by kernel_rfl) rfl (by kernel_rfl) rfl rfl
noncomputable def spec_ChunkText.x (k : Nat) : X := fun ins bs κ => match ins, bs with
  | [.ag [.row 0 .t62 a0_0], .sc (.int .i64 a1)], [] => (spec_ChunkText.f k a0_0 a1).bind fun r => κ (spec_ChunkText.e r).1 (spec_ChunkText.e r).2.1 (spec_ChunkText.e r).2.2
  | _, _ => none
theorem spec_ChunkText.xok (k : Nat) : XOk 11 (spec_ChunkText.x k) := by
  intro ins bs κ res h
  unfold spec_ChunkText.x at h
  split at h
  · obtain ⟨r, hr, h⟩ := Option.bind_eq_some_iff.1 h
    exact ⟨_, _, _, spec_ChunkText.con k _ _ r hr, h⟩
  · cases h

/-! ### impl_tokensIn: function 33 -/
noncomputable def impl_tokensIn.sp : Nat → Option (Spec Ty) := fun r => bif Nat.beq r 2 then some ⟨[(0, .keep), (4, .own .t86)], []⟩ else none
noncomputable def impl_tokensIn.en : Option (Spec Ty) := some ⟨[(2, .own .t86), (3, .keep)], []⟩
noncomputable def impl_tokensIn.s2 (x0 : ByteArray) (h64 : List S86) : St Ty D := ⟨(Env.put (Env.put E (some 0) (.sc (.string x0))) (some 4) (.sl 64 none)), Heap.put H0 [(64, some (.rowb .t86 h64 0))], 1000⟩
noncomputable def impl_tokensIn.ctx (k : Nat) : Ctx Ty D := (fun _ _ _ _ => none)
noncomputable def impl_tokensIn.c2 : Nat → ByteArray → (List S86) → Option ((List S86) × Bool)
  | 0, _, _ => none
  | k + 1, x0, h64 => (if (seq x0 (⟨#[]⟩ : ByteArray)) = true then (some (h64, true)) else (if 0 < (x0.size : Int) then (if (w64 ((bt x0 0))) ≥ 128 then (if (x0.size : Int) ≥ 2 then (if 1 < (x0.size : Int) then (if h64.length + ([(S86.mk (w64 ((bt x0 1))) (w64 ((w64 ((bt x0 0))) - 128)) (⟨#[]⟩ : ByteArray))] : List S86).length ≤ 4398046511104 then (if 2 ≤ (x0.size : Int) then (impl_tokensIn.c2 k (x0.extract 2 x0.size) (h64 ++ ([(S86.mk (w64 ((bt x0 1))) (w64 ((w64 ((bt x0 0))) - 128)) (⟨#[]⟩ : ByteArray))] : List S86))) else none) else none) else none) else (if (w64 ((bt x0 0))) < 128 then (if (w64 ((bt x0 0))) < (x0.size : Int) then (if 0 ≤ (w64 (1 + (w64 ((bt x0 0))))) then (if (w64 (1 + (w64 ((bt x0 0))))) ≤ (x0.size : Int) then (if 1 ≤ (w64 (1 + (w64 ((bt x0 0))))) then (if h64.length + ([(S86.mk 0 0 (x0.extract 1 ((w64 (1 + (w64 ((bt x0 0))))).toNat)))] : List S86).length ≤ 4398046511104 then (if 0 ≤ (w64 (1 + (w64 ((bt x0 0))))) then (if (w64 (1 + (w64 ((bt x0 0))))) ≤ (x0.size : Int) then (impl_tokensIn.c2 k (x0.extract ((w64 (1 + (w64 ((bt x0 0))))).toNat) x0.size) (h64 ++ ([(S86.mk 0 0 (x0.extract 1 ((w64 (1 + (w64 ((bt x0 0))))).toNat)))] : List S86))) else none) else none) else none) else none) else none) else none) else (some (([] : List S86), false))) else (some (([] : List S86), false)))) else (if (w64 ((bt x0 0))) < 128 then (if (w64 ((bt x0 0))) < (x0.size : Int) then (if 0 ≤ (w64 (1 + (w64 ((bt x0 0))))) then (if (w64 (1 + (w64 ((bt x0 0))))) ≤ (x0.size : Int) then (if 1 ≤ (w64 (1 + (w64 ((bt x0 0))))) then (if h64.length + ([(S86.mk 0 0 (x0.extract 1 ((w64 (1 + (w64 ((bt x0 0))))).toNat)))] : List S86).length ≤ 4398046511104 then (if 0 ≤ (w64 (1 + (w64 ((bt x0 0))))) then (if (w64 (1 + (w64 ((bt x0 0))))) ≤ (x0.size : Int) then (impl_tokensIn.c2 k (x0.extract ((w64 (1 + (w64 ((bt x0 0))))).toNat) x0.size) (h64 ++ ([(S86.mk 0 0 (x0.extract 1 ((w64 (1 + (w64 ((bt x0 0))))).toNat)))] : List S86))) else none) else none) else none) else none) else none) else none) else (some (([] : List S86), false))) else (some (([] : List S86), false)))) else none))
noncomputable def impl_tokensIn.f (k : Nat) (a0 : ByteArray) : Option ((List S86) × Bool) := (impl_tokensIn.c2 k a0 ([] : List S86))
noncomputable def impl_tokensIn.e (r : (List S86) × Bool) : Res Ty D := (.tu [.sl 0 none, .sc (.bool r.2)], [], [.rowb .t86 r.1 0])
noncomputable abbrev impl_tokensIn.g (rec : List Item → St Ty D → R) (k : Nat) := go1 Try.f33 (impl_tokensIn.ctx k) impl_tokensIn.sp 0 impl_tokensIn.en rec
set_option maxRecDepth 100000 in
theorem impl_tokensIn.t2 (rec : List Item → St Ty D → R) (k : Nat) (x0 : ByteArray) (h64 : List S86) : impl_tokensIn.g rec k (td Try.f33 2) (impl_tokensIn.s2 x0 h64) =
  bif !(seq x0 (⟨#[]⟩ : ByteArray)) then bif decide (0 < (x0.size : Int)) then bif decide ((w64 ((bt x0 0))) ≥ 128) then bif decide ((x0.size : Int) ≥ 2) then bif decide (1 < (x0.size : Int)) then bif decide (h64.length + ([(S86.mk (w64 ((bt x0 1))) (w64 ((w64 ((bt x0 0))) - 128)) (⟨#[]⟩ : ByteArray))] : List S86).length ≤ 4398046511104) then bif decide (2 ≤ (x0.size : Int)) then rec (td Try.f33 2) (impl_tokensIn.s2 (x0.extract 2 x0.size) (h64 ++ ([(S86.mk (w64 ((bt x0 1))) (w64 ((w64 ((bt x0 0))) - 128)) (⟨#[]⟩ : ByteArray))] : List S86))) else none else none else none else bif decide ((w64 ((bt x0 0))) < 128) then bif decide ((w64 ((bt x0 0))) < (x0.size : Int)) then bif decide (0 ≤ (w64 (1 + (w64 ((bt x0 0)))))) then bif decide ((w64 (1 + (w64 ((bt x0 0))))) ≤ (x0.size : Int)) then bif decide (1 ≤ (w64 (1 + (w64 ((bt x0 0)))))) then bif decide (h64.length + ([(S86.mk 0 0 (x0.extract 1 ((w64 (1 + (w64 ((bt x0 0))))).toNat)))] : List S86).length ≤ 4398046511104) then bif decide (0 ≤ (w64 (1 + (w64 ((bt x0 0)))))) then bif decide ((w64 (1 + (w64 ((bt x0 0))))) ≤ (x0.size : Int)) then rec (td Try.f33 2) (impl_tokensIn.s2 (x0.extract ((w64 (1 + (w64 ((bt x0 0))))).toNat) x0.size) (h64 ++ ([(S86.mk 0 0 (x0.extract 1 ((w64 (1 + (w64 ((bt x0 0))))).toNat)))] : List S86))) else none else none else none else none else none else none else some (impl_tokensIn.e (([] : List S86), false)) else some (impl_tokensIn.e (([] : List S86), false)) else bif decide ((w64 ((bt x0 0))) < 128) then bif decide ((w64 ((bt x0 0))) < (x0.size : Int)) then bif decide (0 ≤ (w64 (1 + (w64 ((bt x0 0)))))) then bif decide ((w64 (1 + (w64 ((bt x0 0))))) ≤ (x0.size : Int)) then bif decide (1 ≤ (w64 (1 + (w64 ((bt x0 0)))))) then bif decide (h64.length + ([(S86.mk 0 0 (x0.extract 1 ((w64 (1 + (w64 ((bt x0 0))))).toNat)))] : List S86).length ≤ 4398046511104) then bif decide (0 ≤ (w64 (1 + (w64 ((bt x0 0)))))) then bif decide ((w64 (1 + (w64 ((bt x0 0))))) ≤ (x0.size : Int)) then rec (td Try.f33 2) (impl_tokensIn.s2 (x0.extract ((w64 (1 + (w64 ((bt x0 0))))).toNat) x0.size) (h64 ++ ([(S86.mk 0 0 (x0.extract 1 ((w64 (1 + (w64 ((bt x0 0))))).toNat)))] : List S86))) else none else none else none else none else none else none else some (impl_tokensIn.e (([] : List S86), false)) else some (impl_tokensIn.e (([] : List S86), false)) else none else some (impl_tokensIn.e (h64, true)) := by kernel_rfl
set_option maxRecDepth 100000 in
theorem impl_tokensIn.te (rec : List Item → St Ty D → R) (k : Nat) (a0 : ByteArray) : impl_tokensIn.g rec k [.code (body Try.f33)] (startSt [.sc (.string a0)] []) =
  rec (td Try.f33 2) (impl_tokensIn.s2 a0 ([] : List S86)) := by kernel_rfl
set_option maxRecDepth 100000 in
theorem impl_tokensIn.ok : ∀ k : Nat, (∀ (x0 : ByteArray) (h64 : List S86), goF Try.f33 impl_tokensIn.ctx impl_tokensIn.sp 0 impl_tokensIn.en k (td Try.f33 2) (impl_tokensIn.s2 x0 h64) = (impl_tokensIn.c2 k x0 h64).map impl_tokensIn.e)
  | 0 => fun _ _ => rfl
  | k + 1 => by
    have ih := impl_tokensIn.ok k
    have i2 := ih
    intro x0 h64; rw [impl_tokensIn.c2]; exact (impl_tokensIn.t2 _ k x0 h64).trans (nb (cd (cd (cd (cd (cd (cd (i2 _ _) rfl) rfl) rfl) (cd (cd (cd (cd (cd (cd (cd (cd (i2 _ _) rfl) rfl) rfl) rfl) rfl) rfl) rfl) rfl)) (cd (cd (cd (cd (cd (cd (cd (cd (i2 _ _) rfl) rfl) rfl) rfl) rfl) rfl) rfl) rfl)) rfl) rfl)
set_option maxRecDepth 100000 in
theorem impl_tokensIn.oke (k : Nat) (a0 : ByteArray) : goF Try.f33 impl_tokensIn.ctx impl_tokensIn.sp 0 impl_tokensIn.en (k + 1) [.code (body Try.f33)] (startSt [.sc (.string a0)] []) = (impl_tokensIn.f k a0).map impl_tokensIn.e := by
  have i2 := impl_tokensIn.ok k
  rw [impl_tokensIn.f]; exact (impl_tokensIn.te _ k a0).trans (i2 _ _)
theorem impl_tokensIn.con (k : Nat) (a0 : ByteArray) (r) (h : impl_tokensIn.f k a0 = some r) : Contract Try.prog kit 33 [.sc (.string a0)] [] (impl_tokensIn.e r).1 (impl_tokensIn.e r).2.1 (impl_tokensIn.e r).2.2 :=
  con_okG kitOk mix (fun k => CtxOk.nil) (impl_tokensIn.oke k a0) h (by kernel_rfl) (by kernel_rfl) (by kernel_rfl) rfl (by kernel_rfl) rfl rfl
noncomputable def impl_tokensIn.x (k : Nat) : X := fun ins bs κ => match ins, bs with
  | [.sc (.string a0)], [] => (impl_tokensIn.f k a0).bind fun r => κ (impl_tokensIn.e r).1 (impl_tokensIn.e r).2.1 (impl_tokensIn.e r).2.2
  | _, _ => none
theorem impl_tokensIn.xok (k : Nat) : XOk 33 (impl_tokensIn.x k) := by
  intro ins bs κ res h
  unfold impl_tokensIn.x at h
  split at h
  · obtain ⟨r, hr, h⟩ := Option.bind_eq_some_iff.1 h
    exact ⟨_, _, _, impl_tokensIn.con k _ r hr, h⟩
  · cases h

/-! ### impl_PlainOf: function 34 -/
noncomputable def impl_PlainOf.sp : Nat → Option (Spec Ty) := fun r => bif Nat.beq r 3 then some ⟨[(4, .own .t5), (7, .keep), (8, .keep), (9, .keep)], []⟩ else bif Nat.beq r 12 then some ⟨[(4, .own .t5), (6, .box [.keep, .keep, .keep]), (7, .keep), (8, .keep), (9, .keep), (37, .box [.keep, .keep, .keep]), (38, .keep), (39, .keep), (40, .keep), (43, .box [.keep, .keep, .keep]), (44, .keep), (45, .keep), (48, .keep), (49, .keep)], []⟩ else none
noncomputable def impl_PlainOf.en : Option (Spec Ty) := none
noncomputable def impl_PlainOf.s3 (x7 : List S86) (x8 : Int) (x9 : Int) (h64 : List Int) : St Ty D := ⟨(Env.put (Env.put (Env.put (Env.put E (some 4) (.sl 64 none)) (some 7) (.row 0 .t86 x7)) (some 8) (.sc (.int .i64 x8))) (some 9) (.sc (.int .i64 x9))), Heap.put H0 [(64, some (.rowb .t5 h64 0))], 1000⟩
noncomputable def impl_PlainOf.s12 (x7 : List S86) (x8 : Int) (x9 : Int) (x38 : Int) (x39 : Bool) (x40 : Bool) (x44 : ByteArray) (x45 : Bool) (x48 : Int) (x49 : Int) (h64 : List Int) (h65_0 : Int) (h65_1 : Int) (h65_2 : ByteArray) : St Ty D := ⟨(Env.put (Env.put (Env.put (Env.put (Env.put (Env.put (Env.put (Env.put (Env.put (Env.put (Env.put (Env.put (Env.put (Env.put E (some 4) (.sl 64 none)) (some 6) (.pt 65 0 0)) (some 7) (.row 0 .t86 x7)) (some 8) (.sc (.int .i64 x8))) (some 9) (.sc (.int .i64 x9))) (some 37) (.pt 65 0 1)) (some 38) (.sc (.int .i64 x38))) (some 39) (.sc (.bool x39))) (some 40) (.sc (.bool x40))) (some 43) (.pt 65 0 2)) (some 44) (.sc (.string x44))) (some 45) (.sc (.bool x45))) (some 48) (.sc (.int .i64 x48))) (some 49) (.sc (.int .i64 x49))), Heap.put H0 [(64, some (.rowb .t5 h64 0)), (65, some (.box [.sc (.int .i64 h65_0), .sc (.int .i64 h65_1), .sc (.string h65_2)]))], 1000⟩
noncomputable def impl_PlainOf.ctx (k : Nat) : Ctx Ty D := (cons 49 (impl_in.x k) (fun _ _ _ _ => none))
mutual
noncomputable def impl_PlainOf.c3 : Nat → (List S86) → Int → Int → (List Int) → Option (ByteArray × Bool)
  | 0, _, _, _, _ => none
  | k + 1, x7, x8, x9, h64 => (if x9 < x8 then (if 0 ≤ x9 then (if x9 < (x7.length : Int) then (if ((rd_T86 x7 x9).f0) = 0 then (if ((rd_T86 x7 x9).f1) = 0 then ((impl_in.f k (((rd_T86 x7 x9).f2).size : Int) 1 31).bind fun t1 => (if t1 = true then (if h64.length + (bytesOf ((rd_T86 x7 x9).f2)).length ≤ 140737488355328 then (if ((h64 ++ (bytesOf ((rd_T86 x7 x9).f2))).length : Int) > 64 then (some ((⟨#[]⟩ : ByteArray), false)) else (impl_PlainOf.c3 k x7 x8 (w64 (x9 + 1)) (h64 ++ (bytesOf ((rd_T86 x7 x9).f2))))) else none) else (some ((⟨#[]⟩ : ByteArray), false)))) else (some ((⟨#[]⟩ : ByteArray), false))) else ((impl_in.f k ((rd_T86 x7 x9).f0) 1 (h64.length : Int)).bind fun t2 => (if t2 = true then ((impl_in.f k ((rd_T86 x7 x9).f1) 1 31).bind fun t3 => (if t3 = true then (if (seq ((rd_T86 x7 x9).f2) (⟨#[]⟩ : ByteArray)) = true then (impl_PlainOf.c12 k x7 x8 x9 ((rd_T86 x7 x9).f1) t3 (!t3) ((rd_T86 x7 x9).f2) (!(seq ((rd_T86 x7 x9).f2) (⟨#[]⟩ : ByteArray))) ((rd_T86 x7 x9).f1) 0 h64 ((rd_T86 x7 x9).f0) ((rd_T86 x7 x9).f1) ((rd_T86 x7 x9).f2)) else (some ((⟨#[]⟩ : ByteArray), false))) else (some ((⟨#[]⟩ : ByteArray), false)))) else (some ((⟨#[]⟩ : ByteArray), false))))) else none) else none) else (some ((strOfNums h64), true)))
noncomputable def impl_PlainOf.c12 : Nat → (List S86) → Int → Int → Int → Bool → Bool → ByteArray → Bool → Int → Int → (List Int) → Int → Int → ByteArray → Option (ByteArray × Bool)
  | 0, _, _, _, _, _, _, _, _, _, _, _, _, _, _ => none
  | k + 1, x7, x8, x9, x38, x39, x40, x44, x45, x48, x49, h64, h65_0, h65_1, h65_2 => (if x49 < x48 then (if 0 ≤ (w64 ((h64.length : Int) - h65_0)) then (if (w64 ((h64.length : Int) - h65_0)) < (h64.length : Int) then (if h64.length + ([(rd_T5 h64 (w64 ((h64.length : Int) - h65_0)))] : List Int).length ≤ 140737488355328 then (impl_PlainOf.c12 k x7 x8 x9 x38 x39 x40 x44 x45 x48 (w64 (x49 + 1)) (h64 ++ ([(rd_T5 h64 (w64 ((h64.length : Int) - h65_0)))] : List Int)) h65_0 h65_1 h65_2) else none) else none) else none) else (if (h64.length : Int) > 64 then (some ((⟨#[]⟩ : ByteArray), false)) else (impl_PlainOf.c3 k x7 x8 (w64 (x9 + 1)) h64)))
end
noncomputable def impl_PlainOf.f (k : Nat) (a0 : List S86) : Option (ByteArray × Bool) := (impl_PlainOf.c3 k a0 (a0.length : Int) 0 ([] : List Int))
noncomputable def impl_PlainOf.e (r : ByteArray × Bool) : Res Ty D := (.tu [.sc (.string r.1), .sc (.bool r.2)], [], [])
noncomputable abbrev impl_PlainOf.g (rec : List Item → St Ty D → R) (k : Nat) := go1 Try.f34 (impl_PlainOf.ctx k) impl_PlainOf.sp 0 impl_PlainOf.en rec
set_option maxRecDepth 100000 in
theorem impl_PlainOf.t3 (rec : List Item → St Ty D → R) (k : Nat) (x7 : List S86) (x8 : Int) (x9 : Int) (h64 : List Int) : impl_PlainOf.g rec k (td Try.f34 3) (impl_PlainOf.s3 x7 x8 x9 h64) =
  bif decide (x9 < x8) then bif decide (0 ≤ x9) then bif decide (x9 < (x7.length : Int)) then bif decide (((rd_T86 x7 x9).f0) = 0) then bif !decide (((rd_T86 x7 x9).f1) = 0) then some (impl_PlainOf.e ((⟨#[]⟩ : ByteArray), false)) else (impl_in.f k (((rd_T86 x7 x9).f2).size : Int) 1 31).bind fun t1 => bif !t1 then some (impl_PlainOf.e ((⟨#[]⟩ : ByteArray), false)) else bif decide (h64.length + (bytesOf ((rd_T86 x7 x9).f2)).length ≤ 140737488355328) then bif decide (((h64 ++ (bytesOf ((rd_T86 x7 x9).f2))).length : Int) > 64) then some (impl_PlainOf.e ((⟨#[]⟩ : ByteArray), false)) else rec (td Try.f34 3) (impl_PlainOf.s3 x7 x8 (w64 (x9 + 1)) (h64 ++ (bytesOf ((rd_T86 x7 x9).f2)))) else none else (impl_in.f k ((rd_T86 x7 x9).f0) 1 (h64.length : Int)).bind fun t2 => bif !t2 then some (impl_PlainOf.e ((⟨#[]⟩ : ByteArray), false)) else (impl_in.f k ((rd_T86 x7 x9).f1) 1 31).bind fun t3 => bif !t3 then some (impl_PlainOf.e ((⟨#[]⟩ : ByteArray), false)) else bif !(seq ((rd_T86 x7 x9).f2) (⟨#[]⟩ : ByteArray)) then some (impl_PlainOf.e ((⟨#[]⟩ : ByteArray), false)) else rec (td Try.f34 12) (impl_PlainOf.s12 x7 x8 x9 ((rd_T86 x7 x9).f1) t3 (!t3) ((rd_T86 x7 x9).f2) (!(seq ((rd_T86 x7 x9).f2) (⟨#[]⟩ : ByteArray))) ((rd_T86 x7 x9).f1) 0 h64 ((rd_T86 x7 x9).f0) ((rd_T86 x7 x9).f1) ((rd_T86 x7 x9).f2)) else none else none else some (impl_PlainOf.e ((strOfNums h64), true)) := by kernel_rfl
set_option maxRecDepth 100000 in
theorem impl_PlainOf.t12 (rec : List Item → St Ty D → R) (k : Nat) (x7 : List S86) (x8 : Int) (x9 : Int) (x38 : Int) (x39 : Bool) (x40 : Bool) (x44 : ByteArray) (x45 : Bool) (x48 : Int) (x49 : Int) (h64 : List Int) (h65_0 : Int) (h65_1 : Int) (h65_2 : ByteArray) : impl_PlainOf.g rec k (td Try.f34 12) (impl_PlainOf.s12 x7 x8 x9 x38 x39 x40 x44 x45 x48 x49 h64 h65_0 h65_1 h65_2) =
  bif decide (x49 < x48) then bif decide (0 ≤ (w64 ((h64.length : Int) - h65_0))) then bif decide ((w64 ((h64.length : Int) - h65_0)) < (h64.length : Int)) then bif decide (h64.length + ([(rd_T5 h64 (w64 ((h64.length : Int) - h65_0)))] : List Int).length ≤ 140737488355328) then rec (td Try.f34 12) (impl_PlainOf.s12 x7 x8 x9 x38 x39 x40 x44 x45 x48 (w64 (x49 + 1)) (h64 ++ ([(rd_T5 h64 (w64 ((h64.length : Int) - h65_0)))] : List Int)) h65_0 h65_1 h65_2) else none else none else none else bif decide ((h64.length : Int) > 64) then some (impl_PlainOf.e ((⟨#[]⟩ : ByteArray), false)) else rec (td Try.f34 3) (impl_PlainOf.s3 x7 x8 (w64 (x9 + 1)) h64) := by kernel_rfl
set_option maxRecDepth 100000 in
theorem impl_PlainOf.te (rec : List Item → St Ty D → R) (k : Nat) (a0 : List S86) : impl_PlainOf.g rec k [.code (body Try.f34)] (startSt [.row 0 .t86 a0] []) =
  rec (td Try.f34 3) (impl_PlainOf.s3 a0 (a0.length : Int) 0 ([] : List Int)) := by kernel_rfl
set_option maxRecDepth 100000 in
theorem impl_PlainOf.ok : ∀ k : Nat, (∀ (x7 : List S86) (x8 : Int) (x9 : Int) (h64 : List Int), goF Try.f34 impl_PlainOf.ctx impl_PlainOf.sp 0 impl_PlainOf.en k (td Try.f34 3) (impl_PlainOf.s3 x7 x8 x9 h64) = (impl_PlainOf.c3 k x7 x8 x9 h64).map impl_PlainOf.e) ∧ (∀ (x7 : List S86) (x8 : Int) (x9 : Int) (x38 : Int) (x39 : Bool) (x40 : Bool) (x44 : ByteArray) (x45 : Bool) (x48 : Int) (x49 : Int) (h64 : List Int) (h65_0 : Int) (h65_1 : Int) (h65_2 : ByteArray), goF Try.f34 impl_PlainOf.ctx impl_PlainOf.sp 0 impl_PlainOf.en k (td Try.f34 12) (impl_PlainOf.s12 x7 x8 x9 x38 x39 x40 x44 x45 x48 x49 h64 h65_0 h65_1 h65_2) = (impl_PlainOf.c12 k x7 x8 x9 x38 x39 x40 x44 x45 x48 x49 h64 h65_0 h65_1 h65_2).map impl_PlainOf.e)
  | 0 => ⟨fun _ _ _ _ => rfl, fun _ _ _ _ _ _ _ _ _ _ _ _ _ _ => rfl⟩
  | k + 1 => by
    have ih := impl_PlainOf.ok k
    obtain ⟨i3, i12⟩ := ih
    refine ⟨?_, ?_⟩
    · intro x7 x8 x9 h64; rw [impl_PlainOf.c3]; exact (impl_PlainOf.t3 _ k x7 x8 x9 h64).trans (cd (cd (cd (cd (nd rfl (bn (fun t1 => (nb rfl (cd (cd rfl (i3 _ _ _ _)) rfl))))) (bn (fun t2 => (nb rfl (bn (fun t3 => (nb rfl (nb rfl (i12 _ _ _ _ _ _ _ _ _ _ _ _ _ _))))))))) rfl) rfl) rfl)
    · intro x7 x8 x9 x38 x39 x40 x44 x45 x48 x49 h64 h65_0 h65_1 h65_2; rw [impl_PlainOf.c12]; exact (impl_PlainOf.t12 _ k x7 x8 x9 x38 x39 x40 x44 x45 x48 x49 h64 h65_0 h65_1 h65_2).trans (cd (cd (cd (cd (i12 _ _ _ _ _ _ _ _ _ _ _ _ _ _) rfl) rfl) rfl) (cd rfl (i3 _ _ _ _)))
set_option maxRecDepth 100000 in
theorem impl_PlainOf.oke (k : Nat) (a0 : List S86) : goF Try.f34 impl_PlainOf.ctx impl_PlainOf.sp 0 impl_PlainOf.en (k + 1) [.code (body Try.f34)] (startSt [.row 0 .t86 a0] []) = (impl_PlainOf.f k a0).map impl_PlainOf.e := by
  obtain ⟨i3, i12⟩ := impl_PlainOf.ok k
  rw [impl_PlainOf.f]; exact (impl_PlainOf.te _ k a0).trans (i3 _ _ _ _)
theorem impl_PlainOf.con (k : Nat) (a0 : List S86) (r) (h : impl_PlainOf.f k a0 = some r) : Contract Try.prog kit 34 [.row 0 .t86 a0] [] (impl_PlainOf.e r).1 (impl_PlainOf.e r).2.1 (impl_PlainOf.e r).2.2 :=
  con_okG kitOk mix (fun k => (CtxOk.cons (impl_in.xok k) CtxOk.nil)) (impl_PlainOf.oke k a0) h (by kernel_rfl) (by kernel_rfl) (by kernel_rfl) rfl (by kernel_rfl) rfl rfl
noncomputable def impl_PlainOf.x (k : Nat) : X := fun ins bs κ => match ins, bs with
  | [.row 0 .t86 a0], [] => (impl_PlainOf.f k a0).bind fun r => κ (impl_PlainOf.e r).1 (impl_PlainOf.e r).2.1 (impl_PlainOf.e r).2.2
  | _, _ => none
theorem impl_PlainOf.xok (k : Nat) : XOk 34 (impl_PlainOf.x k) := by
  intro ins bs κ res h
  unfold impl_PlainOf.x at h
  split at h
  · obtain ⟨r, hr, h⟩ := Option.bind_eq_some_iff.1 h
    exact ⟨_, _, _, impl_PlainOf.con k _ r hr, h⟩
  · cases h

/-! ### impl_matchAt: function 69 -/
noncomputable def impl_matchAt.sp : Nat → Option (Spec Ty) := fun r => bif Nat.beq r 3 then some ⟨[(0, .keep), (1, .keep), (6, .keep), (7, .keep), (8, .keep)], []⟩ else bif Nat.beq r 6 then some ⟨[(0, .keep), (1, .keep), (6, .keep), (7, .keep), (8, .keep), (9, .keep)], []⟩ else none
noncomputable def impl_matchAt.en : Option (Spec Ty) := none
noncomputable def impl_matchAt.s3 (x0 : ByteArray) (x1 : Int) (x6 : Int) (x7 : Int) (x8 : Int) : St Ty D := ⟨(Env.put (Env.put (Env.put (Env.put (Env.put E (some 0) (.sc (.string x0))) (some 1) (.sc (.int .i64 x1))) (some 6) (.sc (.int .i64 x6))) (some 7) (.sc (.int .i64 x7))) (some 8) (.sc (.int .i64 x8))), H0, 1000⟩
noncomputable def impl_matchAt.s6 (x0 : ByteArray) (x1 : Int) (x6 : Int) (x7 : Int) (x8 : Int) (x9 : Int) : St Ty D := ⟨(Env.put (Env.put (Env.put (Env.put (Env.put (Env.put E (some 0) (.sc (.string x0))) (some 1) (.sc (.int .i64 x1))) (some 6) (.sc (.int .i64 x6))) (some 7) (.sc (.int .i64 x7))) (some 8) (.sc (.int .i64 x8))) (some 9) (.sc (.int .i64 x9))), H0, 1000⟩
noncomputable def impl_matchAt.ctx (k : Nat) : Ctx Ty D := (fun _ _ _ _ => none)
mutual
noncomputable def impl_matchAt.c3 : Nat → ByteArray → Int → Int → Int → Int → Option (Int × Int)
  | 0, _, _, _, _, _ => none
  | k + 1, x0, x1, x6, x7, x8 => (if x8 ≥ 0 then (impl_matchAt.c6 k x0 x1 x6 x7 x8 0) else (some (x6, x7)))
noncomputable def impl_matchAt.c6 : Nat → ByteArray → Int → Int → Int → Int → Int → Option (Int × Int)
  | 0, _, _, _, _, _, _ => none
  | k + 1, x0, x1, x6, x7, x8, x9 => (if x9 < 31 then (if (w64 (x1 + x9)) < (x0.size : Int) then (if 0 ≤ (w64 (x8 + x9)) then (if (w64 (x8 + x9)) < (x0.size : Int) then (if 0 ≤ (w64 (x1 + x9)) then (if (w64 (x1 + x9)) < (x0.size : Int) then (if (bt x0 (w64 (x8 + x9))) = (bt x0 (w64 (x1 + x9))) then (impl_matchAt.c6 k x0 x1 x6 x7 x8 (w64 (x9 + 1))) else (if x9 ≥ 4 then (if x9 > x6 then (impl_matchAt.c3 k x0 x1 x9 (w64 (x1 - x8)) (w64 (x8 - 1))) else (impl_matchAt.c3 k x0 x1 x6 x7 (w64 (x8 - 1)))) else (impl_matchAt.c3 k x0 x1 x6 x7 (w64 (x8 - 1))))) else none) else none) else none) else none) else (if x9 ≥ 4 then (if x9 > x6 then (impl_matchAt.c3 k x0 x1 x9 (w64 (x1 - x8)) (w64 (x8 - 1))) else (impl_matchAt.c3 k x0 x1 x6 x7 (w64 (x8 - 1)))) else (impl_matchAt.c3 k x0 x1 x6 x7 (w64 (x8 - 1))))) else (if x9 ≥ 4 then (if x9 > x6 then (impl_matchAt.c3 k x0 x1 x9 (w64 (x1 - x8)) (w64 (x8 - 1))) else (impl_matchAt.c3 k x0 x1 x6 x7 (w64 (x8 - 1)))) else (impl_matchAt.c3 k x0 x1 x6 x7 (w64 (x8 - 1)))))
end
noncomputable def impl_matchAt.f (k : Nat) (a0 : ByteArray) (a1 : Int) : Option (Int × Int) := (impl_matchAt.c3 k a0 a1 0 0 (w64 (a1 - 1)))
noncomputable def impl_matchAt.e (r : Int × Int) : Res Ty D := (.tu [.sc (.int .i64 r.1), .sc (.int .i64 r.2)], [], [])
noncomputable abbrev impl_matchAt.g (rec : List Item → St Ty D → R) (k : Nat) := go1 Try.f69 (impl_matchAt.ctx k) impl_matchAt.sp 0 impl_matchAt.en rec
set_option maxRecDepth 100000 in
theorem impl_matchAt.t3 (rec : List Item → St Ty D → R) (k : Nat) (x0 : ByteArray) (x1 : Int) (x6 : Int) (x7 : Int) (x8 : Int) : impl_matchAt.g rec k (td Try.f69 3) (impl_matchAt.s3 x0 x1 x6 x7 x8) =
  bif decide (x8 ≥ 0) then rec (td Try.f69 6) (impl_matchAt.s6 x0 x1 x6 x7 x8 0) else some (impl_matchAt.e (x6, x7)) := by kernel_rfl
set_option maxRecDepth 100000 in
theorem impl_matchAt.t6 (rec : List Item → St Ty D → R) (k : Nat) (x0 : ByteArray) (x1 : Int) (x6 : Int) (x7 : Int) (x8 : Int) (x9 : Int) : impl_matchAt.g rec k (td Try.f69 6) (impl_matchAt.s6 x0 x1 x6 x7 x8 x9) =
  bif decide (x9 < 31) then bif decide ((w64 (x1 + x9)) < (x0.size : Int)) then bif decide (0 ≤ (w64 (x8 + x9))) then bif decide ((w64 (x8 + x9)) < (x0.size : Int)) then bif decide (0 ≤ (w64 (x1 + x9))) then bif decide ((w64 (x1 + x9)) < (x0.size : Int)) then bif decide ((bt x0 (w64 (x8 + x9))) = (bt x0 (w64 (x1 + x9)))) then rec (td Try.f69 6) (impl_matchAt.s6 x0 x1 x6 x7 x8 (w64 (x9 + 1))) else bif decide (x9 ≥ 4) then bif decide (x9 > x6) then rec (td Try.f69 3) (impl_matchAt.s3 x0 x1 x9 (w64 (x1 - x8)) (w64 (x8 - 1))) else rec (td Try.f69 3) (impl_matchAt.s3 x0 x1 x6 x7 (w64 (x8 - 1))) else rec (td Try.f69 3) (impl_matchAt.s3 x0 x1 x6 x7 (w64 (x8 - 1))) else none else none else none else none else bif decide (x9 ≥ 4) then bif decide (x9 > x6) then rec (td Try.f69 3) (impl_matchAt.s3 x0 x1 x9 (w64 (x1 - x8)) (w64 (x8 - 1))) else rec (td Try.f69 3) (impl_matchAt.s3 x0 x1 x6 x7 (w64 (x8 - 1))) else rec (td Try.f69 3) (impl_matchAt.s3 x0 x1 x6 x7 (w64 (x8 - 1))) else bif decide (x9 ≥ 4) then bif decide (x9 > x6) then rec (td Try.f69 3) (impl_matchAt.s3 x0 x1 x9 (w64 (x1 - x8)) (w64 (x8 - 1))) else rec (td Try.f69 3) (impl_matchAt.s3 x0 x1 x6 x7 (w64 (x8 - 1))) else rec (td Try.f69 3) (impl_matchAt.s3 x0 x1 x6 x7 (w64 (x8 - 1))) := by kernel_rfl
set_option maxRecDepth 100000 in
theorem impl_matchAt.te (rec : List Item → St Ty D → R) (k : Nat) (a0 : ByteArray) (a1 : Int) : impl_matchAt.g rec k [.code (body Try.f69)] (startSt [.sc (.string a0), .sc (.int .i64 a1)] []) =
  rec (td Try.f69 3) (impl_matchAt.s3 a0 a1 0 0 (w64 (a1 - 1))) := by kernel_rfl
set_option maxRecDepth 100000 in
theorem impl_matchAt.ok : ∀ k : Nat, (∀ (x0 : ByteArray) (x1 : Int) (x6 : Int) (x7 : Int) (x8 : Int), goF Try.f69 impl_matchAt.ctx impl_matchAt.sp 0 impl_matchAt.en k (td Try.f69 3) (impl_matchAt.s3 x0 x1 x6 x7 x8) = (impl_matchAt.c3 k x0 x1 x6 x7 x8).map impl_matchAt.e) ∧ (∀ (x0 : ByteArray) (x1 : Int) (x6 : Int) (x7 : Int) (x8 : Int) (x9 : Int), goF Try.f69 impl_matchAt.ctx impl_matchAt.sp 0 impl_matchAt.en k (td Try.f69 6) (impl_matchAt.s6 x0 x1 x6 x7 x8 x9) = (impl_matchAt.c6 k x0 x1 x6 x7 x8 x9).map impl_matchAt.e)
  | 0 => ⟨fun _ _ _ _ _ => rfl, fun _ _ _ _ _ _ => rfl⟩
  | k + 1 => by
    have ih := impl_matchAt.ok k
    obtain ⟨i3, i6⟩ := ih
    refine ⟨?_, ?_⟩
    · intro x0 x1 x6 x7 x8; rw [impl_matchAt.c3]; exact (impl_matchAt.t3 _ k x0 x1 x6 x7 x8).trans (cd (i6 _ _ _ _ _ _) rfl)
    · intro x0 x1 x6 x7 x8 x9; rw [impl_matchAt.c6]; exact (impl_matchAt.t6 _ k x0 x1 x6 x7 x8 x9).trans (cd (cd (cd (cd (cd (cd (cd (i6 _ _ _ _ _ _) (cd (cd (i3 _ _ _ _ _) (i3 _ _ _ _ _)) (i3 _ _ _ _ _))) rfl) rfl) rfl) rfl) (cd (cd (i3 _ _ _ _ _) (i3 _ _ _ _ _)) (i3 _ _ _ _ _))) (cd (cd (i3 _ _ _ _ _) (i3 _ _ _ _ _)) (i3 _ _ _ _ _)))
set_option maxRecDepth 100000 in
theorem impl_matchAt.oke (k : Nat) (a0 : ByteArray) (a1 : Int) : goF Try.f69 impl_matchAt.ctx impl_matchAt.sp 0 impl_matchAt.en (k + 1) [.code (body Try.f69)] (startSt [.sc (.string a0), .sc (.int .i64 a1)] []) = (impl_matchAt.f k a0 a1).map impl_matchAt.e := by
  obtain ⟨i3, i6⟩ := impl_matchAt.ok k
  rw [impl_matchAt.f]; exact (impl_matchAt.te _ k a0 a1).trans (i3 _ _ _ _ _)
theorem impl_matchAt.con (k : Nat) (a0 : ByteArray) (a1 : Int) (r) (h : impl_matchAt.f k a0 a1 = some r) : Contract Try.prog kit 69 [.sc (.string a0), .sc (.int .i64 a1)] [] (impl_matchAt.e r).1 (impl_matchAt.e r).2.1 (impl_matchAt.e r).2.2 :=
  con_okG kitOk mix (fun k => CtxOk.nil) (impl_matchAt.oke k a0 a1) h (by kernel_rfl) (by kernel_rfl) (by kernel_rfl) rfl (by kernel_rfl) rfl rfl
noncomputable def impl_matchAt.x (k : Nat) : X := fun ins bs κ => match ins, bs with
  | [.sc (.string a0), .sc (.int .i64 a1)], [] => (impl_matchAt.f k a0 a1).bind fun r => κ (impl_matchAt.e r).1 (impl_matchAt.e r).2.1 (impl_matchAt.e r).2.2
  | _, _ => none
theorem impl_matchAt.xok (k : Nat) : XOk 69 (impl_matchAt.x k) := by
  intro ins bs κ res h
  unfold impl_matchAt.x at h
  split at h
  · obtain ⟨r, hr, h⟩ := Option.bind_eq_some_iff.1 h
    exact ⟨_, _, _, impl_matchAt.con k _ _ r hr, h⟩
  · cases h
end Go.Proofs.Ytbbfkodckpfjcaa.M2

/- Plain runs of functions: each is a plain Lean function, and keeps its contract. Written by a program of this session. -/
namespace Go.Proofs.Ytbbfkodckpfjcaa.M2
open Go Go.Proofs.Ytbbfkodckpfjcaa.PK
set_option linter.unusedVariables false
set_option linter.unusedSimpArgs false
set_option maxHeartbeats 4000000
/-! ### impl_TokensOf: function 50 -/
noncomputable def impl_TokensOf.sp : Nat → Option (Spec Ty) := fun r => bif Nat.beq r 5 then some ⟨[(0, .keep), (3, .own .t86), (4, .keep)], []⟩ else none
noncomputable def impl_TokensOf.en : Option (Spec Ty) := some ⟨[(2, .own .t86)], []⟩
noncomputable def impl_TokensOf.s5 (x0 : ByteArray) (x4 : Int) (h64 : List S86) : St Ty D := ⟨(Env.put (Env.put (Env.put E (some 0) (.sc (.string x0))) (some 3) (.sl 64 none)) (some 4) (.sc (.int .i64 x4))), Heap.put H0 [(64, some (.rowb .t86 h64 0))], 1000⟩
noncomputable def impl_TokensOf.ctx (k : Nat) : Ctx Ty D := (cons 69 (impl_matchAt.x k) (fun _ _ _ _ => none))
noncomputable def impl_TokensOf.c5 : Nat → ByteArray → Int → (List S86) → Option ((List S86))
  | 0, _, _, _ => none
  | k + 1, x0, x4, h64 => (if x4 < (x0.size : Int) then ((impl_matchAt.f k x0 x4).bind fun t1 => (if t1.1 > 0 then (if h64.length + ([(S86.mk t1.2 t1.1 (⟨#[]⟩ : ByteArray))] : List S86).length ≤ 4398046511104 then (impl_TokensOf.c5 k x0 (w64 (x4 + t1.1)) (h64 ++ ([(S86.mk t1.2 t1.1 (⟨#[]⟩ : ByteArray))] : List S86))) else none) else (if (w64 ((h64.length : Int) - 1)) < 0 then (if h64.length + ([(S86.mk 0 0 (⟨#[]⟩ : ByteArray))] : List S86).length ≤ 4398046511104 then (if 0 ≤ (w64 ((w64 ((h64.length : Int) - 1)) + 1)) then (if (w64 ((w64 ((h64.length : Int) - 1)) + 1)) < ((h64 ++ ([(S86.mk 0 0 (⟨#[]⟩ : ByteArray))] : List S86)).length : Int) then (if 0 ≤ (w64 (x4 + 1)) then (if (w64 (x4 + 1)) ≤ (x0.size : Int) then (if 0 ≤ x4 then (if x4 ≤ (w64 (x4 + 1)) then (if ((rd_T86 (h64 ++ ([(S86.mk 0 0 (⟨#[]⟩ : ByteArray))] : List S86)) (w64 ((w64 ((h64.length : Int) - 1)) + 1))).f2).size + (x0.extract x4.toNat ((w64 (x4 + 1)).toNat)).size ≤ 9223372036854775807 then (if 0 ≤ (w64 ((w64 ((h64.length : Int) - 1)) + 1)) then (if (w64 ((w64 ((h64.length : Int) - 1)) + 1)) < ((h64 ++ ([(S86.mk 0 0 (⟨#[]⟩ : ByteArray))] : List S86)).length : Int) then (impl_TokensOf.c5 k x0 (w64 (x4 + 1)) ((h64 ++ ([(S86.mk 0 0 (⟨#[]⟩ : ByteArray))] : List S86)).set ((w64 ((w64 ((h64.length : Int) - 1)) + 1)).toNat) (S86.mk ((rd_T86 (h64 ++ ([(S86.mk 0 0 (⟨#[]⟩ : ByteArray))] : List S86)) (w64 ((w64 ((h64.length : Int) - 1)) + 1))).f0) ((rd_T86 (h64 ++ ([(S86.mk 0 0 (⟨#[]⟩ : ByteArray))] : List S86)) (w64 ((w64 ((h64.length : Int) - 1)) + 1))).f1) (((rd_T86 (h64 ++ ([(S86.mk 0 0 (⟨#[]⟩ : ByteArray))] : List S86)) (w64 ((w64 ((h64.length : Int) - 1)) + 1))).f2) ++ (x0.extract x4.toNat ((w64 (x4 + 1)).toNat)))))) else none) else none) else none) else none) else none) else none) else none) else none) else none) else none) else (if 0 ≤ (w64 ((h64.length : Int) - 1)) then (if (w64 ((h64.length : Int) - 1)) < (h64.length : Int) then (if ((rd_T86 h64 (w64 ((h64.length : Int) - 1))).f0) > 0 then (if h64.length + ([(S86.mk 0 0 (⟨#[]⟩ : ByteArray))] : List S86).length ≤ 4398046511104 then (if 0 ≤ (w64 ((w64 ((h64.length : Int) - 1)) + 1)) then (if (w64 ((w64 ((h64.length : Int) - 1)) + 1)) < ((h64 ++ ([(S86.mk 0 0 (⟨#[]⟩ : ByteArray))] : List S86)).length : Int) then (if 0 ≤ (w64 (x4 + 1)) then (if (w64 (x4 + 1)) ≤ (x0.size : Int) then (if 0 ≤ x4 then (if x4 ≤ (w64 (x4 + 1)) then (if ((rd_T86 (h64 ++ ([(S86.mk 0 0 (⟨#[]⟩ : ByteArray))] : List S86)) (w64 ((w64 ((h64.length : Int) - 1)) + 1))).f2).size + (x0.extract x4.toNat ((w64 (x4 + 1)).toNat)).size ≤ 9223372036854775807 then (if 0 ≤ (w64 ((w64 ((h64.length : Int) - 1)) + 1)) then (if (w64 ((w64 ((h64.length : Int) - 1)) + 1)) < ((h64 ++ ([(S86.mk 0 0 (⟨#[]⟩ : ByteArray))] : List S86)).length : Int) then (impl_TokensOf.c5 k x0 (w64 (x4 + 1)) ((h64 ++ ([(S86.mk 0 0 (⟨#[]⟩ : ByteArray))] : List S86)).set ((w64 ((w64 ((h64.length : Int) - 1)) + 1)).toNat) (S86.mk ((rd_T86 (h64 ++ ([(S86.mk 0 0 (⟨#[]⟩ : ByteArray))] : List S86)) (w64 ((w64 ((h64.length : Int) - 1)) + 1))).f0) ((rd_T86 (h64 ++ ([(S86.mk 0 0 (⟨#[]⟩ : ByteArray))] : List S86)) (w64 ((w64 ((h64.length : Int) - 1)) + 1))).f1) (((rd_T86 (h64 ++ ([(S86.mk 0 0 (⟨#[]⟩ : ByteArray))] : List S86)) (w64 ((w64 ((h64.length : Int) - 1)) + 1))).f2) ++ (x0.extract x4.toNat ((w64 (x4 + 1)).toNat)))))) else none) else none) else none) else none) else none) else none) else none) else none) else none) else none) else (if 0 ≤ (w64 ((h64.length : Int) - 1)) then (if (w64 ((h64.length : Int) - 1)) < (h64.length : Int) then (if (((rd_T86 h64 (w64 ((h64.length : Int) - 1))).f2).size : Int) ≥ 31 then (if h64.length + ([(S86.mk 0 0 (⟨#[]⟩ : ByteArray))] : List S86).length ≤ 4398046511104 then (if 0 ≤ (w64 ((w64 ((h64.length : Int) - 1)) + 1)) then (if (w64 ((w64 ((h64.length : Int) - 1)) + 1)) < ((h64 ++ ([(S86.mk 0 0 (⟨#[]⟩ : ByteArray))] : List S86)).length : Int) then (if 0 ≤ (w64 (x4 + 1)) then (if (w64 (x4 + 1)) ≤ (x0.size : Int) then (if 0 ≤ x4 then (if x4 ≤ (w64 (x4 + 1)) then (if ((rd_T86 (h64 ++ ([(S86.mk 0 0 (⟨#[]⟩ : ByteArray))] : List S86)) (w64 ((w64 ((h64.length : Int) - 1)) + 1))).f2).size + (x0.extract x4.toNat ((w64 (x4 + 1)).toNat)).size ≤ 9223372036854775807 then (if 0 ≤ (w64 ((w64 ((h64.length : Int) - 1)) + 1)) then (if (w64 ((w64 ((h64.length : Int) - 1)) + 1)) < ((h64 ++ ([(S86.mk 0 0 (⟨#[]⟩ : ByteArray))] : List S86)).length : Int) then (impl_TokensOf.c5 k x0 (w64 (x4 + 1)) ((h64 ++ ([(S86.mk 0 0 (⟨#[]⟩ : ByteArray))] : List S86)).set ((w64 ((w64 ((h64.length : Int) - 1)) + 1)).toNat) (S86.mk ((rd_T86 (h64 ++ ([(S86.mk 0 0 (⟨#[]⟩ : ByteArray))] : List S86)) (w64 ((w64 ((h64.length : Int) - 1)) + 1))).f0) ((rd_T86 (h64 ++ ([(S86.mk 0 0 (⟨#[]⟩ : ByteArray))] : List S86)) (w64 ((w64 ((h64.length : Int) - 1)) + 1))).f1) (((rd_T86 (h64 ++ ([(S86.mk 0 0 (⟨#[]⟩ : ByteArray))] : List S86)) (w64 ((w64 ((h64.length : Int) - 1)) + 1))).f2) ++ (x0.extract x4.toNat ((w64 (x4 + 1)).toNat)))))) else none) else none) else none) else none) else none) else none) else none) else none) else none) else none) else (if 0 ≤ (w64 ((h64.length : Int) - 1)) then (if (w64 ((h64.length : Int) - 1)) < (h64.length : Int) then (if 0 ≤ (w64 (x4 + 1)) then (if (w64 (x4 + 1)) ≤ (x0.size : Int) then (if 0 ≤ x4 then (if x4 ≤ (w64 (x4 + 1)) then (if ((rd_T86 h64 (w64 ((h64.length : Int) - 1))).f2).size + (x0.extract x4.toNat ((w64 (x4 + 1)).toNat)).size ≤ 9223372036854775807 then (if 0 ≤ (w64 ((h64.length : Int) - 1)) then (if (w64 ((h64.length : Int) - 1)) < (h64.length : Int) then (impl_TokensOf.c5 k x0 (w64 (x4 + 1)) (h64.set ((w64 ((h64.length : Int) - 1)).toNat) (S86.mk ((rd_T86 h64 (w64 ((h64.length : Int) - 1))).f0) ((rd_T86 h64 (w64 ((h64.length : Int) - 1))).f1) (((rd_T86 h64 (w64 ((h64.length : Int) - 1))).f2) ++ (x0.extract x4.toNat ((w64 (x4 + 1)).toNat)))))) else none) else none) else none) else none) else none) else none) else none) else none) else none)) else none) else none)) else none) else none)))) else (some (h64)))
noncomputable def impl_TokensOf.f (k : Nat) (a0 : ByteArray) : Option ((List S86)) := (if (a0.size : Int) > 64 then (some (([] : List S86))) else (impl_TokensOf.c5 k a0 0 ([] : List S86)))
noncomputable def impl_TokensOf.e (r : (List S86)) : Res Ty D := (.sl 0 none, [], [.rowb .t86 r 0])
noncomputable abbrev impl_TokensOf.g (rec : List Item → St Ty D → R) (k : Nat) := go1 Try.f50 (impl_TokensOf.ctx k) impl_TokensOf.sp 0 impl_TokensOf.en rec
set_option maxRecDepth 100000 in
theorem impl_TokensOf.t5 (rec : List Item → St Ty D → R) (k : Nat) (x0 : ByteArray) (x4 : Int) (h64 : List S86) : impl_TokensOf.g rec k (td Try.f50 5) (impl_TokensOf.s5 x0 x4 h64) =
  bif decide (x4 < (x0.size : Int)) then (impl_matchAt.f k x0 x4).bind fun t1 => bif decide (t1.1 > 0) then bif decide (h64.length + ([(S86.mk t1.2 t1.1 (⟨#[]⟩ : ByteArray))] : List S86).length ≤ 4398046511104) then rec (td Try.f50 5) (impl_TokensOf.s5 x0 (w64 (x4 + t1.1)) (h64 ++ ([(S86.mk t1.2 t1.1 (⟨#[]⟩ : ByteArray))] : List S86))) else none else bif decide ((w64 ((h64.length : Int) - 1)) < 0) then bif decide (h64.length + ([(S86.mk 0 0 (⟨#[]⟩ : ByteArray))] : List S86).length ≤ 4398046511104) then bif decide (0 ≤ (w64 ((w64 ((h64.length : Int) - 1)) + 1))) then bif decide ((w64 ((w64 ((h64.length : Int) - 1)) + 1)) < ((h64 ++ ([(S86.mk 0 0 (⟨#[]⟩ : ByteArray))] : List S86)).length : Int)) then bif decide (0 ≤ (w64 (x4 + 1))) then bif decide ((w64 (x4 + 1)) ≤ (x0.size : Int)) then bif decide (0 ≤ x4) then bif decide (x4 ≤ (w64 (x4 + 1))) then bif decide (((rd_T86 (h64 ++ ([(S86.mk 0 0 (⟨#[]⟩ : ByteArray))] : List S86)) (w64 ((w64 ((h64.length : Int) - 1)) + 1))).f2).size + (x0.extract x4.toNat ((w64 (x4 + 1)).toNat)).size ≤ 9223372036854775807) then bif decide (0 ≤ (w64 ((w64 ((h64.length : Int) - 1)) + 1))) then bif decide ((w64 ((w64 ((h64.length : Int) - 1)) + 1)) < ((h64 ++ ([(S86.mk 0 0 (⟨#[]⟩ : ByteArray))] : List S86)).length : Int)) then rec (td Try.f50 5) (impl_TokensOf.s5 x0 (w64 (x4 + 1)) ((h64 ++ ([(S86.mk 0 0 (⟨#[]⟩ : ByteArray))] : List S86)).set ((w64 ((w64 ((h64.length : Int) - 1)) + 1)).toNat) (S86.mk ((rd_T86 (h64 ++ ([(S86.mk 0 0 (⟨#[]⟩ : ByteArray))] : List S86)) (w64 ((w64 ((h64.length : Int) - 1)) + 1))).f0) ((rd_T86 (h64 ++ ([(S86.mk 0 0 (⟨#[]⟩ : ByteArray))] : List S86)) (w64 ((w64 ((h64.length : Int) - 1)) + 1))).f1) (((rd_T86 (h64 ++ ([(S86.mk 0 0 (⟨#[]⟩ : ByteArray))] : List S86)) (w64 ((w64 ((h64.length : Int) - 1)) + 1))).f2) ++ (x0.extract x4.toNat ((w64 (x4 + 1)).toNat)))))) else none else none else none else none else none else none else none else none else none else none else bif decide (0 ≤ (w64 ((h64.length : Int) - 1))) then bif decide ((w64 ((h64.length : Int) - 1)) < (h64.length : Int)) then bif decide (((rd_T86 h64 (w64 ((h64.length : Int) - 1))).f0) > 0) then bif decide (h64.length + ([(S86.mk 0 0 (⟨#[]⟩ : ByteArray))] : List S86).length ≤ 4398046511104) then bif decide (0 ≤ (w64 ((w64 ((h64.length : Int) - 1)) + 1))) then bif decide ((w64 ((w64 ((h64.length : Int) - 1)) + 1)) < ((h64 ++ ([(S86.mk 0 0 (⟨#[]⟩ : ByteArray))] : List S86)).length : Int)) then bif decide (0 ≤ (w64 (x4 + 1))) then bif decide ((w64 (x4 + 1)) ≤ (x0.size : Int)) then bif decide (0 ≤ x4) then bif decide (x4 ≤ (w64 (x4 + 1))) then bif decide (((rd_T86 (h64 ++ ([(S86.mk 0 0 (⟨#[]⟩ : ByteArray))] : List S86)) (w64 ((w64 ((h64.length : Int) - 1)) + 1))).f2).size + (x0.extract x4.toNat ((w64 (x4 + 1)).toNat)).size ≤ 9223372036854775807) then bif decide (0 ≤ (w64 ((w64 ((h64.length : Int) - 1)) + 1))) then bif decide ((w64 ((w64 ((h64.length : Int) - 1)) + 1)) < ((h64 ++ ([(S86.mk 0 0 (⟨#[]⟩ : ByteArray))] : List S86)).length : Int)) then rec (td Try.f50 5) (impl_TokensOf.s5 x0 (w64 (x4 + 1)) ((h64 ++ ([(S86.mk 0 0 (⟨#[]⟩ : ByteArray))] : List S86)).set ((w64 ((w64 ((h64.length : Int) - 1)) + 1)).toNat) (S86.mk ((rd_T86 (h64 ++ ([(S86.mk 0 0 (⟨#[]⟩ : ByteArray))] : List S86)) (w64 ((w64 ((h64.length : Int) - 1)) + 1))).f0) ((rd_T86 (h64 ++ ([(S86.mk 0 0 (⟨#[]⟩ : ByteArray))] : List S86)) (w64 ((w64 ((h64.length : Int) - 1)) + 1))).f1) (((rd_T86 (h64 ++ ([(S86.mk 0 0 (⟨#[]⟩ : ByteArray))] : List S86)) (w64 ((w64 ((h64.length : Int) - 1)) + 1))).f2) ++ (x0.extract x4.toNat ((w64 (x4 + 1)).toNat)))))) else none else none else none else none else none else none else none else none else none else none else bif decide (0 ≤ (w64 ((h64.length : Int) - 1))) then bif decide ((w64 ((h64.length : Int) - 1)) < (h64.length : Int)) then bif decide ((((rd_T86 h64 (w64 ((h64.length : Int) - 1))).f2).size : Int) ≥ 31) then bif decide (h64.length + ([(S86.mk 0 0 (⟨#[]⟩ : ByteArray))] : List S86).length ≤ 4398046511104) then bif decide (0 ≤ (w64 ((w64 ((h64.length : Int) - 1)) + 1))) then bif decide ((w64 ((w64 ((h64.length : Int) - 1)) + 1)) < ((h64 ++ ([(S86.mk 0 0 (⟨#[]⟩ : ByteArray))] : List S86)).length : Int)) then bif decide (0 ≤ (w64 (x4 + 1))) then bif decide ((w64 (x4 + 1)) ≤ (x0.size : Int)) then bif decide (0 ≤ x4) then bif decide (x4 ≤ (w64 (x4 + 1))) then bif decide (((rd_T86 (h64 ++ ([(S86.mk 0 0 (⟨#[]⟩ : ByteArray))] : List S86)) (w64 ((w64 ((h64.length : Int) - 1)) + 1))).f2).size + (x0.extract x4.toNat ((w64 (x4 + 1)).toNat)).size ≤ 9223372036854775807) then bif decide (0 ≤ (w64 ((w64 ((h64.length : Int) - 1)) + 1))) then bif decide ((w64 ((w64 ((h64.length : Int) - 1)) + 1)) < ((h64 ++ ([(S86.mk 0 0 (⟨#[]⟩ : ByteArray))] : List S86)).length : Int)) then rec (td Try.f50 5) (impl_TokensOf.s5 x0 (w64 (x4 + 1)) ((h64 ++ ([(S86.mk 0 0 (⟨#[]⟩ : ByteArray))] : List S86)).set ((w64 ((w64 ((h64.length : Int) - 1)) + 1)).toNat) (S86.mk ((rd_T86 (h64 ++ ([(S86.mk 0 0 (⟨#[]⟩ : ByteArray))] : List S86)) (w64 ((w64 ((h64.length : Int) - 1)) + 1))).f0) ((rd_T86 (h64 ++ ([(S86.mk 0 0 (⟨#[]⟩ : ByteArray))] : List S86)) (w64 ((w64 ((h64.length : Int) - 1)) + 1))).f1) (((rd_T86 (h64 ++ ([(S86.mk 0 0 (⟨#[]⟩ : ByteArray))] : List S86)) (w64 ((w64 ((h64.length : Int) - 1)) + 1))).f2) ++ (x0.extract x4.toNat ((w64 (x4 + 1)).toNat)))))) else none else none else none else none else none else none else none else none else none else none else bif decide (0 ≤ (w64 ((h64.length : Int) - 1))) then bif decide ((w64 ((h64.length : Int) - 1)) < (h64.length : Int)) then bif decide (0 ≤ (w64 (x4 + 1))) then bif decide ((w64 (x4 + 1)) ≤ (x0.size : Int)) then bif decide (0 ≤ x4) then bif decide (x4 ≤ (w64 (x4 + 1))) then bif decide (((rd_T86 h64 (w64 ((h64.length : Int) - 1))).f2).size + (x0.extract x4.toNat ((w64 (x4 + 1)).toNat)).size ≤ 9223372036854775807) then bif decide (0 ≤ (w64 ((h64.length : Int) - 1))) then bif decide ((w64 ((h64.length : Int) - 1)) < (h64.length : Int)) then rec (td Try.f50 5) (impl_TokensOf.s5 x0 (w64 (x4 + 1)) (h64.set ((w64 ((h64.length : Int) - 1)).toNat) (S86.mk ((rd_T86 h64 (w64 ((h64.length : Int) - 1))).f0) ((rd_T86 h64 (w64 ((h64.length : Int) - 1))).f1) (((rd_T86 h64 (w64 ((h64.length : Int) - 1))).f2) ++ (x0.extract x4.toNat ((w64 (x4 + 1)).toNat)))))) else none else none else none else none else none else none else none else none else none else none else none else none else none else some (impl_TokensOf.e (h64)) := by kernel_rfl
set_option maxRecDepth 100000 in
theorem impl_TokensOf.te (rec : List Item → St Ty D → R) (k : Nat) (a0 : ByteArray) : impl_TokensOf.g rec k [.code (body Try.f50)] (startSt [.sc (.string a0)] []) =
  bif decide ((a0.size : Int) > 64) then some (impl_TokensOf.e (([] : List S86))) else rec (td Try.f50 5) (impl_TokensOf.s5 a0 0 ([] : List S86)) := by kernel_rfl
set_option maxRecDepth 100000 in
theorem impl_TokensOf.ok : ∀ k : Nat, (∀ (x0 : ByteArray) (x4 : Int) (h64 : List S86), goF Try.f50 impl_TokensOf.ctx impl_TokensOf.sp 0 impl_TokensOf.en k (td Try.f50 5) (impl_TokensOf.s5 x0 x4 h64) = (impl_TokensOf.c5 k x0 x4 h64).map impl_TokensOf.e)
  | 0 => fun _ _ _ => rfl
  | k + 1 => by
    have ih := impl_TokensOf.ok k
    have i5 := ih
    intro x0 x4 h64; rw [impl_TokensOf.c5]; exact (impl_TokensOf.t5 _ k x0 x4 h64).trans (cd (bn (fun t1 => (cd (cd (i5 _ _ _) rfl) (cd (cd (cd (cd (cd (cd (cd (cd (cd (cd (cd (i5 _ _ _) rfl) rfl) rfl) rfl) rfl) rfl) rfl) rfl) rfl) rfl) (cd (cd (cd (cd (cd (cd (cd (cd (cd (cd (cd (cd (cd (i5 _ _ _) rfl) rfl) rfl) rfl) rfl) rfl) rfl) rfl) rfl) rfl) (cd (cd (cd (cd (cd (cd (cd (cd (cd (cd (cd (cd (cd (i5 _ _ _) rfl) rfl) rfl) rfl) rfl) rfl) rfl) rfl) rfl) rfl) (cd (cd (cd (cd (cd (cd (cd (cd (cd (i5 _ _ _) rfl) rfl) rfl) rfl) rfl) rfl) rfl) rfl) rfl)) rfl) rfl)) rfl) rfl))))) rfl)
set_option maxRecDepth 100000 in
theorem impl_TokensOf.oke (k : Nat) (a0 : ByteArray) : goF Try.f50 impl_TokensOf.ctx impl_TokensOf.sp 0 impl_TokensOf.en (k + 1) [.code (body Try.f50)] (startSt [.sc (.string a0)] []) = (impl_TokensOf.f k a0).map impl_TokensOf.e := by
  have i5 := impl_TokensOf.ok k
  rw [impl_TokensOf.f]; exact (impl_TokensOf.te _ k a0).trans (cd rfl (i5 _ _ _))
theorem impl_TokensOf.con (k : Nat) (a0 : ByteArray) (r) (h : impl_TokensOf.f k a0 = some r) : Contract Try.prog kit 50 [.sc (.string a0)] [] (impl_TokensOf.e r).1 (impl_TokensOf.e r).2.1 (impl_TokensOf.e r).2.2 :=
  con_okG kitOk mix (fun k => (CtxOk.cons (impl_matchAt.xok k) CtxOk.nil)) (impl_TokensOf.oke k a0) h (by kernel_rfl) (by kernel_rfl) (by kernel_rfl) rfl (by kernel_rfl) rfl rfl
noncomputable def impl_TokensOf.x (k : Nat) : X := fun ins bs κ => match ins, bs with
  | [.sc (.string a0)], [] => (impl_TokensOf.f k a0).bind fun r => κ (impl_TokensOf.e r).1 (impl_TokensOf.e r).2.1 (impl_TokensOf.e r).2.2
  | _, _ => none
theorem impl_TokensOf.xok (k : Nat) : XOk 50 (impl_TokensOf.x k) := by
  intro ins bs κ res h
  unfold impl_TokensOf.x at h
  split at h
  · obtain ⟨r, hr, h⟩ := Option.bind_eq_some_iff.1 h
    exact ⟨_, _, _, impl_TokensOf.con k _ r hr, h⟩
  · cases h

/-! ### impl_PackText: function 35 -/
noncomputable def impl_PackText.sp : Nat → Option (Spec Ty) := fun r => bif Nat.beq r 5 then some ⟨[(0, .keep), (4, .own .t5), (12, .own .t86), (13, .keep), (14, .keep)], []⟩ else none
noncomputable def impl_PackText.en : Option (Spec Ty) := none
noncomputable def impl_PackText.s5 (x0 : ByteArray) (x13 : Int) (x14 : Int) (h64 : List Int) (h65 : List S86) : St Ty D := ⟨(Env.put (Env.put (Env.put (Env.put (Env.put E (some 0) (.sc (.string x0))) (some 4) (.sl 64 none)) (some 12) (.sl 65 none)) (some 13) (.sc (.int .i64 x13))) (some 14) (.sc (.int .i64 x14))), Heap.put H0 [(64, some (.rowb .t5 h64 0)), (65, some (.rowb .t86 h65 0))], 1000⟩
noncomputable def impl_PackText.ctx (k : Nat) : Ctx Ty D := (cons 50 (impl_TokensOf.x k) (fun _ _ _ _ => none))
noncomputable def impl_PackText.c5 : Nat → ByteArray → Int → Int → (List Int) → (List S86) → Option (ByteArray × Bool)
  | 0, _, _, _, _, _ => none
  | k + 1, x0, x13, x14, h64, h65 => (if x14 < x13 then (if 0 ≤ x14 then (if x14 < (h65.length : Int) then (if ((rd_T86 h65 x14).f0) > 0 then (if h64.length + ([(Go.IntKind.wrap .u8 ((w64 (128 + ((rd_T86 h65 x14).f1))))), (Go.IntKind.wrap .u8 ((rd_T86 h65 x14).f0))] : List Int).length ≤ 140737488355328 then (impl_PackText.c5 k x0 x13 (w64 (x14 + 1)) (h64 ++ ([(Go.IntKind.wrap .u8 ((w64 (128 + ((rd_T86 h65 x14).f1))))), (Go.IntKind.wrap .u8 ((rd_T86 h65 x14).f0))] : List Int)) h65) else none) else (if h64.length + ([(Go.IntKind.wrap .u8 ((((rd_T86 h65 x14).f2).size : Int)))] : List Int).length ≤ 140737488355328 then (if (h64 ++ ([(Go.IntKind.wrap .u8 ((((rd_T86 h65 x14).f2).size : Int)))] : List Int)).length + (bytesOf ((rd_T86 h65 x14).f2)).length ≤ 140737488355328 then (impl_PackText.c5 k x0 x13 (w64 (x14 + 1)) ((h64 ++ ([(Go.IntKind.wrap .u8 ((((rd_T86 h65 x14).f2).size : Int)))] : List Int)) ++ (bytesOf ((rd_T86 h65 x14).f2))) h65) else none) else none)) else none) else none) else (if (w64 ((x0.size : Int) + 1)) ≤ (h64.length : Int) then (if (⟨#[114]⟩ : ByteArray).size + x0.size ≤ 9223372036854775807 then (some (((⟨#[114]⟩ : ByteArray) ++ x0), true)) else none) else (some ((strOfNums h64), true))))
noncomputable def impl_PackText.f (k : Nat) (a0 : ByteArray) : Option (ByteArray × Bool) := (if (a0.size : Int) > 64 then (some ((⟨#[]⟩ : ByteArray), false)) else ((impl_TokensOf.f k a0).bind fun t1 => (impl_PackText.c5 k a0 (t1.length : Int) 0 ([122] : List Int) t1)))
noncomputable def impl_PackText.e (r : ByteArray × Bool) : Res Ty D := (.tu [.sc (.string r.1), .sc (.bool r.2)], [], [])
noncomputable abbrev impl_PackText.g (rec : List Item → St Ty D → R) (k : Nat) := go1 Try.f35 (impl_PackText.ctx k) impl_PackText.sp 0 impl_PackText.en rec
set_option maxRecDepth 100000 in
theorem impl_PackText.t5 (rec : List Item → St Ty D → R) (k : Nat) (x0 : ByteArray) (x13 : Int) (x14 : Int) (h64 : List Int) (h65 : List S86) : impl_PackText.g rec k (td Try.f35 5) (impl_PackText.s5 x0 x13 x14 h64 h65) =
  bif decide (x14 < x13) then bif decide (0 ≤ x14) then bif decide (x14 < (h65.length : Int)) then bif decide (((rd_T86 h65 x14).f0) > 0) then bif decide (h64.length + ([(Go.IntKind.wrap .u8 ((w64 (128 + ((rd_T86 h65 x14).f1))))), (Go.IntKind.wrap .u8 ((rd_T86 h65 x14).f0))] : List Int).length ≤ 140737488355328) then rec (td Try.f35 5) (impl_PackText.s5 x0 x13 (w64 (x14 + 1)) (h64 ++ ([(Go.IntKind.wrap .u8 ((w64 (128 + ((rd_T86 h65 x14).f1))))), (Go.IntKind.wrap .u8 ((rd_T86 h65 x14).f0))] : List Int)) h65) else none else bif decide (h64.length + ([(Go.IntKind.wrap .u8 ((((rd_T86 h65 x14).f2).size : Int)))] : List Int).length ≤ 140737488355328) then bif decide ((h64 ++ ([(Go.IntKind.wrap .u8 ((((rd_T86 h65 x14).f2).size : Int)))] : List Int)).length + (bytesOf ((rd_T86 h65 x14).f2)).length ≤ 140737488355328) then rec (td Try.f35 5) (impl_PackText.s5 x0 x13 (w64 (x14 + 1)) ((h64 ++ ([(Go.IntKind.wrap .u8 ((((rd_T86 h65 x14).f2).size : Int)))] : List Int)) ++ (bytesOf ((rd_T86 h65 x14).f2))) h65) else none else none else none else none else bif decide ((w64 ((x0.size : Int) + 1)) ≤ (h64.length : Int)) then bif decide ((⟨#[114]⟩ : ByteArray).size + x0.size ≤ 9223372036854775807) then some (impl_PackText.e (((⟨#[114]⟩ : ByteArray) ++ x0), true)) else none else some (impl_PackText.e ((strOfNums h64), true)) := by kernel_rfl
set_option maxRecDepth 100000 in
theorem impl_PackText.te (rec : List Item → St Ty D → R) (k : Nat) (a0 : ByteArray) : impl_PackText.g rec k [.code (body Try.f35)] (startSt [.sc (.string a0)] []) =
  bif decide ((a0.size : Int) > 64) then some (impl_PackText.e ((⟨#[]⟩ : ByteArray), false)) else (impl_TokensOf.f k a0).bind fun t1 => rec (td Try.f35 5) (impl_PackText.s5 a0 (t1.length : Int) 0 ([122] : List Int) t1) := by kernel_rfl
set_option maxRecDepth 100000 in
theorem impl_PackText.ok : ∀ k : Nat, (∀ (x0 : ByteArray) (x13 : Int) (x14 : Int) (h64 : List Int) (h65 : List S86), goF Try.f35 impl_PackText.ctx impl_PackText.sp 0 impl_PackText.en k (td Try.f35 5) (impl_PackText.s5 x0 x13 x14 h64 h65) = (impl_PackText.c5 k x0 x13 x14 h64 h65).map impl_PackText.e)
  | 0 => fun _ _ _ _ _ => rfl
  | k + 1 => by
    have ih := impl_PackText.ok k
    have i5 := ih
    intro x0 x13 x14 h64 h65; rw [impl_PackText.c5]; exact (impl_PackText.t5 _ k x0 x13 x14 h64 h65).trans (cd (cd (cd (cd (cd (i5 _ _ _ _ _) rfl) (cd (cd (i5 _ _ _ _ _) rfl) rfl)) rfl) rfl) (cd (cd rfl rfl) rfl))
set_option maxRecDepth 100000 in
theorem impl_PackText.oke (k : Nat) (a0 : ByteArray) : goF Try.f35 impl_PackText.ctx impl_PackText.sp 0 impl_PackText.en (k + 1) [.code (body Try.f35)] (startSt [.sc (.string a0)] []) = (impl_PackText.f k a0).map impl_PackText.e := by
  have i5 := impl_PackText.ok k
  rw [impl_PackText.f]; exact (impl_PackText.te _ k a0).trans (cd rfl (bn (fun t1 => (i5 _ _ _ _ _))))
theorem impl_PackText.con (k : Nat) (a0 : ByteArray) (r) (h : impl_PackText.f k a0 = some r) : Contract Try.prog kit 35 [.sc (.string a0)] [] (impl_PackText.e r).1 (impl_PackText.e r).2.1 (impl_PackText.e r).2.2 :=
  con_okG kitOk mix (fun k => (CtxOk.cons (impl_TokensOf.xok k) CtxOk.nil)) (impl_PackText.oke k a0) h (by kernel_rfl) (by kernel_rfl) (by kernel_rfl) rfl (by kernel_rfl) rfl rfl
noncomputable def impl_PackText.x (k : Nat) : X := fun ins bs κ => match ins, bs with
  | [.sc (.string a0)], [] => (impl_PackText.f k a0).bind fun r => κ (impl_PackText.e r).1 (impl_PackText.e r).2.1 (impl_PackText.e r).2.2
  | _, _ => none
theorem impl_PackText.xok (k : Nat) : XOk 35 (impl_PackText.x k) := by
  intro ins bs κ res h
  unfold impl_PackText.x at h
  split at h
  · obtain ⟨r, hr, h⟩ := Option.bind_eq_some_iff.1 h
    exact ⟨_, _, _, impl_PackText.con k _ r hr, h⟩
  · cases h

/-! ### impl_UnpackText: function 24 -/
noncomputable def impl_UnpackText.sp : Nat → Option (Spec Ty) := fun r => none
noncomputable def impl_UnpackText.en : Option (Spec Ty) := none
noncomputable def impl_UnpackText.ctx (k : Nat) : Ctx Ty D := (cons 33 (impl_tokensIn.x k) (cons 34 (impl_PlainOf.x k) (cons 35 (impl_PackText.x k) (fun _ _ _ _ => none))))
noncomputable def impl_UnpackText.f (k : Nat) (a0 : ByteArray) : Option (ByteArray × Bool) := (if (seq a0 (⟨#[]⟩ : ByteArray)) = true then (some ((⟨#[]⟩ : ByteArray), false)) else (if 1 ≤ (a0.size : Int) then (if 0 < (a0.size : Int) then (if (bt a0 0) = 114 then ((impl_PackText.f k (a0.extract 1 a0.size)).bind fun t4 => (if t4.2 = true then (if (seq t4.1 a0) = true then (some ((a0.extract 1 a0.size), true)) else (some ((⟨#[]⟩ : ByteArray), false))) else (some ((⟨#[]⟩ : ByteArray), false)))) else ((impl_tokensIn.f k (a0.extract 1 a0.size)).bind fun t1 => ((impl_PlainOf.f k t1.1).bind fun t2 => (if t1.2 = true then (if t2.2 = true then ((impl_PackText.f k t2.1).bind fun t3 => (if t3.2 = true then (if (seq t3.1 a0) = true then (some (t2.1, true)) else (some ((⟨#[]⟩ : ByteArray), false))) else (some ((⟨#[]⟩ : ByteArray), false)))) else (some ((⟨#[]⟩ : ByteArray), false))) else (some ((⟨#[]⟩ : ByteArray), false)))))) else none) else none))
noncomputable def impl_UnpackText.e (r : ByteArray × Bool) : Res Ty D := (.tu [.sc (.string r.1), .sc (.bool r.2)], [], [])
noncomputable abbrev impl_UnpackText.g (rec : List Item → St Ty D → R) (k : Nat) := go1 Try.f24 (impl_UnpackText.ctx k) impl_UnpackText.sp 0 impl_UnpackText.en rec
set_option maxRecDepth 100000 in
theorem impl_UnpackText.te (rec : List Item → St Ty D → R) (k : Nat) (a0 : ByteArray) : impl_UnpackText.g rec k [.code (body Try.f24)] (startSt [.sc (.string a0)] []) =
  bif (seq a0 (⟨#[]⟩ : ByteArray)) then some (impl_UnpackText.e ((⟨#[]⟩ : ByteArray), false)) else bif decide (1 ≤ (a0.size : Int)) then bif decide (0 < (a0.size : Int)) then bif !decide ((bt a0 0) = 114) then (impl_tokensIn.f k (a0.extract 1 a0.size)).bind fun t1 => (impl_PlainOf.f k t1.1).bind fun t2 => bif !t1.2 then some (impl_UnpackText.e ((⟨#[]⟩ : ByteArray), false)) else bif !t2.2 then some (impl_UnpackText.e ((⟨#[]⟩ : ByteArray), false)) else (impl_PackText.f k t2.1).bind fun t3 => bif !t3.2 then some (impl_UnpackText.e ((⟨#[]⟩ : ByteArray), false)) else bif !(seq t3.1 a0) then some (impl_UnpackText.e ((⟨#[]⟩ : ByteArray), false)) else some (impl_UnpackText.e (t2.1, true)) else (impl_PackText.f k (a0.extract 1 a0.size)).bind fun t4 => bif !t4.2 then some (impl_UnpackText.e ((⟨#[]⟩ : ByteArray), false)) else bif !(seq t4.1 a0) then some (impl_UnpackText.e ((⟨#[]⟩ : ByteArray), false)) else some (impl_UnpackText.e ((a0.extract 1 a0.size), true)) else none else none := by kernel_rfl
set_option maxRecDepth 100000 in
theorem impl_UnpackText.oke (k : Nat) (a0 : ByteArray) : goF Try.f24 impl_UnpackText.ctx impl_UnpackText.sp 0 impl_UnpackText.en (k + 1) [.code (body Try.f24)] (startSt [.sc (.string a0)] []) = (impl_UnpackText.f k a0).map impl_UnpackText.e := by
  rw [impl_UnpackText.f]; exact (impl_UnpackText.te _ k a0).trans (cb rfl (cd (cd (nd (bn (fun t1 => (bn (fun t2 => (nb rfl (nb rfl (bn (fun t3 => (nb rfl (nb rfl rfl)))))))))) (bn (fun t4 => (nb rfl (nb rfl rfl))))) rfl) rfl))
theorem impl_UnpackText.con (k : Nat) (a0 : ByteArray) (r) (h : impl_UnpackText.f k a0 = some r) : Contract Try.prog kit 24 [.sc (.string a0)] [] (impl_UnpackText.e r).1 (impl_UnpackText.e r).2.1 (impl_UnpackText.e r).2.2 :=
  con_okG kitOk mix (fun k => (CtxOk.cons (impl_tokensIn.xok k) (CtxOk.cons (impl_PlainOf.xok k) (CtxOk.cons (impl_PackText.xok k) CtxOk.nil)))) (impl_UnpackText.oke k a0) h (by kernel_rfl) (by kernel_rfl) (by kernel_rfl) rfl (by kernel_rfl) rfl rfl
noncomputable def impl_UnpackText.x (k : Nat) : X := fun ins bs κ => match ins, bs with
  | [.sc (.string a0)], [] => (impl_UnpackText.f k a0).bind fun r => κ (impl_UnpackText.e r).1 (impl_UnpackText.e r).2.1 (impl_UnpackText.e r).2.2
  | _, _ => none
theorem impl_UnpackText.xok (k : Nat) : XOk 24 (impl_UnpackText.x k) := by
  intro ins bs κ res h
  unfold impl_UnpackText.x at h
  split at h
  · obtain ⟨r, hr, h⟩ := Option.bind_eq_some_iff.1 h
    exact ⟨_, _, _, impl_UnpackText.con k _ r hr, h⟩
  · cases h

/-! ### impl_ChunkText: function 12 -/
noncomputable def impl_ChunkText.sp : Nat → Option (Spec Ty) := fun r => none
noncomputable def impl_ChunkText.en : Option (Spec Ty) := none
noncomputable def impl_ChunkText.ctx (k : Nat) : Ctx Ty D := (cons 21 (impl_dataOf.x k) (cons 24 (impl_UnpackText.x k) (fun _ _ _ _ => none)))
noncomputable def impl_ChunkText.f (k : Nat) (a0_0 : List S62) (a1 : Int) : Option (ByteArray × Bool) := ((impl_dataOf.f k a0_0 a1).bind fun t1 => (if t1.2.2.2.2.2.2.2.2 = true then ((impl_UnpackText.f k t1.2.2.2.2.2.2.2.1).bind fun t2 => (some (t2.1, t2.2))) else (some ((⟨#[]⟩ : ByteArray), false))))
noncomputable def impl_ChunkText.e (r : ByteArray × Bool) : Res Ty D := (.tu [.sc (.string r.1), .sc (.bool r.2)], [], [])
noncomputable abbrev impl_ChunkText.g (rec : List Item → St Ty D → R) (k : Nat) := go1 Try.f12 (impl_ChunkText.ctx k) impl_ChunkText.sp 0 impl_ChunkText.en rec
set_option maxRecDepth 100000 in
theorem impl_ChunkText.te (rec : List Item → St Ty D → R) (k : Nat) (a0_0 : List S62) (a1 : Int) : impl_ChunkText.g rec k [.code (body Try.f12)] (startSt [.ag [.row 0 .t62 a0_0], .sc (.int .i64 a1)] []) =
  (impl_dataOf.f k a0_0 a1).bind fun t1 => bif !t1.2.2.2.2.2.2.2.2 then some (impl_ChunkText.e ((⟨#[]⟩ : ByteArray), false)) else (impl_UnpackText.f k t1.2.2.2.2.2.2.2.1).bind fun t2 => some (impl_ChunkText.e (t2.1, t2.2)) := by kernel_rfl
set_option maxRecDepth 100000 in
theorem impl_ChunkText.oke (k : Nat) (a0_0 : List S62) (a1 : Int) : goF Try.f12 impl_ChunkText.ctx impl_ChunkText.sp 0 impl_ChunkText.en (k + 1) [.code (body Try.f12)] (startSt [.ag [.row 0 .t62 a0_0], .sc (.int .i64 a1)] []) = (impl_ChunkText.f k a0_0 a1).map impl_ChunkText.e := by
  rw [impl_ChunkText.f]; exact (impl_ChunkText.te _ k a0_0 a1).trans (bn (fun t1 => (nb rfl (bn (fun t2 => rfl)))))
theorem impl_ChunkText.con (k : Nat) (a0_0 : List S62) (a1 : Int) (r) (h : impl_ChunkText.f k a0_0 a1 = some r) : Contract Try.prog kit 12 [.ag [.row 0 .t62 a0_0], .sc (.int .i64 a1)] [] (impl_ChunkText.e r).1 (impl_ChunkText.e r).2.1 (impl_ChunkText.e r).2.2 :=
  con_okG kitOk mix (fun k => (CtxOk.cons (impl_dataOf.xok k) (CtxOk.cons (impl_UnpackText.xok k) CtxOk.nil))) (impl_ChunkText.oke k a0_0 a1) h (by kernel_rfl) (by kernel_rfl) (by kernel_rfl) rfl (by kernel_rfl) rfl rfl
noncomputable def impl_ChunkText.x (k : Nat) : X := fun ins bs κ => match ins, bs with
  | [.ag [.row 0 .t62 a0_0], .sc (.int .i64 a1)], [] => (impl_ChunkText.f k a0_0 a1).bind fun r => κ (impl_ChunkText.e r).1 (impl_ChunkText.e r).2.1 (impl_ChunkText.e r).2.2
  | _, _ => none
theorem impl_ChunkText.xok (k : Nat) : XOk 12 (impl_ChunkText.x k) := by
  intro ins bs κ res h
  unfold impl_ChunkText.x at h
  split at h
  · obtain ⟨r, hr, h⟩ := Option.bind_eq_some_iff.1 h
    exact ⟨_, _, _, impl_ChunkText.con k _ _ r hr, h⟩
  · cases h

/-! ### laws_FnExactChunkText: function 4 -/
noncomputable def laws_FnExactChunkText.sp : Nat → Option (Spec Ty) := fun r => none
noncomputable def laws_FnExactChunkText.en : Option (Spec Ty) := none
noncomputable def laws_FnExactChunkText.ctx (k : Nat) : Ctx Ty D := (cons 6 (laws_szFlash.x k) (cons 8 (laws_toFlash.x k) (cons 10 (laws_eqFlash.x k) (cons 11 (spec_ChunkText.x k) (cons 12 (impl_ChunkText.x k) (fun _ _ _ _ => none))))))
noncomputable def laws_FnExactChunkText.f (k : Nat) (a0_0 : List S59) (a1 : Int) : Option (Bool) := ((laws_szFlash.f k a0_0 1048576).bind fun t1 => (if t1 < 0 then (some (true)) else ((laws_toFlash.f k a0_0).bind fun t2 => ((spec_ChunkText.f k t2 a1).bind fun t3 => ((laws_toFlash.f k a0_0).bind fun t4 => ((impl_ChunkText.f k t4 a1).bind fun t5 => (if (seq t5.1 t3.1) = true then (if (t5.2 == t3.2) = true then ((laws_toFlash.f k a0_0).bind fun t6 => ((laws_eqFlash.f k t4 t6).bind fun t7 => (if t7 = true then (some (true)) else (some (false))))) else (some (false))) else (some (false)))))))))
noncomputable def laws_FnExactChunkText.e (r : Bool) : Res Ty D := (.sc (.bool r), [], [])
noncomputable abbrev laws_FnExactChunkText.g (rec : List Item → St Ty D → R) (k : Nat) := go1 Try.f4 (laws_FnExactChunkText.ctx k) laws_FnExactChunkText.sp 0 laws_FnExactChunkText.en rec
set_option maxRecDepth 100000 in
theorem laws_FnExactChunkText.te (rec : List Item → St Ty D → R) (k : Nat) (a0_0 : List S59) (a1 : Int) : laws_FnExactChunkText.g rec k [.code (body Try.f4)] (startSt [.ag [.row 0 .t59 a0_0], .sc (.int .i64 a1)] []) =
  (laws_szFlash.f k a0_0 1048576).bind fun t1 => bif decide (t1 < 0) then some (laws_FnExactChunkText.e (true)) else (laws_toFlash.f k a0_0).bind fun t2 => (spec_ChunkText.f k t2 a1).bind fun t3 => (laws_toFlash.f k a0_0).bind fun t4 => (impl_ChunkText.f k t4 a1).bind fun t5 => bif !(seq t5.1 t3.1) then some (laws_FnExactChunkText.e (false)) else bif !(t5.2 == t3.2) then some (laws_FnExactChunkText.e (false)) else (laws_toFlash.f k a0_0).bind fun t6 => (laws_eqFlash.f k t4 t6).bind fun t7 => bif !t7 then some (laws_FnExactChunkText.e (false)) else some (laws_FnExactChunkText.e (true)) := by kernel_rfl
set_option maxRecDepth 100000 in
theorem laws_FnExactChunkText.oke (k : Nat) (a0_0 : List S59) (a1 : Int) : goF Try.f4 laws_FnExactChunkText.ctx laws_FnExactChunkText.sp 0 laws_FnExactChunkText.en (k + 1) [.code (body Try.f4)] (startSt [.ag [.row 0 .t59 a0_0], .sc (.int .i64 a1)] []) = (laws_FnExactChunkText.f k a0_0 a1).map laws_FnExactChunkText.e := by
  rw [laws_FnExactChunkText.f]; exact (laws_FnExactChunkText.te _ k a0_0 a1).trans (bn (fun t1 => (cd rfl (bn (fun t2 => (bn (fun t3 => (bn (fun t4 => (bn (fun t5 => (nb rfl (nb rfl (bn (fun t6 => (bn (fun t7 => (nb rfl rfl))))))))))))))))))
theorem laws_FnExactChunkText.con (k : Nat) (a0_0 : List S59) (a1 : Int) (r) (h : laws_FnExactChunkText.f k a0_0 a1 = some r) : Contract Try.prog kit 4 [.ag [.row 0 .t59 a0_0], .sc (.int .i64 a1)] [] (laws_FnExactChunkText.e r).1 (laws_FnExactChunkText.e r).2.1 (laws_FnExactChunkText.e r).2.2 :=
  con_okG kitOk mix (fun k => (CtxOk.cons (laws_szFlash.xok k) (CtxOk.cons (laws_toFlash.xok k) (CtxOk.cons (laws_eqFlash.xok k) (CtxOk.cons (spec_ChunkText.xok k) (CtxOk.cons (impl_ChunkText.xok k) CtxOk.nil)))))) (laws_FnExactChunkText.oke k a0_0 a1) h (by kernel_rfl) (by kernel_rfl) (by kernel_rfl) rfl (by kernel_rfl) rfl rfl
noncomputable def laws_FnExactChunkText.x (k : Nat) : X := fun ins bs κ => match ins, bs with
  | [.ag [.row 0 .t59 a0_0], .sc (.int .i64 a1)], [] => (laws_FnExactChunkText.f k a0_0 a1).bind fun r => κ (laws_FnExactChunkText.e r).1 (laws_FnExactChunkText.e r).2.1 (laws_FnExactChunkText.e r).2.2
  | _, _ => none
theorem laws_FnExactChunkText.xok (k : Nat) : XOk 4 (laws_FnExactChunkText.x k) := by
  intro ins bs κ res h
  unfold laws_FnExactChunkText.x at h
  split at h
  · obtain ⟨r, hr, h⟩ := Option.bind_eq_some_iff.1 h
    exact ⟨_, _, _, laws_FnExactChunkText.con k _ _ r hr, h⟩
  · cases h

/-! ### spec_l13Same: function 25 -/
noncomputable def spec_l13Same.sp : Nat → Option (Spec Ty) := fun r => bif Nat.beq r 2 then some ⟨[(0, .keep), (1, .keep), (2, .keep), (7, .keep)], []⟩ else none
noncomputable def spec_l13Same.en : Option (Spec Ty) := none
noncomputable def spec_l13Same.s2 (x0 : List S45) (x1 : List Int) (x2 : ByteArray) (x7 : Int) : St Ty D := ⟨(Env.put (Env.put (Env.put (Env.put E (some 0) (.row 0 .t45 x0)) (some 1) (.row 0 .t3 x1)) (some 2) (.sc (.string x2))) (some 7) (.sc (.int .i64 x7))), H0, 1000⟩
noncomputable def spec_l13Same.ctx (k : Nat) : Ctx Ty D := (cons 23 (spec_l13Text.x k) (fun _ _ _ _ => none))
noncomputable def spec_l13Same.c2 : Nat → (List S45) → (List Int) → ByteArray → Int → Option (Int)
  | 0, _, _, _, _ => none
  | k + 1, x0, x1, x2, x7 => (if x7 < (x1.length : Int) then (if 0 ≤ x7 then (if x7 < (x1.length : Int) then ((spec_l13Text.f k x0 (rd_T3 x1 x7)).bind fun t1 => (if t1.2 = true then (if (seq t1.1 x2) = true then (if 0 ≤ x7 then (if x7 < (x1.length : Int) then (some ((rd_T3 x1 x7))) else none) else none) else (spec_l13Same.c2 k x0 x1 x2 (w64 (x7 + 1)))) else (spec_l13Same.c2 k x0 x1 x2 (w64 (x7 + 1))))) else none) else none) else (some (0)))
noncomputable def spec_l13Same.f (k : Nat) (a0 : List S45) (a1 : List Int) (a2 : ByteArray) : Option (Int) := (spec_l13Same.c2 k a0 a1 a2 0)
noncomputable def spec_l13Same.e (r : Int) : Res Ty D := (.sc (.int .i64 r), [], [])
noncomputable abbrev spec_l13Same.g (rec : List Item → St Ty D → R) (k : Nat) := go1 Try.f25 (spec_l13Same.ctx k) spec_l13Same.sp 0 spec_l13Same.en rec
set_option maxRecDepth 100000 in
theorem spec_l13Same.t2 (rec : List Item → St Ty D → R) (k : Nat) (x0 : List S45) (x1 : List Int) (x2 : ByteArray) (x7 : Int) : spec_l13Same.g rec k (td Try.f25 2) (spec_l13Same.s2 x0 x1 x2 x7) =
  bif decide (x7 < (x1.length : Int)) then bif decide (0 ≤ x7) then bif decide (x7 < (x1.length : Int)) then (spec_l13Text.f k x0 (rd_T3 x1 x7)).bind fun t1 => bif t1.2 then bif (seq t1.1 x2) then bif decide (0 ≤ x7) then bif decide (x7 < (x1.length : Int)) then some (spec_l13Same.e ((rd_T3 x1 x7))) else none else none else rec (td Try.f25 2) (spec_l13Same.s2 x0 x1 x2 (w64 (x7 + 1))) else rec (td Try.f25 2) (spec_l13Same.s2 x0 x1 x2 (w64 (x7 + 1))) else none else none else some (spec_l13Same.e (0)) := by kernel_rfl
set_option maxRecDepth 100000 in
theorem spec_l13Same.te (rec : List Item → St Ty D → R) (k : Nat) (a0 : List S45) (a1 : List Int) (a2 : ByteArray) : spec_l13Same.g rec k [.code (body Try.f25)] (startSt [.row 0 .t45 a0, .row 0 .t3 a1, .sc (.string a2)] []) =
  rec (td Try.f25 2) (spec_l13Same.s2 a0 a1 a2 0) := by kernel_rfl
set_option maxRecDepth 100000 in
theorem spec_l13Same.ok : ∀ k : Nat, (∀ (x0 : List S45) (x1 : List Int) (x2 : ByteArray) (x7 : Int), goF Try.f25 spec_l13Same.ctx spec_l13Same.sp 0 spec_l13Same.en k (td Try.f25 2) (spec_l13Same.s2 x0 x1 x2 x7) = (spec_l13Same.c2 k x0 x1 x2 x7).map spec_l13Same.e)
  | 0 => fun _ _ _ _ => rfl
  | k + 1 => by
    have ih := spec_l13Same.ok k
    have i2 := ih
    intro x0 x1 x2 x7; rw [spec_l13Same.c2]; exact (spec_l13Same.t2 _ k x0 x1 x2 x7).trans (cd (cd (cd (bn (fun t1 => (cb (cb (cd (cd rfl rfl) rfl) (i2 _ _ _ _)) (i2 _ _ _ _)))) rfl) rfl) rfl)
set_option maxRecDepth 100000 in
theorem spec_l13Same.oke (k : Nat) (a0 : List S45) (a1 : List Int) (a2 : ByteArray) : goF Try.f25 spec_l13Same.ctx spec_l13Same.sp 0 spec_l13Same.en (k + 1) [.code (body Try.f25)] (startSt [.row 0 .t45 a0, .row 0 .t3 a1, .sc (.string a2)] []) = (spec_l13Same.f k a0 a1 a2).map spec_l13Same.e := by
  have i2 := spec_l13Same.ok k
  rw [spec_l13Same.f]; exact (spec_l13Same.te _ k a0 a1 a2).trans (i2 _ _ _ _)
theorem spec_l13Same.con (k : Nat) (a0 : List S45) (a1 : List Int) (a2 : ByteArray) (r) (h : spec_l13Same.f k a0 a1 a2 = some r) : Contract Try.prog kit 25 [.row 0 .t45 a0, .row 0 .t3 a1, .sc (.string a2)] [] (spec_l13Same.e r).1 (spec_l13Same.e r).2.1 (spec_l13Same.e r).2.2 :=
  con_okG kitOk mix (fun k => (CtxOk.cons (spec_l13Text.xok k) CtxOk.nil)) (spec_l13Same.oke k a0 a1 a2) h (by kernel_rfl) (by kernel_rfl) (by kernel_rfl) rfl (by kernel_rfl) rfl rfl
noncomputable def spec_l13Same.x (k : Nat) : X := fun ins bs κ => match ins, bs with
  | [.row 0 .t45 a0, .row 0 .t3 a1, .sc (.string a2)], [] => (spec_l13Same.f k a0 a1 a2).bind fun r => κ (spec_l13Same.e r).1 (spec_l13Same.e r).2.1 (spec_l13Same.e r).2.2
  | _, _ => none
theorem spec_l13Same.xok (k : Nat) : XOk 25 (spec_l13Same.x k) := by
  intro ins bs κ res h
  unfold spec_l13Same.x at h
  split at h
  · obtain ⟨r, hr, h⟩ := Option.bind_eq_some_iff.1 h
    exact ⟨_, _, _, spec_l13Same.con k _ _ _ r hr, h⟩
  · cases h

/-! ### spec_FindSame: function 13 -/
noncomputable def spec_FindSame.sp : Nat → Option (Spec Ty) := fun r => none
noncomputable def spec_FindSame.en : Option (Spec Ty) := none
noncomputable def spec_FindSame.ctx (k : Nat) : Ctx Ty D := (cons 19 (spec_ScanAll.x k) (cons 25 (spec_l13Same.x k) (fun _ _ _ _ => none)))
noncomputable def spec_FindSame.f (k : Nat) (a0_0 : List S62) (a1 : List Int) (a2 : ByteArray) : Option (Int) := ((spec_ScanAll.f k a0_0).bind fun t1 => ((spec_l13Same.f k t1 a1 a2).bind fun t2 => (some (t2))))
noncomputable def spec_FindSame.e (r : Int) : Res Ty D := (.sc (.int .i64 r), [], [])
noncomputable abbrev spec_FindSame.g (rec : List Item → St Ty D → R) (k : Nat) := go1 Try.f13 (spec_FindSame.ctx k) spec_FindSame.sp 0 spec_FindSame.en rec
set_option maxRecDepth 100000 in
theorem spec_FindSame.te (rec : List Item → St Ty D → R) (k : Nat) (a0_0 : List S62) (a1 : List Int) (a2 : ByteArray) : spec_FindSame.g rec k [.code (body Try.f13)] (startSt [.ag [.row 0 .t62 a0_0], .row 0 .t3 a1, .sc (.string a2)] []) =
  (spec_ScanAll.f k a0_0).bind fun t1 => (spec_l13Same.f k t1 a1 a2).bind fun t2 => some (spec_FindSame.e (t2)) := by kernel_rfl
set_option maxRecDepth 100000 in
theorem spec_FindSame.oke (k : Nat) (a0_0 : List S62) (a1 : List Int) (a2 : ByteArray) : goF Try.f13 spec_FindSame.ctx spec_FindSame.sp 0 spec_FindSame.en (k + 1) [.code (body Try.f13)] (startSt [.ag [.row 0 .t62 a0_0], .row 0 .t3 a1, .sc (.string a2)] []) = (spec_FindSame.f k a0_0 a1 a2).map spec_FindSame.e := by
  rw [spec_FindSame.f]; exact (spec_FindSame.te _ k a0_0 a1 a2).trans (bn (fun t1 => (bn (fun t2 => rfl))))
theorem spec_FindSame.con (k : Nat) (a0_0 : List S62) (a1 : List Int) (a2 : ByteArray) (r) (h : spec_FindSame.f k a0_0 a1 a2 = some r) : Contract Try.prog kit 13 [.ag [.row 0 .t62 a0_0], .row 0 .t3 a1, .sc (.string a2)] [] (spec_FindSame.e r).1 (spec_FindSame.e r).2.1 (spec_FindSame.e r).2.2 :=
  con_okG kitOk mix (fun k => (CtxOk.cons (spec_ScanAll.xok k) (CtxOk.cons (spec_l13Same.xok k) CtxOk.nil))) (spec_FindSame.oke k a0_0 a1 a2) h (by kernel_rfl) (by kernel_rfl) (by kernel_rfl) rfl (by kernel_rfl) rfl rfl
noncomputable def spec_FindSame.x (k : Nat) : X := fun ins bs κ => match ins, bs with
  | [.ag [.row 0 .t62 a0_0], .row 0 .t3 a1, .sc (.string a2)], [] => (spec_FindSame.f k a0_0 a1 a2).bind fun r => κ (spec_FindSame.e r).1 (spec_FindSame.e r).2.1 (spec_FindSame.e r).2.2
  | _, _ => none
theorem spec_FindSame.xok (k : Nat) : XOk 13 (spec_FindSame.x k) := by
  intro ins bs κ res h
  unfold spec_FindSame.x at h
  split at h
  · obtain ⟨r, hr, h⟩ := Option.bind_eq_some_iff.1 h
    exact ⟨_, _, _, spec_FindSame.con k _ _ _ r hr, h⟩
  · cases h
end Go.Proofs.Ytbbfkodckpfjcaa.M2

/- Plain runs of functions: each is a plain Lean function, and keeps its contract. Written by a program of this session. -/
namespace Go.Proofs.Ytbbfkodckpfjcaa.M2
open Go Go.Proofs.Ytbbfkodckpfjcaa.PK
set_option linter.unusedVariables false
set_option linter.unusedSimpArgs false
set_option maxHeartbeats 4000000
/-! ### laws_toIntS: function 14 -/
noncomputable def laws_toIntS.sp : Nat → Option (Spec Ty) := fun r => bif Nat.beq r 3 then some ⟨[(0, .keep), (3, .own .t3), (4, .keep)], []⟩ else none
noncomputable def laws_toIntS.en : Option (Spec Ty) := some ⟨[(2, .own .t3)], []⟩
noncomputable def laws_toIntS.s3 (x0 : List Int) (x4 : Int) (h64 : List Int) : St Ty D := ⟨(Env.put (Env.put (Env.put E (some 0) (.row 0 .t3 x0)) (some 3) (.sl 64 none)) (some 4) (.sc (.int .i64 x4))), Heap.put H0 [(64, some (.rowb .t3 h64 0))], 1000⟩
noncomputable def laws_toIntS.ctx (k : Nat) : Ctx Ty D := (fun _ _ _ _ => none)
noncomputable def laws_toIntS.c3 : Nat → (List Int) → Int → (List Int) → Option ((List Int))
  | 0, _, _, _ => none
  | k + 1, x0, x4, h64 => (if x4 < (x0.length : Int) then (if 0 ≤ x4 then (if x4 < (x0.length : Int) then (if 0 ≤ x4 then (if x4 < (h64.length : Int) then (laws_toIntS.c3 k x0 (w64 (x4 + 1)) (h64.set x4.toNat (rd_T3 x0 x4))) else none) else none) else none) else none) else (some (h64)))
noncomputable def laws_toIntS.f (k : Nat) (a0 : List Int) : Option ((List Int)) := (if 0 ≤ (a0.length : Int) then (if (a0.length : Int).toNat ≤ 35184372088832 then (laws_toIntS.c3 k a0 0 (List.replicate ((a0.length : Int).toNat) z3)) else none) else none)
noncomputable def laws_toIntS.e (r : (List Int)) : Res Ty D := (.sl 0 none, [], [.rowb .t3 r 0])
noncomputable abbrev laws_toIntS.g (rec : List Item → St Ty D → R) (k : Nat) := go1 Try.f14 (laws_toIntS.ctx k) laws_toIntS.sp 0 laws_toIntS.en rec
set_option maxRecDepth 100000 in
theorem laws_toIntS.t3 (rec : List Item → St Ty D → R) (k : Nat) (x0 : List Int) (x4 : Int) (h64 : List Int) : laws_toIntS.g rec k (td Try.f14 3) (laws_toIntS.s3 x0 x4 h64) =
  bif decide (x4 < (x0.length : Int)) then bif decide (0 ≤ x4) then bif decide (x4 < (x0.length : Int)) then bif decide (0 ≤ x4) then bif decide (x4 < (h64.length : Int)) then rec (td Try.f14 3) (laws_toIntS.s3 x0 (w64 (x4 + 1)) (h64.set x4.toNat (rd_T3 x0 x4))) else none else none else none else none else some (laws_toIntS.e (h64)) := by kernel_rfl
set_option maxRecDepth 100000 in
theorem laws_toIntS.te (rec : List Item → St Ty D → R) (k : Nat) (a0 : List Int) : laws_toIntS.g rec k [.code (body Try.f14)] (startSt [.row 0 .t3 a0] []) =
  bif decide ((a0.length : Int) = (a0.length : Int)) then bif decide (0 ≤ (a0.length : Int)) then bif decide ((a0.length : Int).toNat ≤ 35184372088832) then rec (td Try.f14 3) (laws_toIntS.s3 a0 0 (List.replicate ((a0.length : Int).toNat) z3)) else none else none else none := by kernel_rfl
set_option maxRecDepth 100000 in
theorem laws_toIntS.ok : ∀ k : Nat, (∀ (x0 : List Int) (x4 : Int) (h64 : List Int), goF Try.f14 laws_toIntS.ctx laws_toIntS.sp 0 laws_toIntS.en k (td Try.f14 3) (laws_toIntS.s3 x0 x4 h64) = (laws_toIntS.c3 k x0 x4 h64).map laws_toIntS.e)
  | 0 => fun _ _ _ => rfl
  | k + 1 => by
    have ih := laws_toIntS.ok k
    have i3 := ih
    intro x0 x4 h64; rw [laws_toIntS.c3]; exact (laws_toIntS.t3 _ k x0 x4 h64).trans (cd (cd (cd (cd (cd (i3 _ _ _) rfl) rfl) rfl) rfl) rfl)
set_option maxRecDepth 100000 in
theorem laws_toIntS.oke (k : Nat) (a0 : List Int) : goF Try.f14 laws_toIntS.ctx laws_toIntS.sp 0 laws_toIntS.en (k + 1) [.code (body Try.f14)] (startSt [.row 0 .t3 a0] []) = (laws_toIntS.f k a0).map laws_toIntS.e := by
  have i3 := laws_toIntS.ok k
  rw [laws_toIntS.f]; exact (laws_toIntS.te _ k a0).trans (sf (cd (cd (i3 _ _ _) rfl) rfl))
theorem laws_toIntS.con (k : Nat) (a0 : List Int) (r) (h : laws_toIntS.f k a0 = some r) : Contract Try.prog kit 14 [.row 0 .t3 a0] [] (laws_toIntS.e r).1 (laws_toIntS.e r).2.1 (laws_toIntS.e r).2.2 :=
  con_okG kitOk mix (fun k => CtxOk.nil) (laws_toIntS.oke k a0) h (by kernel_rfl) (by kernel_rfl) (by kernel_rfl) rfl (by kernel_rfl) rfl rfl
noncomputable def laws_toIntS.x (k : Nat) : X := fun ins bs κ => match ins, bs with
  | [.row 0 .t3 a0], [] => (laws_toIntS.f k a0).bind fun r => κ (laws_toIntS.e r).1 (laws_toIntS.e r).2.1 (laws_toIntS.e r).2.2
  | _, _ => none
theorem laws_toIntS.xok (k : Nat) : XOk 14 (laws_toIntS.x k) := by
  intro ins bs κ res h
  unfold laws_toIntS.x at h
  split at h
  · obtain ⟨r, hr, h⟩ := Option.bind_eq_some_iff.1 h
    exact ⟨_, _, _, laws_toIntS.con k _ r hr, h⟩
  · cases h

/-! ### impl_FindSame: function 15 -/
noncomputable def impl_FindSame.sp : Nat → Option (Spec Ty) := fun r => bif Nat.beq r 2 then some ⟨[(2, .keep), (3, .box [.keep]), (11, .keep), (12, .keep), (13, .keep)], []⟩ else none
noncomputable def impl_FindSame.en : Option (Spec Ty) := none
noncomputable def impl_FindSame.s2 (x2 : ByteArray) (x11 : List Int) (x12 : Int) (x13 : Int) (h64_0 : List S62) : St Ty D := ⟨(Env.put (Env.put (Env.put (Env.put (Env.put E (some 2) (.sc (.string x2))) (some 3) (.pt 64 0 0)) (some 11) (.row 0 .t3 x11)) (some 12) (.sc (.int .i64 x12))) (some 13) (.sc (.int .i64 x13))), Heap.put H0 [(64, some (.box [.row 0 .t62 h64_0]))], 1000⟩
noncomputable def impl_FindSame.ctx (k : Nat) : Ctx Ty D := (cons 12 (impl_ChunkText.x k) (fun _ _ _ _ => none))
noncomputable def impl_FindSame.c2 : Nat → ByteArray → (List Int) → Int → Int → (List S62) → Option (Int)
  | 0, _, _, _, _, _ => none
  | k + 1, x2, x11, x12, x13, h64_0 => (if x13 < x12 then (if 0 ≤ x13 then (if x13 < (x11.length : Int) then ((impl_ChunkText.f k h64_0 (rd_T3 x11 x13)).bind fun t1 => (if t1.2 = true then (if (seq t1.1 x2) = true then (some ((rd_T3 x11 x13))) else (impl_FindSame.c2 k x2 x11 x12 (w64 (x13 + 1)) h64_0)) else (impl_FindSame.c2 k x2 x11 x12 (w64 (x13 + 1)) h64_0))) else none) else none) else (some (0)))
noncomputable def impl_FindSame.f (k : Nat) (a0_0 : List S62) (a1 : List Int) (a2 : ByteArray) : Option (Int) := (impl_FindSame.c2 k a2 a1 (a1.length : Int) 0 a0_0)
noncomputable def impl_FindSame.e (r : Int) : Res Ty D := (.sc (.int .i64 r), [], [])
noncomputable abbrev impl_FindSame.g (rec : List Item → St Ty D → R) (k : Nat) := go1 Try.f15 (impl_FindSame.ctx k) impl_FindSame.sp 0 impl_FindSame.en rec
set_option maxRecDepth 100000 in
theorem impl_FindSame.t2 (rec : List Item → St Ty D → R) (k : Nat) (x2 : ByteArray) (x11 : List Int) (x12 : Int) (x13 : Int) (h64_0 : List S62) : impl_FindSame.g rec k (td Try.f15 2) (impl_FindSame.s2 x2 x11 x12 x13 h64_0) =
  bif decide (x13 < x12) then bif decide (0 ≤ x13) then bif decide (x13 < (x11.length : Int)) then (impl_ChunkText.f k h64_0 (rd_T3 x11 x13)).bind fun t1 => bif t1.2 then bif (seq t1.1 x2) then some (impl_FindSame.e ((rd_T3 x11 x13))) else rec (td Try.f15 2) (impl_FindSame.s2 x2 x11 x12 (w64 (x13 + 1)) h64_0) else rec (td Try.f15 2) (impl_FindSame.s2 x2 x11 x12 (w64 (x13 + 1)) h64_0) else none else none else some (impl_FindSame.e (0)) := by kernel_rfl
set_option maxRecDepth 100000 in
theorem impl_FindSame.te (rec : List Item → St Ty D → R) (k : Nat) (a0_0 : List S62) (a1 : List Int) (a2 : ByteArray) : impl_FindSame.g rec k [.code (body Try.f15)] (startSt [.ag [.row 0 .t62 a0_0], .row 0 .t3 a1, .sc (.string a2)] []) =
  rec (td Try.f15 2) (impl_FindSame.s2 a2 a1 (a1.length : Int) 0 a0_0) := by kernel_rfl
set_option maxRecDepth 100000 in
theorem impl_FindSame.ok : ∀ k : Nat, (∀ (x2 : ByteArray) (x11 : List Int) (x12 : Int) (x13 : Int) (h64_0 : List S62), goF Try.f15 impl_FindSame.ctx impl_FindSame.sp 0 impl_FindSame.en k (td Try.f15 2) (impl_FindSame.s2 x2 x11 x12 x13 h64_0) = (impl_FindSame.c2 k x2 x11 x12 x13 h64_0).map impl_FindSame.e)
  | 0 => fun _ _ _ _ _ => rfl
  | k + 1 => by
    have ih := impl_FindSame.ok k
    have i2 := ih
    intro x2 x11 x12 x13 h64_0; rw [impl_FindSame.c2]; exact (impl_FindSame.t2 _ k x2 x11 x12 x13 h64_0).trans (cd (cd (cd (bn (fun t1 => (cb (cb rfl (i2 _ _ _ _ _)) (i2 _ _ _ _ _)))) rfl) rfl) rfl)
set_option maxRecDepth 100000 in
theorem impl_FindSame.oke (k : Nat) (a0_0 : List S62) (a1 : List Int) (a2 : ByteArray) : goF Try.f15 impl_FindSame.ctx impl_FindSame.sp 0 impl_FindSame.en (k + 1) [.code (body Try.f15)] (startSt [.ag [.row 0 .t62 a0_0], .row 0 .t3 a1, .sc (.string a2)] []) = (impl_FindSame.f k a0_0 a1 a2).map impl_FindSame.e := by
  have i2 := impl_FindSame.ok k
  rw [impl_FindSame.f]; exact (impl_FindSame.te _ k a0_0 a1 a2).trans (i2 _ _ _ _ _)
theorem impl_FindSame.con (k : Nat) (a0_0 : List S62) (a1 : List Int) (a2 : ByteArray) (r) (h : impl_FindSame.f k a0_0 a1 a2 = some r) : Contract Try.prog kit 15 [.ag [.row 0 .t62 a0_0], .row 0 .t3 a1, .sc (.string a2)] [] (impl_FindSame.e r).1 (impl_FindSame.e r).2.1 (impl_FindSame.e r).2.2 :=
  con_okG kitOk mix (fun k => (CtxOk.cons (impl_ChunkText.xok k) CtxOk.nil)) (impl_FindSame.oke k a0_0 a1 a2) h (by kernel_rfl) (by kernel_rfl) (by kernel_rfl) rfl (by kernel_rfl) rfl rfl
noncomputable def impl_FindSame.x (k : Nat) : X := fun ins bs κ => match ins, bs with
  | [.ag [.row 0 .t62 a0_0], .row 0 .t3 a1, .sc (.string a2)], [] => (impl_FindSame.f k a0_0 a1 a2).bind fun r => κ (impl_FindSame.e r).1 (impl_FindSame.e r).2.1 (impl_FindSame.e r).2.2
  | _, _ => none
theorem impl_FindSame.xok (k : Nat) : XOk 15 (impl_FindSame.x k) := by
  intro ins bs κ res h
  unfold impl_FindSame.x at h
  split at h
  · obtain ⟨r, hr, h⟩ := Option.bind_eq_some_iff.1 h
    exact ⟨_, _, _, impl_FindSame.con k _ _ _ r hr, h⟩
  · cases h

/-! ### laws_eqIntS: function 16 -/
noncomputable def laws_eqIntS.sp : Nat → Option (Spec Ty) := fun r => bif Nat.beq r 4 then some ⟨[(0, .keep), (1, .keep), (5, .keep)], []⟩ else none
noncomputable def laws_eqIntS.en : Option (Spec Ty) := none
noncomputable def laws_eqIntS.s4 (x0 : List Int) (x1 : List Int) (x5 : Int) : St Ty D := ⟨(Env.put (Env.put (Env.put E (some 0) (.row 0 .t3 x0)) (some 1) (.row 0 .t3 x1)) (some 5) (.sc (.int .i64 x5))), H0, 1000⟩
noncomputable def laws_eqIntS.ctx (k : Nat) : Ctx Ty D := (fun _ _ _ _ => none)
noncomputable def laws_eqIntS.c4 : Nat → (List Int) → (List Int) → Int → Option (Bool)
  | 0, _, _, _ => none
  | k + 1, x0, x1, x5 => (if x5 < (x0.length : Int) then (if 0 ≤ x5 then (if x5 < (x0.length : Int) then (if 0 ≤ x5 then (if x5 < (x1.length : Int) then (if (rd_T3 x0 x5) = (rd_T3 x1 x5) then (laws_eqIntS.c4 k x0 x1 (w64 (x5 + 1))) else (some (false))) else none) else none) else none) else none) else (some (true)))
noncomputable def laws_eqIntS.f (k : Nat) (a0 : List Int) (a1 : List Int) : Option (Bool) := (if (a0.length : Int) = (a1.length : Int) then (laws_eqIntS.c4 k a0 a1 0) else (some (false)))
noncomputable def laws_eqIntS.e (r : Bool) : Res Ty D := (.sc (.bool r), [], [])
noncomputable abbrev laws_eqIntS.g (rec : List Item → St Ty D → R) (k : Nat) := go1 Try.f16 (laws_eqIntS.ctx k) laws_eqIntS.sp 0 laws_eqIntS.en rec
set_option maxRecDepth 100000 in
theorem laws_eqIntS.t4 (rec : List Item → St Ty D → R) (k : Nat) (x0 : List Int) (x1 : List Int) (x5 : Int) : laws_eqIntS.g rec k (td Try.f16 4) (laws_eqIntS.s4 x0 x1 x5) =
  bif decide (x5 < (x0.length : Int)) then bif decide (0 ≤ x5) then bif decide (x5 < (x0.length : Int)) then bif decide (0 ≤ x5) then bif decide (x5 < (x1.length : Int)) then bif !decide ((rd_T3 x0 x5) = (rd_T3 x1 x5)) then some (laws_eqIntS.e (false)) else rec (td Try.f16 4) (laws_eqIntS.s4 x0 x1 (w64 (x5 + 1))) else none else none else none else none else some (laws_eqIntS.e (true)) := by kernel_rfl
set_option maxRecDepth 100000 in
theorem laws_eqIntS.te (rec : List Item → St Ty D → R) (k : Nat) (a0 : List Int) (a1 : List Int) : laws_eqIntS.g rec k [.code (body Try.f16)] (startSt [.row 0 .t3 a0, .row 0 .t3 a1] []) =
  bif !decide ((a0.length : Int) = (a1.length : Int)) then some (laws_eqIntS.e (false)) else rec (td Try.f16 4) (laws_eqIntS.s4 a0 a1 0) := by kernel_rfl
set_option maxRecDepth 100000 in
theorem laws_eqIntS.ok : ∀ k : Nat, (∀ (x0 : List Int) (x1 : List Int) (x5 : Int), goF Try.f16 laws_eqIntS.ctx laws_eqIntS.sp 0 laws_eqIntS.en k (td Try.f16 4) (laws_eqIntS.s4 x0 x1 x5) = (laws_eqIntS.c4 k x0 x1 x5).map laws_eqIntS.e)
  | 0 => fun _ _ _ => rfl
  | k + 1 => by
    have ih := laws_eqIntS.ok k
    have i4 := ih
    intro x0 x1 x5; rw [laws_eqIntS.c4]; exact (laws_eqIntS.t4 _ k x0 x1 x5).trans (cd (cd (cd (cd (cd (nd rfl (i4 _ _ _)) rfl) rfl) rfl) rfl) rfl)
set_option maxRecDepth 100000 in
theorem laws_eqIntS.oke (k : Nat) (a0 : List Int) (a1 : List Int) : goF Try.f16 laws_eqIntS.ctx laws_eqIntS.sp 0 laws_eqIntS.en (k + 1) [.code (body Try.f16)] (startSt [.row 0 .t3 a0, .row 0 .t3 a1] []) = (laws_eqIntS.f k a0 a1).map laws_eqIntS.e := by
  have i4 := laws_eqIntS.ok k
  rw [laws_eqIntS.f]; exact (laws_eqIntS.te _ k a0 a1).trans (nd rfl (i4 _ _ _))
theorem laws_eqIntS.con (k : Nat) (a0 : List Int) (a1 : List Int) (r) (h : laws_eqIntS.f k a0 a1 = some r) : Contract Try.prog kit 16 [.row 0 .t3 a0, .row 0 .t3 a1] [] (laws_eqIntS.e r).1 (laws_eqIntS.e r).2.1 (laws_eqIntS.e r).2.2 :=
  con_okG kitOk mix (fun k => CtxOk.nil) (laws_eqIntS.oke k a0 a1) h (by kernel_rfl) (by kernel_rfl) (by kernel_rfl) rfl (by kernel_rfl) rfl rfl
noncomputable def laws_eqIntS.x (k : Nat) : X := fun ins bs κ => match ins, bs with
  | [.row 0 .t3 a0, .row 0 .t3 a1], [] => (laws_eqIntS.f k a0 a1).bind fun r => κ (laws_eqIntS.e r).1 (laws_eqIntS.e r).2.1 (laws_eqIntS.e r).2.2
  | _, _ => none
theorem laws_eqIntS.xok (k : Nat) : XOk 16 (laws_eqIntS.x k) := by
  intro ins bs κ res h
  unfold laws_eqIntS.x at h
  split at h
  · obtain ⟨r, hr, h⟩ := Option.bind_eq_some_iff.1 h
    exact ⟨_, _, _, laws_eqIntS.con k _ _ r hr, h⟩
  · cases h

/-! ### laws_FnExactFindSame: function 5 -/
noncomputable def laws_FnExactFindSame.sp : Nat → Option (Spec Ty) := fun r => none
noncomputable def laws_FnExactFindSame.en : Option (Spec Ty) := none
noncomputable def laws_FnExactFindSame.ctx (k : Nat) : Ctx Ty D := (cons 6 (laws_szFlash.x k) (cons 8 (laws_toFlash.x k) (cons 10 (laws_eqFlash.x k) (cons 13 (spec_FindSame.x k) (cons 14 (laws_toIntS.x k) (cons 15 (impl_FindSame.x k) (cons 16 (laws_eqIntS.x k) (fun _ _ _ _ => none))))))))
noncomputable def laws_FnExactFindSame.f (k : Nat) (a0_0 : List S59) (a1 : List Int) (a2 : ByteArray) : Option (Bool) := (if (a1.length : Int) > 1048576 then (some (true)) else (if (a2.size : Int) > 1048576 then (some (true)) else ((laws_szFlash.f k a0_0 1048576).bind fun t1 => (if t1 < 0 then (some (true)) else ((laws_toFlash.f k a0_0).bind fun t2 => ((laws_toIntS.f k a1).bind fun t3 => ((spec_FindSame.f k t2 t3 a2).bind fun t4 => ((laws_toFlash.f k a0_0).bind fun t5 => ((laws_toIntS.f k a1).bind fun t6 => ((impl_FindSame.f k t5 t6 a2).bind fun t7 => (if t7 = t4 then ((laws_toFlash.f k a0_0).bind fun t8 => ((laws_eqFlash.f k t5 t8).bind fun t9 => (if t9 = true then ((laws_toIntS.f k a1).bind fun t10 => ((laws_eqIntS.f k t6 t10).bind fun t11 => (if t11 = true then (some (true)) else (some (false))))) else (some (false))))) else (some (false)))))))))))))
noncomputable def laws_FnExactFindSame.e (r : Bool) : Res Ty D := (.sc (.bool r), [], [])
noncomputable abbrev laws_FnExactFindSame.g (rec : List Item → St Ty D → R) (k : Nat) := go1 Try.f5 (laws_FnExactFindSame.ctx k) laws_FnExactFindSame.sp 0 laws_FnExactFindSame.en rec
set_option maxRecDepth 100000 in
theorem laws_FnExactFindSame.te (rec : List Item → St Ty D → R) (k : Nat) (a0_0 : List S59) (a1 : List Int) (a2 : ByteArray) : laws_FnExactFindSame.g rec k [.code (body Try.f5)] (startSt [.ag [.row 0 .t59 a0_0], .row 0 .t3 a1, .sc (.string a2)] []) =
  bif decide ((a1.length : Int) > 1048576) then some (laws_FnExactFindSame.e (true)) else bif decide ((a2.size : Int) > 1048576) then some (laws_FnExactFindSame.e (true)) else (laws_szFlash.f k a0_0 1048576).bind fun t1 => bif decide (t1 < 0) then some (laws_FnExactFindSame.e (true)) else (laws_toFlash.f k a0_0).bind fun t2 => (laws_toIntS.f k a1).bind fun t3 => (spec_FindSame.f k t2 t3 a2).bind fun t4 => (laws_toFlash.f k a0_0).bind fun t5 => (laws_toIntS.f k a1).bind fun t6 => (impl_FindSame.f k t5 t6 a2).bind fun t7 => bif !decide (t7 = t4) then some (laws_FnExactFindSame.e (false)) else (laws_toFlash.f k a0_0).bind fun t8 => (laws_eqFlash.f k t5 t8).bind fun t9 => bif !t9 then some (laws_FnExactFindSame.e (false)) else (laws_toIntS.f k a1).bind fun t10 => (laws_eqIntS.f k t6 t10).bind fun t11 => bif !t11 then some (laws_FnExactFindSame.e (false)) else some (laws_FnExactFindSame.e (true)) := by kernel_rfl
set_option maxRecDepth 100000 in
theorem laws_FnExactFindSame.oke (k : Nat) (a0_0 : List S59) (a1 : List Int) (a2 : ByteArray) : goF Try.f5 laws_FnExactFindSame.ctx laws_FnExactFindSame.sp 0 laws_FnExactFindSame.en (k + 1) [.code (body Try.f5)] (startSt [.ag [.row 0 .t59 a0_0], .row 0 .t3 a1, .sc (.string a2)] []) = (laws_FnExactFindSame.f k a0_0 a1 a2).map laws_FnExactFindSame.e := by
  rw [laws_FnExactFindSame.f]; exact (laws_FnExactFindSame.te _ k a0_0 a1 a2).trans (cd rfl (cd rfl (bn (fun t1 => (cd rfl (bn (fun t2 => (bn (fun t3 => (bn (fun t4 => (bn (fun t5 => (bn (fun t6 => (bn (fun t7 => (nd rfl (bn (fun t8 => (bn (fun t9 => (nb rfl (bn (fun t10 => (bn (fun t11 => (nb rfl rfl))))))))))))))))))))))))))))
theorem laws_FnExactFindSame.con (k : Nat) (a0_0 : List S59) (a1 : List Int) (a2 : ByteArray) (r) (h : laws_FnExactFindSame.f k a0_0 a1 a2 = some r) : Contract Try.prog kit 5 [.ag [.row 0 .t59 a0_0], .row 0 .t3 a1, .sc (.string a2)] [] (laws_FnExactFindSame.e r).1 (laws_FnExactFindSame.e r).2.1 (laws_FnExactFindSame.e r).2.2 :=
  con_okG kitOk mix (fun k => (CtxOk.cons (laws_szFlash.xok k) (CtxOk.cons (laws_toFlash.xok k) (CtxOk.cons (laws_eqFlash.xok k) (CtxOk.cons (spec_FindSame.xok k) (CtxOk.cons (laws_toIntS.xok k) (CtxOk.cons (impl_FindSame.xok k) (CtxOk.cons (laws_eqIntS.xok k) CtxOk.nil)))))))) (laws_FnExactFindSame.oke k a0_0 a1 a2) h (by kernel_rfl) (by kernel_rfl) (by kernel_rfl) rfl (by kernel_rfl) rfl rfl
noncomputable def laws_FnExactFindSame.x (k : Nat) : X := fun ins bs κ => match ins, bs with
  | [.ag [.row 0 .t59 a0_0], .row 0 .t3 a1, .sc (.string a2)], [] => (laws_FnExactFindSame.f k a0_0 a1 a2).bind fun r => κ (laws_FnExactFindSame.e r).1 (laws_FnExactFindSame.e r).2.1 (laws_FnExactFindSame.e r).2.2
  | _, _ => none
theorem laws_FnExactFindSame.xok (k : Nat) : XOk 5 (laws_FnExactFindSame.x k) := by
  intro ins bs κ res h
  unfold laws_FnExactFindSame.x at h
  split at h
  · obtain ⟨r, hr, h⟩ := Option.bind_eq_some_iff.1 h
    exact ⟨_, _, _, laws_FnExactFindSame.con k _ _ _ r hr, h⟩
  · cases h
end Go.Proofs.Ytbbfkodckpfjcaa.M2

/- The print's plain functions. -/
namespace Go.Proofs.Ytbbfkodckpfjcaa.PK
open Go Go.RowKit Go.Proofs.YtbbfkodckpfjcaaW.PrintWords Go.Proofs.YtbbfkodckpfjcaaW.PrintLast Go.Proofs.YtbbfkodckpfjcaaW.PrintMore
set_option linter.unusedVariables false

def spec_l01Var.l0 : Nat → Int → List Int → Option (ByteArray)
  | 0, _, _ => none
  | k + 1, x0, x3 => if x0 > 127 then (if x3.length < 140737488355328 then (spec_l01Var.l0 k (wrap64 (Int.tdiv x0 128)) (x3 ++ [(wrap64 ((Int.tmod x0 128) + 128)) % 256])) else (none)) else (if x3.length < 140737488355328 then (some (strOfNums (x3 ++ [(x0) % 256]))) else (none))
def spec_l01Var.f (k : Nat) (a0 : Int) : Option (ByteArray) := spec_l01Var.l0 k a0 (([] : List Int))
def spec_l01In.f (a0 : Int) (a1 : Int) (a2 : Int) : Option (Bool) := if a0 ≥ a1 then (some (decide (a0 ≤ a2))) else (some false)
mutual
def spec_ReadVar.l0 : Nat → ByteArray → Int → Int → Int → Int → Option (Int × Int × Bool)
  | 0, _, _, _, _, _ => none
  | k + 1, x0, x1, x7, x8, x9 => if x9 < (x0.size : Int) then (spec_ReadVar.j1 k x0 x1 x7 x8 x9 (decide (x9 < (wrap64 (x1 + 5))))) else (spec_ReadVar.j1 k x0 x1 x7 x8 x9 false)
def spec_ReadVar.j1 : Nat → ByteArray → Int → Int → Int → Int → Bool → Option (Int × Int × Bool)
  | 0, _, _, _, _, _, _ => none
  | k + 1, x0, x1, x7, x8, x9, x25 => if x25 = true then (if 0 ≤ x9 then (if x9 < (x0.size : Int) then (if (bt x0 x9) < 128 then (if (wrap64 (x7 + (wrap64 ((Int.tmod (wrap64 (bt x0 x9)) 128) * x8)))) > 1000000000 then (some (0, 0, false)) else ((spec_l01Var.f k (wrap64 (x7 + (wrap64 ((Int.tmod (wrap64 (bt x0 x9)) 128) * x8))))).bind fun t138 => (if 0 ≤ x1 then (if x1 ≤ (wrap64 (x9 + 1)) then (if (wrap64 (x9 + 1)) ≤ (x0.size : Int) then (if t138.toList = (x0.extract (x1 : Int).toNat ((wrap64 (x9 + 1)) : Int).toNat).toList then (some (wrap64 (x7 + (wrap64 ((Int.tmod (wrap64 (bt x0 x9)) 128) * x8))), wrap64 (x9 + 1), true)) else (some (0, 0, false))) else (none)) else (none)) else (none)))) else (spec_ReadVar.l0 k x0 x1 (wrap64 (x7 + (wrap64 ((Int.tmod (wrap64 (bt x0 x9)) 128) * x8)))) (wrap64 (x8 * 128)) (wrap64 (x9 + 1)))) else (none)) else (none)) else (some (0, 0, false))
end
def spec_ReadVar.f (k : Nat) (a0 : ByteArray) (a1 : Int) : Option (Int × Int × Bool) := (spec_l01In.f a1 0 (a0.size : Int)).bind fun t137 => (if t137 = true then (spec_ReadVar.l0 k a0 a1 0 1 a1) else (some (0, 0, false)))
mutual
def impl_ReadVar.l0 : Nat → ByteArray → Int → Int → Int → Option (Int × Int × Bool)
  | 0, _, _, _, _ => none
  | k + 1, x0, x1, x7, x8 => if x8 < 5 then (if x1 ≥ 0 then (impl_ReadVar.j1 k x0 x1 x7 x8 (decide (x1 < (wrap64 ((x0.size : Int) - x8))))) else (impl_ReadVar.j1 k x0 x1 x7 x8 false)) else (impl_ReadVar.j1 k x0 x1 x7 x8 false)
def impl_ReadVar.j1 : Nat → ByteArray → Int → Int → Int → Bool → Option (Int × Int × Bool)
  | 0, _, _, _, _, _ => none
  | k + 1, x0, x1, x7, x8, x23 => if x23 = true then (if 0 ≤ (wrap64 (x1 + x8)) then (if (wrap64 (x1 + x8)) < (x0.size : Int) then (if 0 ≤ (wrap64 (7 * x8)) then (if (wrap64 (bt x0 (wrap64 (x1 + x8)))) ≥ 128 then (impl_ReadVar.l0 k x0 x1 (wrap64 (x7 + (shl .i64 (Int.tmod (wrap64 (bt x0 (wrap64 (x1 + x8)))) 128) (wrap64 (7 * x8))))) (wrap64 (x8 + 1))) else (if (wrap64 (bt x0 (wrap64 (x1 + x8)))) = 0 then (if x8 > 0 then (some (0, 0, false)) else (if (wrap64 (x7 + (shl .i64 (Int.tmod (wrap64 (bt x0 (wrap64 (x1 + x8)))) 128) (wrap64 (7 * x8))))) > 1000000000 then (some (0, 0, false)) else (some (wrap64 (x7 + (shl .i64 (Int.tmod (wrap64 (bt x0 (wrap64 (x1 + x8)))) 128) (wrap64 (7 * x8)))), wrap64 ((wrap64 (x1 + x8)) + 1), true)))) else (if (wrap64 (x7 + (shl .i64 (Int.tmod (wrap64 (bt x0 (wrap64 (x1 + x8)))) 128) (wrap64 (7 * x8))))) > 1000000000 then (some (0, 0, false)) else (some (wrap64 (x7 + (shl .i64 (Int.tmod (wrap64 (bt x0 (wrap64 (x1 + x8)))) 128) (wrap64 (7 * x8)))), wrap64 ((wrap64 (x1 + x8)) + 1), true))))) else (none)) else (none)) else (none)) else (some (0, 0, false))
end
def impl_ReadVar.f (k : Nat) (a0 : ByteArray) (a1 : Int) : Option (Int × Int × Bool) := impl_ReadVar.l0 k a0 a1 0 0
def laws_szLeaf.f (a0_0 : Int) (a0_1 : ByteArray) (a1 : Int) : Option (Int) := if (wrap64 (a1 - (a0_1.size : Int))) < 0 then (some (-1)) else (some (wrap64 (a1 - (a0_1.size : Int))))
def laws_szLeafS.l0 : Nat → List (S90) → Int → Int → Option (Int)
  | 0, _, _, _ => none
  | k + 1, x0, x1, x5 => if x5 < (x0.length : Int) then (if 0 ≤ x5 then ((laws_szLeaf.f ((rd_T90 x0 x5).f0) ((rd_T90 x0 x5).f1) x1).bind fun t103 => (if t103 < 0 then (some (-1)) else (laws_szLeafS.l0 k x0 t103 (wrap64 (x5 + 1))))) else (none)) else (some x1)
def laws_szLeafS.f (k : Nat) (l0 : List (S90)) (a1 : Int) : Option (Int) := if (wrap64 (a1 - (l0.length : Int))) < 0 then (some (-1)) else (laws_szLeafS.l0 k l0 (wrap64 (a1 - (l0.length : Int))) 0)
def laws_szBlock.f (k : Nat) (a0_0 : Bool) (a0_1 : Int) (l0_2 : List (S90)) (a1 : Int) : Option (Int) := (laws_szLeafS.f k l0_2 a1).bind fun t105 => (if t105 < 0 then (some (-1)) else (some t105))
def laws_szBlockS.l0 : Nat → List (S59) → Int → Int → Option (Int)
  | 0, _, _, _ => none
  | k + 1, x0, x1, x5 => if x5 < (x0.length : Int) then (if 0 ≤ x5 then ((laws_szBlock.f k ((rd_T59 x0 x5).f0) ((rd_T59 x0 x5).f1) ((rd_T59 x0 x5).f2) x1).bind fun t107 => (if t107 < 0 then (some (-1)) else (laws_szBlockS.l0 k x0 t107 (wrap64 (x5 + 1))))) else (none)) else (some x1)
def laws_szBlockS.f (k : Nat) (l0 : List (S59)) (a1 : Int) : Option (Int) := if (wrap64 (a1 - (l0.length : Int))) < 0 then (some (-1)) else (laws_szBlockS.l0 k l0 (wrap64 (a1 - (l0.length : Int))) 0)
def laws_szFlash.f (k : Nat) (l0_0 : List (S59)) (a1 : Int) : Option (Int) := (laws_szBlockS.f k l0_0 a1).bind fun t109 => (if t109 < 0 then (some (-1)) else (some t109))
def laws_toLeaf.f (a0_0 : Int) (a0_1 : ByteArray) : Option (Int × ByteArray) := some (a0_0, a0_1)
def laws_toLeafS.l0 : Nat → List (S90) → List (S75) → Int → Option ((List (S75)))
  | 0, _, _, _ => none
  | k + 1, x0, x3, x4 => if x4 < (x0.length : Int) then (if 0 ≤ x4 then ((laws_toLeaf.f ((rd_T90 x0 x4).f0) ((rd_T90 x0 x4).f1)).bind fun bt182 => (if x4 < (x3.length : Int) then (laws_toLeafS.l0 k x0 (x3.set (x4 : Int).toNat (⟨bt182.1, bt182.2⟩ : S75)) (wrap64 (x4 + 1))) else (none))) else (none)) else (some x3)
def laws_toLeafS.f (k : Nat) (l0 : List (S90)) : Option ((List (S75))) := if 0 ≤ (l0.length : Int) then (if ((l0.length : Int) : Int).toNat ≤ 11728124029610 then (laws_toLeafS.l0 k l0 (List.replicate ((l0.length : Int) : Int).toNat z75) 0) else (none)) else (none)
def laws_toBlock.f (k : Nat) (a0_0 : Bool) (a0_1 : Int) (l0_2 : List (S90)) : Option (Bool × Int × (List (S75))) := (laws_toLeafS.f k l0_2).bind fun t188 => (some (a0_0, a0_1, t188))
def laws_toBlockS.l0 : Nat → List (S59) → List (S62) → Int → Option ((List (S62)))
  | 0, _, _, _ => none
  | k + 1, x0, x3, x4 => if x4 < (x0.length : Int) then (if 0 ≤ x4 then ((laws_toBlock.f k ((rd_T59 x0 x4).f0) ((rd_T59 x0 x4).f1) ((rd_T59 x0 x4).f2)).bind fun bt195 => (if x4 < (x3.length : Int) then (laws_toBlockS.l0 k x0 (x3.set (x4 : Int).toNat (⟨bt195.1, bt195.2.1, bt195.2.2⟩ : S62)) (wrap64 (x4 + 1))) else (none))) else (none)) else (some x3)
def laws_toBlockS.f (k : Nat) (l0 : List (S59)) : Option ((List (S62))) := if 0 ≤ (l0.length : Int) then (if ((l0.length : Int) : Int).toNat ≤ 7036874417766 then (laws_toBlockS.l0 k l0 (List.replicate ((l0.length : Int) : Int).toNat z62) 0) else (none)) else (none)
def laws_toFlash.f (k : Nat) (l0_0 : List (S59)) : Option ((List (S62))) := (laws_toBlockS.f k l0_0).bind fun t204 => (some t204)
def laws_eqLeaf.f (a0_0 : Int) (a0_1 : ByteArray) (a1_0 : Int) (a1_1 : ByteArray) : Option (Bool) := if a0_0 = a1_0 then (if a0_1.toList = a1_1.toList then (some true) else (some false)) else (some false)
def laws_eqLeafS.l0 : Nat → List (S75) → List (S75) → Int → Option (Bool)
  | 0, _, _, _ => none
  | k + 1, x0, x1, x5 => if x5 < (x0.length : Int) then (if 0 ≤ x5 then (if x5 < (x1.length : Int) then ((laws_eqLeaf.f ((rd_T75 x0 x5).f0) ((rd_T75 x0 x5).f1) ((rd_T75 x1 x5).f0) ((rd_T75 x1 x5).f1)).bind fun t231 => (if t231 = true then (laws_eqLeafS.l0 k x0 x1 (wrap64 (x5 + 1))) else (some false))) else (none)) else (none)) else (some true)
def laws_eqLeafS.f (k : Nat) (l0 : List (S75)) (l1 : List (S75)) : Option (Bool) := if (l0.length : Int) = (l1.length : Int) then (laws_eqLeafS.l0 k l0 l1 0) else (some false)
def laws_eqBlock.f (k : Nat) (a0_0 : Bool) (a0_1 : Int) (l0_2 : List (S75)) (a1_0 : Bool) (a1_1 : Int) (l1_2 : List (S75)) : Option (Bool) := if (a0_0 != a1_0) = true then (some false) else (if a0_1 = a1_1 then ((laws_eqLeafS.f k l0_2 l1_2).bind fun t234 => (if t234 = true then (some true) else (some false))) else (some false))
def laws_eqBlockS.l0 : Nat → List (S62) → List (S62) → Int → Option (Bool)
  | 0, _, _, _ => none
  | k + 1, x0, x1, x5 => if x5 < (x0.length : Int) then (if 0 ≤ x5 then (if x5 < (x1.length : Int) then ((laws_eqBlock.f k ((rd_T62 x0 x5).f0) ((rd_T62 x0 x5).f1) ((rd_T62 x0 x5).f2) ((rd_T62 x1 x5).f0) ((rd_T62 x1 x5).f1) ((rd_T62 x1 x5).f2)).bind fun t237 => (if t237 = true then (laws_eqBlockS.l0 k x0 x1 (wrap64 (x5 + 1))) else (some false))) else (none)) else (none)) else (some true)
def laws_eqBlockS.f (k : Nat) (l0 : List (S62)) (l1 : List (S62)) : Option (Bool) := if (l0.length : Int) = (l1.length : Int) then (laws_eqBlockS.l0 k l0 l1 0) else (some false)
def laws_eqFlash.f (k : Nat) (l0_0 : List (S62)) (l1_0 : List (S62)) : Option (Bool) := (laws_eqBlockS.f k l0_0 l1_0).bind fun t240 => (if t240 = true then (some true) else (some false))
def laws_toIntS.l0 : Nat → List Int → List Int → Int → Option (List Int)
  | 0, _, _, _ => none
  | k + 1, x0, x3, x4 => if x4 < (x0.length : Int) then (if 0 ≤ x4 then (if x4 < (x3.length : Int) then (laws_toIntS.l0 k x0 (x3.set (x4 : Int).toNat (rd x0 x4)) (wrap64 (x4 + 1))) else (none)) else (none)) else (some x3)
def laws_toIntS.f (k : Nat) (l0 : List Int) : Option (List Int) := if 0 ≤ (l0.length : Int) then (if ((l0.length : Int) : Int).toNat ≤ 35184372088832 then (laws_toIntS.l0 k l0 (List.replicate ((l0.length : Int) : Int).toNat 0) 0) else (none)) else (none)
def laws_eqIntS.l0 : Nat → List Int → List Int → Int → Option (Bool)
  | 0, _, _, _ => none
  | k + 1, x0, x1, x5 => if x5 < (x0.length : Int) then (if 0 ≤ x5 then (if x5 < (x1.length : Int) then (if (rd x0 x5) = (rd x1 x5) then (laws_eqIntS.l0 k x0 x1 (wrap64 (x5 + 1))) else (some false)) else (none)) else (none)) else (some true)
def laws_eqIntS.f (k : Nat) (l0 : List Int) (l1 : List Int) : Option (Bool) := if (l0.length : Int) = (l1.length : Int) then (laws_eqIntS.l0 k l0 l1 0) else (some false)
end Go.Proofs.Ytbbfkodckpfjcaa.PK

/- From the print's plain functions to the own ones: small words. -/
namespace Go.Proofs.Ytbbfkodckpfjcaa.M2
open Go Go.RowKit Go.Proofs.YtbbfkodckpfjcaaW.PrintWords Go.Proofs.Ytbbfkodckpfjcaa.PK
theorem w64_eq (n : Int) : w64 n = wrap64 n := IntWalk.i64_left n
theorem wu8_eq (n : Int) : Go.IntKind.wrap .u8 n = n % 256 := by simp [IntKind.wrap, IntKind.signed, IntKind.bits]
theorem int_beq (a b : Int) : (a == b) = decide (a = b) := rfl
theorem emp_eq : (⟨#[]⟩ : ByteArray).toList = [] := by kernel_rfl
theorem itE {α : Type} {c : Prop} [Decidable c] {a b : Option α} {r : α} {G : Prop} (h : (if c then a else b) = some r) (x : c → a = some r → G) (y : ¬ c → b = some r → G) : G := by
  by_cases hc : c
  · rw [if_pos hc] at h; exact x hc h
  · rw [if_neg hc] at h; exact y hc h
theorem bnE {α β : Type} {o : Option α} {f : α → Option β} {r : β} {G : Prop} (h : o.bind f = some r) (x : ∀ t, o = some t → f t = some r → G) : G := by
  obtain ⟨t, h1, h2⟩ := Option.bind_eq_some_iff.1 h; exact x t h1 h2
theorem bsE {α β : Type} {a : α} {f : α → Option β} {r : β} {G : Prop} (h : (some a).bind f = some r) (x : f a = some r → G) : G := x h
theorem noE {α : Type} {r : α} {G : Prop} (h : none = some r) : G := by cases h
theorem ite_inv {α : Type} {c : Prop} [Decidable c] {a b : Option α} {r : α} (h : (if c then a else b) = some r) : (c ∧ a = some r) ∨ (¬ c ∧ b = some r) := by
  by_cases hc : c
  · rw [if_pos hc] at h; exact .inl ⟨hc, h⟩
  · rw [if_neg hc] at h; exact .inr ⟨hc, h⟩
theorem fdiv33 (a : Int) : Int.fdiv a 8589934592 = a / 8589934592 := Int.fdiv_eq_ediv_of_nonneg a (by decide)
theorem fdiv45 (a : Int) : Int.fdiv a 35184372088832 = a / 35184372088832 := Int.fdiv_eq_ediv_of_nonneg a (by decide)
theorem shlR (x y : Int) : w64 (x * 2 ^ (min y.toNat 64)) = Go.Proofs.YtbbfkodckpfjcaaW.PrintWords.shl .i64 x y := rfl
theorem bt_eq (s : ByteArray) (i : Int) : bt s i = Go.Proofs.YtbbfkodckpfjcaaW.PrintWords.bt s i := rfl
theorem tmodN (n : Nat) (k : Int) : Int.tmod (n : Int) k = (n : Int) % k := Int.tmod_eq_emod_of_nonneg (Int.natCast_nonneg n)
theorem rdOfB (a b : Int) : (a - b < 0) = (a < b) := by simp only [eq_iff_iff]; omega
theorem rdOfL (a b : Int) : (a - b < 0) = (a < b) := by simp only [eq_iff_iff]; omega
theorem rdT5_eq (l : List Int) (i : Int) : rd_T5 l i = rd l i := rfl
theorem rdT3_eq (l : List Int) (i : Int) : rd_T3 l i = rd l i := rfl
theorem rdn90 (l : List S90) (i : Int) : rd_T90 l ((i.toNat : Nat) : Int) = rd_T90 l i := rfl
theorem rdset90 (l : List S90) (i : Int) (y : S90) (h : i < (l.length : Int)) (h0 : 0 ≤ i) : rd_T90 (l.set i.toNat y) i = y := by
  unfold rd_T90; rw [List.getD_eq_getElem?_getD, List.getElem?_set_self (by omega)]; rfl
theorem rdn59 (l : List S59) (i : Int) : rd_T59 l ((i.toNat : Nat) : Int) = rd_T59 l i := rfl
theorem rdset59 (l : List S59) (i : Int) (y : S59) (h : i < (l.length : Int)) (h0 : 0 ≤ i) : rd_T59 (l.set i.toNat y) i = y := by
  unfold rd_T59; rw [List.getD_eq_getElem?_getD, List.getElem?_set_self (by omega)]; rfl
theorem rdn43 (l : List S43) (i : Int) : rd_T43 l ((i.toNat : Nat) : Int) = rd_T43 l i := rfl
theorem rdset43 (l : List S43) (i : Int) (y : S43) (h : i < (l.length : Int)) (h0 : 0 ≤ i) : rd_T43 (l.set i.toNat y) i = y := by
  unfold rd_T43; rw [List.getD_eq_getElem?_getD, List.getElem?_set_self (by omega)]; rfl
theorem rdn45 (l : List S45) (i : Int) : rd_T45 l ((i.toNat : Nat) : Int) = rd_T45 l i := rfl
theorem rdset45 (l : List S45) (i : Int) (y : S45) (h : i < (l.length : Int)) (h0 : 0 ≤ i) : rd_T45 (l.set i.toNat y) i = y := by
  unfold rd_T45; rw [List.getD_eq_getElem?_getD, List.getElem?_set_self (by omega)]; rfl
theorem rdn75 (l : List S75) (i : Int) : rd_T75 l ((i.toNat : Nat) : Int) = rd_T75 l i := rfl
theorem rdset75 (l : List S75) (i : Int) (y : S75) (h : i < (l.length : Int)) (h0 : 0 ≤ i) : rd_T75 (l.set i.toNat y) i = y := by
  unfold rd_T75; rw [List.getD_eq_getElem?_getD, List.getElem?_set_self (by omega)]; rfl
theorem rdn62 (l : List S62) (i : Int) : rd_T62 l ((i.toNat : Nat) : Int) = rd_T62 l i := rfl
theorem rdset62 (l : List S62) (i : Int) (y : S62) (h : i < (l.length : Int)) (h0 : 0 ≤ i) : rd_T62 (l.set i.toNat y) i = y := by
  unfold rd_T62; rw [List.getD_eq_getElem?_getD, List.getElem?_set_self (by omega)]; rfl
theorem rdn5 (l : List Int) (i : Int) : rd_T5 l ((i.toNat : Nat) : Int) = rd_T5 l i := rfl
theorem rdset5 (l : List Int) (i : Int) (y : Int) (h : i < (l.length : Int)) (h0 : 0 ≤ i) : rd_T5 (l.set i.toNat y) i = y := by
  unfold rd_T5; rw [List.getD_eq_getElem?_getD, List.getElem?_set_self (by omega)]; rfl
theorem rdn3 (l : List Int) (i : Int) : rd_T3 l ((i.toNat : Nat) : Int) = rd_T3 l i := rfl
theorem rdset3 (l : List Int) (i : Int) (y : Int) (h : i < (l.length : Int)) (h0 : 0 ≤ i) : rd_T3 (l.set i.toNat y) i = y := by
  unfold rd_T3; rw [List.getD_eq_getElem?_getD, List.getElem?_set_self (by omega)]; rfl
theorem rdn86 (l : List S86) (i : Int) : rd_T86 l ((i.toNat : Nat) : Int) = rd_T86 l i := rfl
theorem rdset86 (l : List S86) (i : Int) (y : S86) (h : i < (l.length : Int)) (h0 : 0 ≤ i) : rd_T86 (l.set i.toNat y) i = y := by
  unfold rd_T86; rw [List.getD_eq_getElem?_getD, List.getElem?_set_self (by omega)]; rfl
end Go.Proofs.Ytbbfkodckpfjcaa.M2

/- What the print's plain functions answer, the own ones answer. Written by a program of this session. -/
namespace Go.Proofs.Ytbbfkodckpfjcaa.M2
open Go Go.RowKit Go.Proofs.YtbbfkodckpfjcaaW.PrintWords Go.Proofs.Ytbbfkodckpfjcaa.PK
set_option linter.unusedVariables false
set_option linter.unusedSimpArgs false
set_option maxHeartbeats 1600000
theorem spec_l01Var.rel_l (k : Nat) : (∀ x0 x3 r, PK.spec_l01Var.l0 k x0 x3 = some r → ∀ m, k ≤ m → spec_l01Var.c2 m x0 x3 = some r) := by
  induction k using Nat.strongRecOn with
  | _ k ih =>
  have il0 := fun k' hk' => (ih k' hk')
  clear ih
  intro x0 x3 r h m hm
  cases k with
  | zero => simp only [PK.spec_l01Var.l0] at h; cases h
  | succ k =>
    obtain ⟨m, rfl⟩ : ∃ m', m = m' + 1 := ⟨m - 1, by omega⟩
    rw [PK.spec_l01Var.l0] at h
    rw [spec_l01Var.c2]
    try simp only [w64_eq, wu8_eq, gt_iff_lt, ge_iff_le, int_beq, fdiv33, fdiv45, bt_eq, tmodN, rdOfB, rdOfL] at h
    try simp only [shlR]
    try simp only [w64_eq, wu8_eq, gt_iff_lt, ge_iff_le, int_beq, fdiv33, fdiv45, bt_eq, tmodN, rdOfB, rdOfL, rdT5_eq, rdT3_eq, seq, maxI, minI, emp_eq, rdn90, rdn59, rdn43, rdn45, rdn75, rdn62, rdn5, rdn3, rdn86]
    refine (itE h (fun q h => (itE h (fun q h => ((fun h => ?_) (il0 _ (by omega) _ _ _ h m (by omega)))) (fun q h => (noE h)))) (fun q h => (itE h (fun q h => ?_) (fun q h => (noE h)))))
    all_goals clear il0
    all_goals (try cases h)
    all_goals (try simp only [*, if_true, if_false, ↓reduceIte, Option.bind_some, List.length_cons, List.length_nil, List.length_append, Bool.not_true, Bool.not_false, Bool.true_eq_false, Bool.false_eq_true])
    all_goals (repeat first | rw [if_pos (by omega)] | rw [if_neg (by omega)])
    all_goals first | exact h | apply h | rfl | (simp_all [-Bool.forall_bool]; done) | (simp_all [-Bool.forall_bool]; first | exact h | apply h) | (simp_all [-Bool.forall_bool, emp_eq, int_beq]; done) | (simp_all [-Bool.forall_bool]; (intros; simp_all; done)) | (simp_all [-Bool.forall_bool, rdset90, rdset59, rdset43, rdset45, rdset75, rdset62, rdset5, rdset3, rdset86]; done) | grind
theorem spec_l01Var.rel (k : Nat) (a0 : Int) (r) (h : PK.spec_l01Var.f k a0 = some r) (m : Nat) (hm : k ≤ m) : spec_l01Var.f m a0 = some r := by
  have il0 := fun k' (_ : k' < k + 1) => (spec_l01Var.rel_l k')
  rw [PK.spec_l01Var.f] at h
  rw [spec_l01Var.f]
  try simp only [w64_eq, wu8_eq, gt_iff_lt, ge_iff_le, int_beq, fdiv33, fdiv45, bt_eq, tmodN, rdOfB, rdOfL] at h
  try simp only [shlR]
  try simp only [w64_eq, wu8_eq, gt_iff_lt, ge_iff_le, int_beq, fdiv33, fdiv45, bt_eq, tmodN, rdOfB, rdOfL, rdT5_eq, rdT3_eq, seq, maxI, minI, emp_eq, rdn90, rdn59, rdn43, rdn45, rdn75, rdn62, rdn5, rdn3, rdn86]
  refine ((fun h => ?_) (il0 _ (by omega) _ _ _ h m (by omega)))
  all_goals clear il0
  all_goals (try cases h)
  all_goals (try simp only [*, if_true, if_false, ↓reduceIte, Option.bind_some, List.length_cons, List.length_nil, List.length_append, Bool.not_true, Bool.not_false, Bool.true_eq_false, Bool.false_eq_true])
  all_goals (repeat first | rw [if_pos (by omega)] | rw [if_neg (by omega)])
  all_goals first | exact h | apply h | rfl | (simp_all [-Bool.forall_bool]; done) | (simp_all [-Bool.forall_bool]; first | exact h | apply h) | (simp_all [-Bool.forall_bool, emp_eq, int_beq]; done) | (simp_all [-Bool.forall_bool]; (intros; simp_all; done)) | (simp_all [-Bool.forall_bool, rdset90, rdset59, rdset43, rdset45, rdset75, rdset62, rdset5, rdset3, rdset86]; done) | grind

theorem spec_l01In.rel (k : Nat) (a0 : Int) (a1 : Int) (a2 : Int) (r) (h : PK.spec_l01In.f a0 a1 a2 = some r) (m : Nat) (hm : k ≤ m) : spec_l01In.f m a0 a1 a2 = some r := by
  rw [PK.spec_l01In.f] at h
  rw [spec_l01In.f]
  try simp only [w64_eq, wu8_eq, gt_iff_lt, ge_iff_le, int_beq, fdiv33, fdiv45, bt_eq, tmodN, rdOfB, rdOfL] at h
  try simp only [shlR]
  try simp only [w64_eq, wu8_eq, gt_iff_lt, ge_iff_le, int_beq, fdiv33, fdiv45, bt_eq, tmodN, rdOfB, rdOfL, rdT5_eq, rdT3_eq, seq, maxI, minI, emp_eq, rdn90, rdn59, rdn43, rdn45, rdn75, rdn62, rdn5, rdn3, rdn86]
  refine (itE h (fun q h => ?_) (fun q h => ?_))
  all_goals (try cases h)
  all_goals (try simp only [*, if_true, if_false, ↓reduceIte, Option.bind_some, List.length_cons, List.length_nil, List.length_append, Bool.not_true, Bool.not_false, Bool.true_eq_false, Bool.false_eq_true])
  all_goals (repeat first | rw [if_pos (by omega)] | rw [if_neg (by omega)])
  all_goals first | exact h | apply h | rfl | (simp_all [-Bool.forall_bool]; done) | (simp_all [-Bool.forall_bool]; first | exact h | apply h) | (simp_all [-Bool.forall_bool, emp_eq, int_beq]; done) | (simp_all [-Bool.forall_bool]; (intros; simp_all; done)) | (simp_all [-Bool.forall_bool, rdset90, rdset59, rdset43, rdset45, rdset75, rdset62, rdset5, rdset3, rdset86]; done) | grind

theorem spec_ReadVar.rel_l (k : Nat) : (∀ x0 x1 x7 x8 x9 r, PK.spec_ReadVar.l0 k x0 x1 x7 x8 x9 = some r → ∀ m, k ≤ m → spec_ReadVar.c6 m x0 x1 x7 x8 x9 = some (r.1, r.2.1, r.2.2)) := by
  induction k using Nat.strongRecOn with
  | _ k ih =>
  have il0 := fun k' hk' => (ih k' hk')
  clear ih
  intro x0 x1 x7 x8 x9 r h m hm
  cases k with
  | zero => simp only [PK.spec_ReadVar.l0] at h; cases h
  | succ k =>
    obtain ⟨m, rfl⟩ : ∃ m', m = m' + 1 := ⟨m - 1, by omega⟩
    rw [PK.spec_ReadVar.l0] at h
    rw [spec_ReadVar.c6]
    try simp only [w64_eq, wu8_eq, gt_iff_lt, ge_iff_le, int_beq, fdiv33, fdiv45, bt_eq, tmodN, rdOfB, rdOfL] at h
    try simp only [shlR]
    try simp only [w64_eq, wu8_eq, gt_iff_lt, ge_iff_le, int_beq, fdiv33, fdiv45, bt_eq, tmodN, rdOfB, rdOfL, rdT5_eq, rdT3_eq, seq, maxI, minI, emp_eq, rdn90, rdn59, rdn43, rdn45, rdn75, rdn62, rdn5, rdn3, rdn86]
    refine (itE h (fun q h => (by cases k with | zero => (simp only [PK.spec_ReadVar.j1] at h; cases h) | succ k => (rw [PK.spec_ReadVar.j1] at h; (try simp only [w64_eq, wu8_eq, gt_iff_lt, ge_iff_le, int_beq, fdiv33, fdiv45, bt_eq, tmodN, rdOfB, rdOfL] at h); refine (itE h (fun q h => (itE h (fun q h => (itE h (fun q h => (itE h (fun q h => (itE h (fun q h => ?_) (fun q h => (bnE h (fun _ g h => (fun g => (itE h (fun q h => (itE h (fun q h => (itE h (fun q h => (itE h (fun q h => ?_) (fun q h => ?_))) (fun q h => (noE h)))) (fun q h => (noE h)))) (fun q h => (noE h)))) (spec_l01Var.rel _ _ _ g m (by omega))))))) (fun q h => ((fun h => ?_) (il0 _ (by omega) _ _ _ _ _ _ h m (by omega)))))) (fun q h => (noE h)))) (fun q h => (noE h)))) (fun q h => ?_)) <;> ((try cases h); (try simp only [*, if_true, if_false, ↓reduceIte, Option.bind_some, List.length_cons, List.length_nil, List.length_append, Bool.not_true, Bool.not_false, Bool.true_eq_false, Bool.false_eq_true]); all_goals (repeat first | rw [if_pos (by omega)] | rw [if_neg (by omega)]); all_goals (first | exact h | apply h | rfl | (simp_all [-Bool.forall_bool]; done) | (simp_all [-Bool.forall_bool]; first | exact h | apply h) | (simp_all [-Bool.forall_bool, emp_eq, int_beq]; done) | (simp_all [-Bool.forall_bool]; (intros; simp_all; done)) | (simp_all [-Bool.forall_bool, rdset90, rdset59, rdset43, rdset45, rdset75, rdset62, rdset5, rdset3, rdset86]; done) | grind))))) (fun q h => (by cases k with | zero => (simp only [PK.spec_ReadVar.j1] at h; cases h) | succ k => (rw [PK.spec_ReadVar.j1] at h; (try simp only [w64_eq, wu8_eq, gt_iff_lt, ge_iff_le, int_beq, fdiv33, fdiv45, bt_eq, tmodN, rdOfB, rdOfL] at h); refine (itE h (fun q h => (itE h (fun q h => (itE h (fun q h => (itE h (fun q h => (itE h (fun q h => ?_) (fun q h => (bnE h (fun _ g h => (fun g => (itE h (fun q h => (itE h (fun q h => (itE h (fun q h => (itE h (fun q h => ?_) (fun q h => ?_))) (fun q h => (noE h)))) (fun q h => (noE h)))) (fun q h => (noE h)))) (spec_l01Var.rel _ _ _ g m (by omega))))))) (fun q h => ((fun h => ?_) (il0 _ (by omega) _ _ _ _ _ _ h m (by omega)))))) (fun q h => (noE h)))) (fun q h => (noE h)))) (fun q h => ?_)) <;> ((try cases h); (try simp only [*, if_true, if_false, ↓reduceIte, Option.bind_some, List.length_cons, List.length_nil, List.length_append, Bool.not_true, Bool.not_false, Bool.true_eq_false, Bool.false_eq_true]); all_goals (repeat first | rw [if_pos (by omega)] | rw [if_neg (by omega)]); all_goals (first | exact h | apply h | rfl | (simp_all [-Bool.forall_bool]; done) | (simp_all [-Bool.forall_bool]; first | exact h | apply h) | (simp_all [-Bool.forall_bool, emp_eq, int_beq]; done) | (simp_all [-Bool.forall_bool]; (intros; simp_all; done)) | (simp_all [-Bool.forall_bool, rdset90, rdset59, rdset43, rdset45, rdset75, rdset62, rdset5, rdset3, rdset86]; done) | grind))))))
    all_goals clear il0
    all_goals (try cases h)
    all_goals (try simp only [*, if_true, if_false, ↓reduceIte, Option.bind_some, List.length_cons, List.length_nil, List.length_append, Bool.not_true, Bool.not_false, Bool.true_eq_false, Bool.false_eq_true])
    all_goals (repeat first | rw [if_pos (by omega)] | rw [if_neg (by omega)])
    all_goals first | exact h | apply h | rfl | (simp_all [-Bool.forall_bool]; done) | (simp_all [-Bool.forall_bool]; first | exact h | apply h) | (simp_all [-Bool.forall_bool, emp_eq, int_beq]; done) | (simp_all [-Bool.forall_bool]; (intros; simp_all; done)) | (simp_all [-Bool.forall_bool, rdset90, rdset59, rdset43, rdset45, rdset75, rdset62, rdset5, rdset3, rdset86]; done) | grind
theorem spec_ReadVar.rel (k : Nat) (a0 : ByteArray) (a1 : Int) (r) (h : PK.spec_ReadVar.f k a0 a1 = some r) (m : Nat) (hm : k ≤ m) : spec_ReadVar.f m a0 a1 = some (r.1, r.2.1, r.2.2) := by
  have il0 := fun k' (_ : k' < k + 1) => (spec_ReadVar.rel_l k')
  rw [PK.spec_ReadVar.f] at h
  rw [spec_ReadVar.f]
  try simp only [w64_eq, wu8_eq, gt_iff_lt, ge_iff_le, int_beq, fdiv33, fdiv45, bt_eq, tmodN, rdOfB, rdOfL] at h
  try simp only [shlR]
  try simp only [w64_eq, wu8_eq, gt_iff_lt, ge_iff_le, int_beq, fdiv33, fdiv45, bt_eq, tmodN, rdOfB, rdOfL, rdT5_eq, rdT3_eq, seq, maxI, minI, emp_eq, rdn90, rdn59, rdn43, rdn45, rdn75, rdn62, rdn5, rdn3, rdn86]
  refine (bnE h (fun _ g h => (fun g => (itE h (fun q h => ((fun h => ?_) (il0 _ (by omega) _ _ _ _ _ _ h m (by omega)))) (fun q h => ?_))) (spec_l01In.rel m _ _ _ _ g m (by omega))))
  all_goals clear il0
  all_goals (try cases h)
  all_goals (try simp only [*, if_true, if_false, ↓reduceIte, Option.bind_some, List.length_cons, List.length_nil, List.length_append, Bool.not_true, Bool.not_false, Bool.true_eq_false, Bool.false_eq_true])
  all_goals (repeat first | rw [if_pos (by omega)] | rw [if_neg (by omega)])
  all_goals first | exact h | apply h | rfl | (simp_all [-Bool.forall_bool]; done) | (simp_all [-Bool.forall_bool]; first | exact h | apply h) | (simp_all [-Bool.forall_bool, emp_eq, int_beq]; done) | (simp_all [-Bool.forall_bool]; (intros; simp_all; done)) | (simp_all [-Bool.forall_bool, rdset90, rdset59, rdset43, rdset45, rdset75, rdset62, rdset5, rdset3, rdset86]; done) | grind
end Go.Proofs.Ytbbfkodckpfjcaa.M2

/- What the print's plain functions answer, the own ones answer. Written by a program of this session. -/
namespace Go.Proofs.Ytbbfkodckpfjcaa.M2
open Go Go.RowKit Go.Proofs.YtbbfkodckpfjcaaW.PrintWords Go.Proofs.Ytbbfkodckpfjcaa.PK
set_option linter.unusedVariables false
set_option linter.unusedSimpArgs false
theorem impl_ReadVar.rel_l (k : Nat) : (∀ x0 x1 x7 x8 r, PK.impl_ReadVar.l0 k x0 x1 x7 x8 = some r → ∀ m, k ≤ m → impl_ReadVar.c3 m x0 x1 x7 x8 = some (r.1, r.2.1, r.2.2)) := by
  induction k using Nat.strongRecOn with
  | _ k ih =>
  have il0 := fun k' hk' => (ih k' hk')
  clear ih
  intro x0 x1 x7 x8 r h m hm
  cases k with
  | zero => simp only [PK.impl_ReadVar.l0] at h; cases h
  | succ k =>
    obtain ⟨m, rfl⟩ : ∃ m', m = m' + 1 := ⟨m - 1, by omega⟩
    rw [PK.impl_ReadVar.l0] at h
    rw [impl_ReadVar.c3]
    try simp only [w64_eq, wu8_eq, gt_iff_lt, ge_iff_le, int_beq, fdiv33, fdiv45, bt_eq, tmodN, rdOfB, rdOfL] at h
    try simp only [shlR]
    try simp only [w64_eq, wu8_eq, gt_iff_lt, ge_iff_le, int_beq, fdiv33, fdiv45, bt_eq, tmodN, rdOfB, rdOfL, rdT5_eq, rdT3_eq, seq, maxI, minI, emp_eq, rdn90, rdn59, rdn43, rdn45, rdn75, rdn62, rdn5, rdn3, rdn86]
    refine (itE h (fun q h => (itE h (fun q h => (by cases k with | zero => (simp only [PK.impl_ReadVar.j1] at h; cases h) | succ k => (rw [PK.impl_ReadVar.j1] at h; (try simp only [w64_eq, wu8_eq, gt_iff_lt, ge_iff_le, int_beq, fdiv33, fdiv45, bt_eq, tmodN, rdOfB, rdOfL] at h); refine (itE h (fun q h => (itE h (fun q h => (itE h (fun q h => (itE h (fun q h => (itE h (fun q h => ((fun h => ?_) (il0 _ (by omega) _ _ _ _ _ h m (by omega)))) (fun q h => (itE h (fun q h => (itE h (fun q h => ?_) (fun q h => (itE h (fun q h => ?_) (fun q h => ?_))))) (fun q h => (itE h (fun q h => ?_) (fun q h => ?_))))))) (fun q h => (noE h)))) (fun q h => (noE h)))) (fun q h => (noE h)))) (fun q h => ?_)) <;> ((try cases h); (try simp only [*, if_true, if_false, ↓reduceIte, Option.bind_some, List.length_cons, List.length_nil, List.length_append, Bool.not_true, Bool.not_false, Bool.true_eq_false, Bool.false_eq_true]); all_goals (repeat first | rw [if_pos (by omega)] | rw [if_neg (by omega)]); all_goals (first | exact h | apply h | rfl | (simp_all [-Bool.forall_bool]; done) | (simp_all [-Bool.forall_bool]; first | exact h | apply h) | (simp_all [-Bool.forall_bool, emp_eq, int_beq]; done) | (simp_all [-Bool.forall_bool]; (intros; simp_all; done)) | (simp_all [-Bool.forall_bool, rdset90, rdset59, rdset43, rdset45, rdset75, rdset62, rdset5, rdset3, rdset86]; done) | grind))))) (fun q h => (by cases k with | zero => (simp only [PK.impl_ReadVar.j1] at h; cases h) | succ k => (rw [PK.impl_ReadVar.j1] at h; (try simp only [w64_eq, wu8_eq, gt_iff_lt, ge_iff_le, int_beq, fdiv33, fdiv45, bt_eq, tmodN, rdOfB, rdOfL] at h); refine (itE h (fun q h => (itE h (fun q h => (itE h (fun q h => (itE h (fun q h => (itE h (fun q h => ((fun h => ?_) (il0 _ (by omega) _ _ _ _ _ h m (by omega)))) (fun q h => (itE h (fun q h => (itE h (fun q h => ?_) (fun q h => (itE h (fun q h => ?_) (fun q h => ?_))))) (fun q h => (itE h (fun q h => ?_) (fun q h => ?_))))))) (fun q h => (noE h)))) (fun q h => (noE h)))) (fun q h => (noE h)))) (fun q h => ?_)) <;> ((try cases h); (try simp only [*, if_true, if_false, ↓reduceIte, Option.bind_some, List.length_cons, List.length_nil, List.length_append, Bool.not_true, Bool.not_false, Bool.true_eq_false, Bool.false_eq_true]); all_goals (repeat first | rw [if_pos (by omega)] | rw [if_neg (by omega)]); all_goals (first | exact h | apply h | rfl | (simp_all [-Bool.forall_bool]; done) | (simp_all [-Bool.forall_bool]; first | exact h | apply h) | (simp_all [-Bool.forall_bool, emp_eq, int_beq]; done) | (simp_all [-Bool.forall_bool]; (intros; simp_all; done)) | (simp_all [-Bool.forall_bool, rdset90, rdset59, rdset43, rdset45, rdset75, rdset62, rdset5, rdset3, rdset86]; done) | grind))))))) (fun q h => (by cases k with | zero => (simp only [PK.impl_ReadVar.j1] at h; cases h) | succ k => (rw [PK.impl_ReadVar.j1] at h; (try simp only [w64_eq, wu8_eq, gt_iff_lt, ge_iff_le, int_beq, fdiv33, fdiv45, bt_eq, tmodN, rdOfB, rdOfL] at h); refine (itE h (fun q h => (itE h (fun q h => (itE h (fun q h => (itE h (fun q h => (itE h (fun q h => ((fun h => ?_) (il0 _ (by omega) _ _ _ _ _ h m (by omega)))) (fun q h => (itE h (fun q h => (itE h (fun q h => ?_) (fun q h => (itE h (fun q h => ?_) (fun q h => ?_))))) (fun q h => (itE h (fun q h => ?_) (fun q h => ?_))))))) (fun q h => (noE h)))) (fun q h => (noE h)))) (fun q h => (noE h)))) (fun q h => ?_)) <;> ((try cases h); (try simp only [*, if_true, if_false, ↓reduceIte, Option.bind_some, List.length_cons, List.length_nil, List.length_append, Bool.not_true, Bool.not_false, Bool.true_eq_false, Bool.false_eq_true]); all_goals (repeat first | rw [if_pos (by omega)] | rw [if_neg (by omega)]); all_goals (first | exact h | apply h | rfl | (simp_all [-Bool.forall_bool]; done) | (simp_all [-Bool.forall_bool]; first | exact h | apply h) | (simp_all [-Bool.forall_bool, emp_eq, int_beq]; done) | (simp_all [-Bool.forall_bool]; (intros; simp_all; done)) | (simp_all [-Bool.forall_bool, rdset90, rdset59, rdset43, rdset45, rdset75, rdset62, rdset5, rdset3, rdset86]; done) | grind))))))
    all_goals clear il0
    all_goals (try cases h)
    all_goals (try simp only [*, if_true, if_false, ↓reduceIte, Option.bind_some, List.length_cons, List.length_nil, List.length_append, Bool.not_true, Bool.not_false, Bool.true_eq_false, Bool.false_eq_true])
    all_goals (repeat first | rw [if_pos (by omega)] | rw [if_neg (by omega)])
    all_goals first | exact h | apply h | rfl | (simp_all [-Bool.forall_bool]; done) | (simp_all [-Bool.forall_bool]; first | exact h | apply h) | (simp_all [-Bool.forall_bool, emp_eq, int_beq]; done) | (simp_all [-Bool.forall_bool]; (intros; simp_all; done)) | (simp_all [-Bool.forall_bool, rdset90, rdset59, rdset43, rdset45, rdset75, rdset62, rdset5, rdset3, rdset86]; done) | grind
theorem impl_ReadVar.rel (k : Nat) (a0 : ByteArray) (a1 : Int) (r) (h : PK.impl_ReadVar.f k a0 a1 = some r) (m : Nat) (hm : k ≤ m) : impl_ReadVar.f m a0 a1 = some (r.1, r.2.1, r.2.2) := by
  have il0 := fun k' (_ : k' < k + 1) => (impl_ReadVar.rel_l k')
  rw [PK.impl_ReadVar.f] at h
  rw [impl_ReadVar.f]
  try simp only [w64_eq, wu8_eq, gt_iff_lt, ge_iff_le, int_beq, fdiv33, fdiv45, bt_eq, tmodN, rdOfB, rdOfL] at h
  try simp only [shlR]
  try simp only [w64_eq, wu8_eq, gt_iff_lt, ge_iff_le, int_beq, fdiv33, fdiv45, bt_eq, tmodN, rdOfB, rdOfL, rdT5_eq, rdT3_eq, seq, maxI, minI, emp_eq, rdn90, rdn59, rdn43, rdn45, rdn75, rdn62, rdn5, rdn3, rdn86]
  refine ((fun h => ?_) (il0 _ (by omega) _ _ _ _ _ h m (by omega)))
  all_goals clear il0
  all_goals (try cases h)
  all_goals (try simp only [*, if_true, if_false, ↓reduceIte, Option.bind_some, List.length_cons, List.length_nil, List.length_append, Bool.not_true, Bool.not_false, Bool.true_eq_false, Bool.false_eq_true])
  all_goals (repeat first | rw [if_pos (by omega)] | rw [if_neg (by omega)])
  all_goals first | exact h | apply h | rfl | (simp_all [-Bool.forall_bool]; done) | (simp_all [-Bool.forall_bool]; first | exact h | apply h) | (simp_all [-Bool.forall_bool, emp_eq, int_beq]; done) | (simp_all [-Bool.forall_bool]; (intros; simp_all; done)) | (simp_all [-Bool.forall_bool, rdset90, rdset59, rdset43, rdset45, rdset75, rdset62, rdset5, rdset3, rdset86]; done) | grind
end Go.Proofs.Ytbbfkodckpfjcaa.M2

/- What the print's plain functions answer, the own ones answer. Written by a program of this session. -/
namespace Go.Proofs.Ytbbfkodckpfjcaa.M2
open Go Go.RowKit Go.Proofs.YtbbfkodckpfjcaaW.PrintWords Go.Proofs.Ytbbfkodckpfjcaa.PK
set_option linter.unusedVariables false
set_option linter.unusedSimpArgs false
theorem laws_szLeaf.rel (k : Nat) (a0_0 : Int) (a0_1 : ByteArray) (a1 : Int) (r) (h : PK.laws_szLeaf.f a0_0 a0_1 a1 = some r) (m : Nat) (hm : k ≤ m) : laws_szLeaf.f m a0_0 a0_1 a1 = some r := by
  rw [PK.laws_szLeaf.f] at h
  rw [laws_szLeaf.f]
  try simp only [w64_eq, wu8_eq, gt_iff_lt, ge_iff_le, int_beq, fdiv33, fdiv45, bt_eq, tmodN, rdOfB, rdOfL] at h
  try simp only [shlR]
  try simp only [w64_eq, wu8_eq, gt_iff_lt, ge_iff_le, int_beq, fdiv33, fdiv45, bt_eq, tmodN, rdOfB, rdOfL, rdT5_eq, rdT3_eq, seq, maxI, minI, emp_eq, rdn90, rdn59, rdn43, rdn45, rdn75, rdn62, rdn5, rdn3, rdn86]
  refine (itE h (fun q h => ?_) (fun q h => ?_))
  all_goals (try cases h)
  all_goals (try simp only [*, if_true, if_false, ↓reduceIte, Option.bind_some, List.length_cons, List.length_nil, List.length_append, Bool.not_true, Bool.not_false, Bool.true_eq_false, Bool.false_eq_true])
  all_goals (repeat first | rw [if_pos (by omega)] | rw [if_neg (by omega)])
  all_goals first | exact h | apply h | rfl | (simp_all [-Bool.forall_bool]; done) | (simp_all [-Bool.forall_bool]; first | exact h | apply h) | (simp_all [-Bool.forall_bool, emp_eq, int_beq]; done) | (simp_all [-Bool.forall_bool]; (intros; simp_all; done)) | (simp_all [-Bool.forall_bool, rdset90, rdset59, rdset43, rdset45, rdset75, rdset62, rdset5, rdset3, rdset86]; done) | grind

theorem laws_szLeafS.rel_l (k : Nat) : (∀ x0 x1 x5 r, PK.laws_szLeafS.l0 k x0 x1 x5 = some r → ∀ m, k ≤ m → laws_szLeafS.c5 m x0 x1 x5 = some r) := by
  induction k using Nat.strongRecOn with
  | _ k ih =>
  have il0 := fun k' hk' => (ih k' hk')
  clear ih
  intro x0 x1 x5 r h m hm
  cases k with
  | zero => simp only [PK.laws_szLeafS.l0] at h; cases h
  | succ k =>
    obtain ⟨m, rfl⟩ : ∃ m', m = m' + 1 := ⟨m - 1, by omega⟩
    rw [PK.laws_szLeafS.l0] at h
    rw [laws_szLeafS.c5]
    try simp only [w64_eq, wu8_eq, gt_iff_lt, ge_iff_le, int_beq, fdiv33, fdiv45, bt_eq, tmodN, rdOfB, rdOfL] at h
    try simp only [shlR]
    try simp only [w64_eq, wu8_eq, gt_iff_lt, ge_iff_le, int_beq, fdiv33, fdiv45, bt_eq, tmodN, rdOfB, rdOfL, rdT5_eq, rdT3_eq, seq, maxI, minI, emp_eq, rdn90, rdn59, rdn43, rdn45, rdn75, rdn62, rdn5, rdn3, rdn86]
    refine (itE h (fun q h => (itE h (fun q h => (bnE h (fun _ g h => (fun g => (itE h (fun q h => ?_) (fun q h => ((fun h => ?_) (il0 _ (by omega) _ _ _ _ h m (by omega)))))) (laws_szLeaf.rel m _ _ _ _ g m (by omega))))) (fun q h => (noE h)))) (fun q h => ?_))
    all_goals clear il0
    all_goals (try cases h)
    all_goals (try simp only [*, if_true, if_false, ↓reduceIte, Option.bind_some, List.length_cons, List.length_nil, List.length_append, Bool.not_true, Bool.not_false, Bool.true_eq_false, Bool.false_eq_true])
    all_goals (repeat first | rw [if_pos (by omega)] | rw [if_neg (by omega)])
    all_goals first | exact h | apply h | rfl | (simp_all [-Bool.forall_bool]; done) | (simp_all [-Bool.forall_bool]; first | exact h | apply h) | (simp_all [-Bool.forall_bool, emp_eq, int_beq]; done) | (simp_all [-Bool.forall_bool]; (intros; simp_all; done)) | (simp_all [-Bool.forall_bool, rdset90, rdset59, rdset43, rdset45, rdset75, rdset62, rdset5, rdset3, rdset86]; done) | grind
theorem laws_szLeafS.rel (k : Nat) (l0 : List (S90)) (a1 : Int) (r) (h : PK.laws_szLeafS.f k l0 a1 = some r) (m : Nat) (hm : k ≤ m) : laws_szLeafS.f m l0 a1 = some r := by
  have il0 := fun k' (_ : k' < k + 1) => (laws_szLeafS.rel_l k')
  rw [PK.laws_szLeafS.f] at h
  rw [laws_szLeafS.f]
  try simp only [w64_eq, wu8_eq, gt_iff_lt, ge_iff_le, int_beq, fdiv33, fdiv45, bt_eq, tmodN, rdOfB, rdOfL] at h
  try simp only [shlR]
  try simp only [w64_eq, wu8_eq, gt_iff_lt, ge_iff_le, int_beq, fdiv33, fdiv45, bt_eq, tmodN, rdOfB, rdOfL, rdT5_eq, rdT3_eq, seq, maxI, minI, emp_eq, rdn90, rdn59, rdn43, rdn45, rdn75, rdn62, rdn5, rdn3, rdn86]
  refine (itE h (fun q h => ?_) (fun q h => ((fun h => ?_) (il0 _ (by omega) _ _ _ _ h m (by omega)))))
  all_goals clear il0
  all_goals (try cases h)
  all_goals (try simp only [*, if_true, if_false, ↓reduceIte, Option.bind_some, List.length_cons, List.length_nil, List.length_append, Bool.not_true, Bool.not_false, Bool.true_eq_false, Bool.false_eq_true])
  all_goals (repeat first | rw [if_pos (by omega)] | rw [if_neg (by omega)])
  all_goals first | exact h | apply h | rfl | (simp_all [-Bool.forall_bool]; done) | (simp_all [-Bool.forall_bool]; first | exact h | apply h) | (simp_all [-Bool.forall_bool, emp_eq, int_beq]; done) | (simp_all [-Bool.forall_bool]; (intros; simp_all; done)) | (simp_all [-Bool.forall_bool, rdset90, rdset59, rdset43, rdset45, rdset75, rdset62, rdset5, rdset3, rdset86]; done) | grind

theorem laws_szBlock.rel (k : Nat) (a0_0 : Bool) (a0_1 : Int) (l0_2 : List (S90)) (a1 : Int) (r) (h : PK.laws_szBlock.f k a0_0 a0_1 l0_2 a1 = some r) (m : Nat) (hm : k ≤ m) : laws_szBlock.f m a0_0 a0_1 l0_2 a1 = some r := by
  rw [PK.laws_szBlock.f] at h
  rw [laws_szBlock.f]
  try simp only [w64_eq, wu8_eq, gt_iff_lt, ge_iff_le, int_beq, fdiv33, fdiv45, bt_eq, tmodN, rdOfB, rdOfL] at h
  try simp only [shlR]
  try simp only [w64_eq, wu8_eq, gt_iff_lt, ge_iff_le, int_beq, fdiv33, fdiv45, bt_eq, tmodN, rdOfB, rdOfL, rdT5_eq, rdT3_eq, seq, maxI, minI, emp_eq, rdn90, rdn59, rdn43, rdn45, rdn75, rdn62, rdn5, rdn3, rdn86]
  refine (bnE h (fun _ g h => (fun g => (itE h (fun q h => ?_) (fun q h => ?_))) (laws_szLeafS.rel _ _ _ _ g m (by omega))))
  all_goals (try cases h)
  all_goals (try simp only [*, if_true, if_false, ↓reduceIte, Option.bind_some, List.length_cons, List.length_nil, List.length_append, Bool.not_true, Bool.not_false, Bool.true_eq_false, Bool.false_eq_true])
  all_goals (repeat first | rw [if_pos (by omega)] | rw [if_neg (by omega)])
  all_goals first | exact h | apply h | rfl | (simp_all [-Bool.forall_bool]; done) | (simp_all [-Bool.forall_bool]; first | exact h | apply h) | (simp_all [-Bool.forall_bool, emp_eq, int_beq]; done) | (simp_all [-Bool.forall_bool]; (intros; simp_all; done)) | (simp_all [-Bool.forall_bool, rdset90, rdset59, rdset43, rdset45, rdset75, rdset62, rdset5, rdset3, rdset86]; done) | grind
end Go.Proofs.Ytbbfkodckpfjcaa.M2

/- What the print's plain functions answer, the own ones answer. Written by a program of this session. -/
namespace Go.Proofs.Ytbbfkodckpfjcaa.M2
open Go Go.RowKit Go.Proofs.YtbbfkodckpfjcaaW.PrintWords Go.Proofs.Ytbbfkodckpfjcaa.PK
set_option linter.unusedVariables false
set_option linter.unusedSimpArgs false
theorem laws_szBlockS.rel_l (k : Nat) : (∀ x0 x1 x5 r, PK.laws_szBlockS.l0 k x0 x1 x5 = some r → ∀ m, k ≤ m → laws_szBlockS.c5 m x0 x1 x5 = some r) := by
  induction k using Nat.strongRecOn with
  | _ k ih =>
  have il0 := fun k' hk' => (ih k' hk')
  clear ih
  intro x0 x1 x5 r h m hm
  cases k with
  | zero => simp only [PK.laws_szBlockS.l0] at h; cases h
  | succ k =>
    obtain ⟨m, rfl⟩ : ∃ m', m = m' + 1 := ⟨m - 1, by omega⟩
    rw [PK.laws_szBlockS.l0] at h
    rw [laws_szBlockS.c5]
    try simp only [w64_eq, wu8_eq, gt_iff_lt, ge_iff_le, int_beq, fdiv33, fdiv45, bt_eq, tmodN, rdOfB, rdOfL] at h
    try simp only [shlR]
    try simp only [w64_eq, wu8_eq, gt_iff_lt, ge_iff_le, int_beq, fdiv33, fdiv45, bt_eq, tmodN, rdOfB, rdOfL, rdT5_eq, rdT3_eq, seq, maxI, minI, emp_eq, rdn90, rdn59, rdn43, rdn45, rdn75, rdn62, rdn5, rdn3, rdn86]
    refine (itE h (fun q h => (itE h (fun q h => (bnE h (fun _ g h => (fun g => (itE h (fun q h => ?_) (fun q h => ((fun h => ?_) (il0 _ (by omega) _ _ _ _ h m (by omega)))))) (laws_szBlock.rel _ _ _ _ _ _ g m (by omega))))) (fun q h => (noE h)))) (fun q h => ?_))
    all_goals clear il0
    all_goals (try cases h)
    all_goals (try simp only [*, if_true, if_false, ↓reduceIte, Option.bind_some, List.length_cons, List.length_nil, List.length_append, Bool.not_true, Bool.not_false, Bool.true_eq_false, Bool.false_eq_true])
    all_goals (repeat first | rw [if_pos (by omega)] | rw [if_neg (by omega)])
    all_goals first | exact h | apply h | rfl | (simp_all [-Bool.forall_bool]; done) | (simp_all [-Bool.forall_bool]; first | exact h | apply h) | (simp_all [-Bool.forall_bool, emp_eq, int_beq]; done) | (simp_all [-Bool.forall_bool]; (intros; simp_all; done)) | (simp_all [-Bool.forall_bool, rdset90, rdset59, rdset43, rdset45, rdset75, rdset62, rdset5, rdset3, rdset86]; done) | grind
theorem laws_szBlockS.rel (k : Nat) (l0 : List (S59)) (a1 : Int) (r) (h : PK.laws_szBlockS.f k l0 a1 = some r) (m : Nat) (hm : k ≤ m) : laws_szBlockS.f m l0 a1 = some r := by
  have il0 := fun k' (_ : k' < k + 1) => (laws_szBlockS.rel_l k')
  rw [PK.laws_szBlockS.f] at h
  rw [laws_szBlockS.f]
  try simp only [w64_eq, wu8_eq, gt_iff_lt, ge_iff_le, int_beq, fdiv33, fdiv45, bt_eq, tmodN, rdOfB, rdOfL] at h
  try simp only [shlR]
  try simp only [w64_eq, wu8_eq, gt_iff_lt, ge_iff_le, int_beq, fdiv33, fdiv45, bt_eq, tmodN, rdOfB, rdOfL, rdT5_eq, rdT3_eq, seq, maxI, minI, emp_eq, rdn90, rdn59, rdn43, rdn45, rdn75, rdn62, rdn5, rdn3, rdn86]
  refine (itE h (fun q h => ?_) (fun q h => ((fun h => ?_) (il0 _ (by omega) _ _ _ _ h m (by omega)))))
  all_goals clear il0
  all_goals (try cases h)
  all_goals (try simp only [*, if_true, if_false, ↓reduceIte, Option.bind_some, List.length_cons, List.length_nil, List.length_append, Bool.not_true, Bool.not_false, Bool.true_eq_false, Bool.false_eq_true])
  all_goals (repeat first | rw [if_pos (by omega)] | rw [if_neg (by omega)])
  all_goals first | exact h | apply h | rfl | (simp_all [-Bool.forall_bool]; done) | (simp_all [-Bool.forall_bool]; first | exact h | apply h) | (simp_all [-Bool.forall_bool, emp_eq, int_beq]; done) | (simp_all [-Bool.forall_bool]; (intros; simp_all; done)) | (simp_all [-Bool.forall_bool, rdset90, rdset59, rdset43, rdset45, rdset75, rdset62, rdset5, rdset3, rdset86]; done) | grind

theorem laws_szFlash.rel (k : Nat) (l0_0 : List (S59)) (a1 : Int) (r) (h : PK.laws_szFlash.f k l0_0 a1 = some r) (m : Nat) (hm : k ≤ m) : laws_szFlash.f m l0_0 a1 = some r := by
  rw [PK.laws_szFlash.f] at h
  rw [laws_szFlash.f]
  try simp only [w64_eq, wu8_eq, gt_iff_lt, ge_iff_le, int_beq, fdiv33, fdiv45, bt_eq, tmodN, rdOfB, rdOfL] at h
  try simp only [shlR]
  try simp only [w64_eq, wu8_eq, gt_iff_lt, ge_iff_le, int_beq, fdiv33, fdiv45, bt_eq, tmodN, rdOfB, rdOfL, rdT5_eq, rdT3_eq, seq, maxI, minI, emp_eq, rdn90, rdn59, rdn43, rdn45, rdn75, rdn62, rdn5, rdn3, rdn86]
  refine (bnE h (fun _ g h => (fun g => (itE h (fun q h => ?_) (fun q h => ?_))) (laws_szBlockS.rel _ _ _ _ g m (by omega))))
  all_goals (try cases h)
  all_goals (try simp only [*, if_true, if_false, ↓reduceIte, Option.bind_some, List.length_cons, List.length_nil, List.length_append, Bool.not_true, Bool.not_false, Bool.true_eq_false, Bool.false_eq_true])
  all_goals (repeat first | rw [if_pos (by omega)] | rw [if_neg (by omega)])
  all_goals first | exact h | apply h | rfl | (simp_all [-Bool.forall_bool]; done) | (simp_all [-Bool.forall_bool]; first | exact h | apply h) | (simp_all [-Bool.forall_bool, emp_eq, int_beq]; done) | (simp_all [-Bool.forall_bool]; (intros; simp_all; done)) | (simp_all [-Bool.forall_bool, rdset90, rdset59, rdset43, rdset45, rdset75, rdset62, rdset5, rdset3, rdset86]; done) | grind

theorem laws_toLeaf.rel (k : Nat) (a0_0 : Int) (a0_1 : ByteArray) (r) (h : PK.laws_toLeaf.f a0_0 a0_1 = some r) (m : Nat) (hm : k ≤ m) : laws_toLeaf.f m a0_0 a0_1 = some (r.1, r.2) := by
  rw [PK.laws_toLeaf.f] at h
  rw [laws_toLeaf.f]
  try simp only [w64_eq, wu8_eq, gt_iff_lt, ge_iff_le, int_beq, fdiv33, fdiv45, bt_eq, tmodN, rdOfB, rdOfL] at h
  try simp only [shlR]
  try simp only [w64_eq, wu8_eq, gt_iff_lt, ge_iff_le, int_beq, fdiv33, fdiv45, bt_eq, tmodN, rdOfB, rdOfL, rdT5_eq, rdT3_eq, seq, maxI, minI, emp_eq, rdn90, rdn59, rdn43, rdn45, rdn75, rdn62, rdn5, rdn3, rdn86]
  refine ?_
  all_goals (try cases h)
  all_goals (try simp only [*, if_true, if_false, ↓reduceIte, Option.bind_some, List.length_cons, List.length_nil, List.length_append, Bool.not_true, Bool.not_false, Bool.true_eq_false, Bool.false_eq_true])
  all_goals (repeat first | rw [if_pos (by omega)] | rw [if_neg (by omega)])
  all_goals first | exact h | apply h | rfl | (simp_all [-Bool.forall_bool]; done) | (simp_all [-Bool.forall_bool]; first | exact h | apply h) | (simp_all [-Bool.forall_bool, emp_eq, int_beq]; done) | (simp_all [-Bool.forall_bool]; (intros; simp_all; done)) | (simp_all [-Bool.forall_bool, rdset90, rdset59, rdset43, rdset45, rdset75, rdset62, rdset5, rdset3, rdset86]; done) | grind

theorem laws_toLeafS.rel_l (k : Nat) : (∀ x0 x3 x4 r, PK.laws_toLeafS.l0 k x0 x3 x4 = some r → ∀ m, k ≤ m → laws_toLeafS.c3 m x0 x4 x3 = some r) := by
  induction k using Nat.strongRecOn with
  | _ k ih =>
  have il0 := fun k' hk' => (ih k' hk')
  clear ih
  intro x0 x3 x4 r h m hm
  cases k with
  | zero => simp only [PK.laws_toLeafS.l0] at h; cases h
  | succ k =>
    obtain ⟨m, rfl⟩ : ∃ m', m = m' + 1 := ⟨m - 1, by omega⟩
    rw [PK.laws_toLeafS.l0] at h
    rw [laws_toLeafS.c3]
    try simp only [w64_eq, wu8_eq, gt_iff_lt, ge_iff_le, int_beq, fdiv33, fdiv45, bt_eq, tmodN, rdOfB, rdOfL] at h
    try simp only [shlR]
    try simp only [w64_eq, wu8_eq, gt_iff_lt, ge_iff_le, int_beq, fdiv33, fdiv45, bt_eq, tmodN, rdOfB, rdOfL, rdT5_eq, rdT3_eq, seq, maxI, minI, emp_eq, rdn90, rdn59, rdn43, rdn45, rdn75, rdn62, rdn5, rdn3, rdn86]
    refine (itE h (fun q h => (itE h (fun q h => (bnE h (fun _ g h => (fun g => (itE h (fun q h => ((fun h => ?_) (il0 _ (by omega) _ _ _ _ h m (by omega)))) (fun q h => (noE h)))) (laws_toLeaf.rel m _ _ _ g m (by omega))))) (fun q h => (noE h)))) (fun q h => ?_))
    all_goals clear il0
    all_goals (try cases h)
    all_goals (try simp only [*, if_true, if_false, ↓reduceIte, Option.bind_some, List.length_cons, List.length_nil, List.length_append, Bool.not_true, Bool.not_false, Bool.true_eq_false, Bool.false_eq_true])
    all_goals (repeat first | rw [if_pos (by omega)] | rw [if_neg (by omega)])
    all_goals first | exact h | apply h | rfl | (simp_all [-Bool.forall_bool]; done) | (simp_all [-Bool.forall_bool]; first | exact h | apply h) | (simp_all [-Bool.forall_bool, emp_eq, int_beq]; done) | (simp_all [-Bool.forall_bool]; (intros; simp_all; done)) | (simp_all [-Bool.forall_bool, rdset90, rdset59, rdset43, rdset45, rdset75, rdset62, rdset5, rdset3, rdset86]; done) | grind
theorem laws_toLeafS.rel (k : Nat) (l0 : List (S90)) (r) (h : PK.laws_toLeafS.f k l0 = some r) (m : Nat) (hm : k ≤ m) : laws_toLeafS.f m l0 = some r := by
  have il0 := fun k' (_ : k' < k + 1) => (laws_toLeafS.rel_l k')
  rw [PK.laws_toLeafS.f] at h
  rw [laws_toLeafS.f]
  try simp only [w64_eq, wu8_eq, gt_iff_lt, ge_iff_le, int_beq, fdiv33, fdiv45, bt_eq, tmodN, rdOfB, rdOfL] at h
  try simp only [shlR]
  try simp only [w64_eq, wu8_eq, gt_iff_lt, ge_iff_le, int_beq, fdiv33, fdiv45, bt_eq, tmodN, rdOfB, rdOfL, rdT5_eq, rdT3_eq, seq, maxI, minI, emp_eq, rdn90, rdn59, rdn43, rdn45, rdn75, rdn62, rdn5, rdn3, rdn86]
  refine (itE h (fun q h => (itE h (fun q h => ((fun h => ?_) (il0 _ (by omega) _ _ _ _ h m (by omega)))) (fun q h => (noE h)))) (fun q h => (noE h)))
  all_goals clear il0
  all_goals (try cases h)
  all_goals (try simp only [*, if_true, if_false, ↓reduceIte, Option.bind_some, List.length_cons, List.length_nil, List.length_append, Bool.not_true, Bool.not_false, Bool.true_eq_false, Bool.false_eq_true])
  all_goals (repeat first | rw [if_pos (by omega)] | rw [if_neg (by omega)])
  all_goals first | exact h | apply h | rfl | (simp_all [-Bool.forall_bool]; done) | (simp_all [-Bool.forall_bool]; first | exact h | apply h) | (simp_all [-Bool.forall_bool, emp_eq, int_beq]; done) | (simp_all [-Bool.forall_bool]; (intros; simp_all; done)) | (simp_all [-Bool.forall_bool, rdset90, rdset59, rdset43, rdset45, rdset75, rdset62, rdset5, rdset3, rdset86]; done) | grind
end Go.Proofs.Ytbbfkodckpfjcaa.M2

/- What the print's plain functions answer, the own ones answer. Written by a program of this session. -/
namespace Go.Proofs.Ytbbfkodckpfjcaa.M2
open Go Go.RowKit Go.Proofs.YtbbfkodckpfjcaaW.PrintWords Go.Proofs.Ytbbfkodckpfjcaa.PK
set_option linter.unusedVariables false
set_option linter.unusedSimpArgs false
theorem laws_toBlock.rel (k : Nat) (a0_0 : Bool) (a0_1 : Int) (l0_2 : List (S90)) (r) (h : PK.laws_toBlock.f k a0_0 a0_1 l0_2 = some r) (m : Nat) (hm : k ≤ m) : laws_toBlock.f m a0_0 a0_1 l0_2 = some (r.1, r.2.1, r.2.2) := by
  rw [PK.laws_toBlock.f] at h
  rw [laws_toBlock.f]
  try simp only [w64_eq, wu8_eq, gt_iff_lt, ge_iff_le, int_beq, fdiv33, fdiv45, bt_eq, tmodN, rdOfB, rdOfL] at h
  try simp only [shlR]
  try simp only [w64_eq, wu8_eq, gt_iff_lt, ge_iff_le, int_beq, fdiv33, fdiv45, bt_eq, tmodN, rdOfB, rdOfL, rdT5_eq, rdT3_eq, seq, maxI, minI, emp_eq, rdn90, rdn59, rdn43, rdn45, rdn75, rdn62, rdn5, rdn3, rdn86]
  refine (bnE h (fun _ g h => (fun g => ?_) (laws_toLeafS.rel _ _ _ g m (by omega))))
  all_goals (try cases h)
  all_goals (try simp only [*, if_true, if_false, ↓reduceIte, Option.bind_some, List.length_cons, List.length_nil, List.length_append, Bool.not_true, Bool.not_false, Bool.true_eq_false, Bool.false_eq_true])
  all_goals (repeat first | rw [if_pos (by omega)] | rw [if_neg (by omega)])
  all_goals first | exact h | apply h | rfl | (simp_all [-Bool.forall_bool]; done) | (simp_all [-Bool.forall_bool]; first | exact h | apply h) | (simp_all [-Bool.forall_bool, emp_eq, int_beq]; done) | (simp_all [-Bool.forall_bool]; (intros; simp_all; done)) | (simp_all [-Bool.forall_bool, rdset90, rdset59, rdset43, rdset45, rdset75, rdset62, rdset5, rdset3, rdset86]; done) | grind

theorem laws_toBlockS.rel_l (k : Nat) : (∀ x0 x3 x4 r, PK.laws_toBlockS.l0 k x0 x3 x4 = some r → ∀ m, k ≤ m → laws_toBlockS.c3 m x0 x4 x3 = some r) := by
  induction k using Nat.strongRecOn with
  | _ k ih =>
  have il0 := fun k' hk' => (ih k' hk')
  clear ih
  intro x0 x3 x4 r h m hm
  cases k with
  | zero => simp only [PK.laws_toBlockS.l0] at h; cases h
  | succ k =>
    obtain ⟨m, rfl⟩ : ∃ m', m = m' + 1 := ⟨m - 1, by omega⟩
    rw [PK.laws_toBlockS.l0] at h
    rw [laws_toBlockS.c3]
    try simp only [w64_eq, wu8_eq, gt_iff_lt, ge_iff_le, int_beq, fdiv33, fdiv45, bt_eq, tmodN, rdOfB, rdOfL] at h
    try simp only [shlR]
    try simp only [w64_eq, wu8_eq, gt_iff_lt, ge_iff_le, int_beq, fdiv33, fdiv45, bt_eq, tmodN, rdOfB, rdOfL, rdT5_eq, rdT3_eq, seq, maxI, minI, emp_eq, rdn90, rdn59, rdn43, rdn45, rdn75, rdn62, rdn5, rdn3, rdn86]
    refine (itE h (fun q h => (itE h (fun q h => (bnE h (fun _ g h => (fun g => (itE h (fun q h => ((fun h => ?_) (il0 _ (by omega) _ _ _ _ h m (by omega)))) (fun q h => (noE h)))) (laws_toBlock.rel _ _ _ _ _ g m (by omega))))) (fun q h => (noE h)))) (fun q h => ?_))
    all_goals clear il0
    all_goals (try cases h)
    all_goals (try simp only [*, if_true, if_false, ↓reduceIte, Option.bind_some, List.length_cons, List.length_nil, List.length_append, Bool.not_true, Bool.not_false, Bool.true_eq_false, Bool.false_eq_true])
    all_goals (repeat first | rw [if_pos (by omega)] | rw [if_neg (by omega)])
    all_goals first | exact h | apply h | rfl | (simp_all [-Bool.forall_bool]; done) | (simp_all [-Bool.forall_bool]; first | exact h | apply h) | (simp_all [-Bool.forall_bool, emp_eq, int_beq]; done) | (simp_all [-Bool.forall_bool]; (intros; simp_all; done)) | (simp_all [-Bool.forall_bool, rdset90, rdset59, rdset43, rdset45, rdset75, rdset62, rdset5, rdset3, rdset86]; done) | grind
theorem laws_toBlockS.rel (k : Nat) (l0 : List (S59)) (r) (h : PK.laws_toBlockS.f k l0 = some r) (m : Nat) (hm : k ≤ m) : laws_toBlockS.f m l0 = some r := by
  have il0 := fun k' (_ : k' < k + 1) => (laws_toBlockS.rel_l k')
  rw [PK.laws_toBlockS.f] at h
  rw [laws_toBlockS.f]
  try simp only [w64_eq, wu8_eq, gt_iff_lt, ge_iff_le, int_beq, fdiv33, fdiv45, bt_eq, tmodN, rdOfB, rdOfL] at h
  try simp only [shlR]
  try simp only [w64_eq, wu8_eq, gt_iff_lt, ge_iff_le, int_beq, fdiv33, fdiv45, bt_eq, tmodN, rdOfB, rdOfL, rdT5_eq, rdT3_eq, seq, maxI, minI, emp_eq, rdn90, rdn59, rdn43, rdn45, rdn75, rdn62, rdn5, rdn3, rdn86]
  refine (itE h (fun q h => (itE h (fun q h => ((fun h => ?_) (il0 _ (by omega) _ _ _ _ h m (by omega)))) (fun q h => (noE h)))) (fun q h => (noE h)))
  all_goals clear il0
  all_goals (try cases h)
  all_goals (try simp only [*, if_true, if_false, ↓reduceIte, Option.bind_some, List.length_cons, List.length_nil, List.length_append, Bool.not_true, Bool.not_false, Bool.true_eq_false, Bool.false_eq_true])
  all_goals (repeat first | rw [if_pos (by omega)] | rw [if_neg (by omega)])
  all_goals first | exact h | apply h | rfl | (simp_all [-Bool.forall_bool]; done) | (simp_all [-Bool.forall_bool]; first | exact h | apply h) | (simp_all [-Bool.forall_bool, emp_eq, int_beq]; done) | (simp_all [-Bool.forall_bool]; (intros; simp_all; done)) | (simp_all [-Bool.forall_bool, rdset90, rdset59, rdset43, rdset45, rdset75, rdset62, rdset5, rdset3, rdset86]; done) | grind

theorem laws_toFlash.rel (k : Nat) (l0_0 : List (S59)) (r) (h : PK.laws_toFlash.f k l0_0 = some r) (m : Nat) (hm : k ≤ m) : laws_toFlash.f m l0_0 = some r := by
  rw [PK.laws_toFlash.f] at h
  rw [laws_toFlash.f]
  try simp only [w64_eq, wu8_eq, gt_iff_lt, ge_iff_le, int_beq, fdiv33, fdiv45, bt_eq, tmodN, rdOfB, rdOfL] at h
  try simp only [shlR]
  try simp only [w64_eq, wu8_eq, gt_iff_lt, ge_iff_le, int_beq, fdiv33, fdiv45, bt_eq, tmodN, rdOfB, rdOfL, rdT5_eq, rdT3_eq, seq, maxI, minI, emp_eq, rdn90, rdn59, rdn43, rdn45, rdn75, rdn62, rdn5, rdn3, rdn86]
  refine (bnE h (fun _ g h => (fun g => ?_) (laws_toBlockS.rel _ _ _ g m (by omega))))
  all_goals (try cases h)
  all_goals (try simp only [*, if_true, if_false, ↓reduceIte, Option.bind_some, List.length_cons, List.length_nil, List.length_append, Bool.not_true, Bool.not_false, Bool.true_eq_false, Bool.false_eq_true])
  all_goals (repeat first | rw [if_pos (by omega)] | rw [if_neg (by omega)])
  all_goals first | exact h | apply h | rfl | (simp_all [-Bool.forall_bool]; done) | (simp_all [-Bool.forall_bool]; first | exact h | apply h) | (simp_all [-Bool.forall_bool, emp_eq, int_beq]; done) | (simp_all [-Bool.forall_bool]; (intros; simp_all; done)) | (simp_all [-Bool.forall_bool, rdset90, rdset59, rdset43, rdset45, rdset75, rdset62, rdset5, rdset3, rdset86]; done) | grind
end Go.Proofs.Ytbbfkodckpfjcaa.M2

/- What the print's plain functions answer, the own ones answer. Written by a program of this session. -/
namespace Go.Proofs.Ytbbfkodckpfjcaa.M2
open Go Go.RowKit Go.Proofs.YtbbfkodckpfjcaaW.PrintWords Go.Proofs.Ytbbfkodckpfjcaa.PK
set_option linter.unusedVariables false
set_option linter.unusedSimpArgs false
theorem laws_eqLeaf.rel (k : Nat) (a0_0 : Int) (a0_1 : ByteArray) (a1_0 : Int) (a1_1 : ByteArray) (r) (h : PK.laws_eqLeaf.f a0_0 a0_1 a1_0 a1_1 = some r) (m : Nat) (hm : k ≤ m) : laws_eqLeaf.f m a0_0 a0_1 a1_0 a1_1 = some r := by
  rw [PK.laws_eqLeaf.f] at h
  rw [laws_eqLeaf.f]
  try simp only [w64_eq, wu8_eq, gt_iff_lt, ge_iff_le, int_beq, fdiv33, fdiv45, bt_eq, tmodN, rdOfB, rdOfL] at h
  try simp only [shlR]
  try simp only [w64_eq, wu8_eq, gt_iff_lt, ge_iff_le, int_beq, fdiv33, fdiv45, bt_eq, tmodN, rdOfB, rdOfL, rdT5_eq, rdT3_eq, seq, maxI, minI, emp_eq, rdn90, rdn59, rdn43, rdn45, rdn75, rdn62, rdn5, rdn3, rdn86]
  refine (itE h (fun q h => (itE h (fun q h => ?_) (fun q h => ?_))) (fun q h => ?_))
  all_goals (try cases h)
  all_goals (try simp only [*, if_true, if_false, ↓reduceIte, Option.bind_some, List.length_cons, List.length_nil, List.length_append, Bool.not_true, Bool.not_false, Bool.true_eq_false, Bool.false_eq_true])
  all_goals (repeat first | rw [if_pos (by omega)] | rw [if_neg (by omega)])
  all_goals first | exact h | apply h | rfl | (simp_all [-Bool.forall_bool]; done) | (simp_all [-Bool.forall_bool]; first | exact h | apply h) | (simp_all [-Bool.forall_bool, emp_eq, int_beq]; done) | (simp_all [-Bool.forall_bool]; (intros; simp_all; done)) | (simp_all [-Bool.forall_bool, rdset90, rdset59, rdset43, rdset45, rdset75, rdset62, rdset5, rdset3, rdset86]; done) | grind

theorem laws_eqLeafS.rel_l (k : Nat) : (∀ x0 x1 x5 r, PK.laws_eqLeafS.l0 k x0 x1 x5 = some r → ∀ m, k ≤ m → laws_eqLeafS.c4 m x0 x1 x5 = some r) := by
  induction k using Nat.strongRecOn with
  | _ k ih =>
  have il0 := fun k' hk' => (ih k' hk')
  clear ih
  intro x0 x1 x5 r h m hm
  cases k with
  | zero => simp only [PK.laws_eqLeafS.l0] at h; cases h
  | succ k =>
    obtain ⟨m, rfl⟩ : ∃ m', m = m' + 1 := ⟨m - 1, by omega⟩
    rw [PK.laws_eqLeafS.l0] at h
    rw [laws_eqLeafS.c4]
    try simp only [w64_eq, wu8_eq, gt_iff_lt, ge_iff_le, int_beq, fdiv33, fdiv45, bt_eq, tmodN, rdOfB, rdOfL] at h
    try simp only [shlR]
    try simp only [w64_eq, wu8_eq, gt_iff_lt, ge_iff_le, int_beq, fdiv33, fdiv45, bt_eq, tmodN, rdOfB, rdOfL, rdT5_eq, rdT3_eq, seq, maxI, minI, emp_eq, rdn90, rdn59, rdn43, rdn45, rdn75, rdn62, rdn5, rdn3, rdn86]
    refine (itE h (fun q h => (itE h (fun q h => (itE h (fun q h => (bnE h (fun _ g h => (fun g => (itE h (fun q h => ((fun h => ?_) (il0 _ (by omega) _ _ _ _ h m (by omega)))) (fun q h => ?_))) (laws_eqLeaf.rel m _ _ _ _ _ g m (by omega))))) (fun q h => (noE h)))) (fun q h => (noE h)))) (fun q h => ?_))
    all_goals clear il0
    all_goals (try cases h)
    all_goals (try simp only [*, if_true, if_false, ↓reduceIte, Option.bind_some, List.length_cons, List.length_nil, List.length_append, Bool.not_true, Bool.not_false, Bool.true_eq_false, Bool.false_eq_true])
    all_goals (repeat first | rw [if_pos (by omega)] | rw [if_neg (by omega)])
    all_goals first | exact h | apply h | rfl | (simp_all [-Bool.forall_bool]; done) | (simp_all [-Bool.forall_bool]; first | exact h | apply h) | (simp_all [-Bool.forall_bool, emp_eq, int_beq]; done) | (simp_all [-Bool.forall_bool]; (intros; simp_all; done)) | (simp_all [-Bool.forall_bool, rdset90, rdset59, rdset43, rdset45, rdset75, rdset62, rdset5, rdset3, rdset86]; done) | grind
theorem laws_eqLeafS.rel (k : Nat) (l0 : List (S75)) (l1 : List (S75)) (r) (h : PK.laws_eqLeafS.f k l0 l1 = some r) (m : Nat) (hm : k ≤ m) : laws_eqLeafS.f m l0 l1 = some r := by
  have il0 := fun k' (_ : k' < k + 1) => (laws_eqLeafS.rel_l k')
  rw [PK.laws_eqLeafS.f] at h
  rw [laws_eqLeafS.f]
  try simp only [w64_eq, wu8_eq, gt_iff_lt, ge_iff_le, int_beq, fdiv33, fdiv45, bt_eq, tmodN, rdOfB, rdOfL] at h
  try simp only [shlR]
  try simp only [w64_eq, wu8_eq, gt_iff_lt, ge_iff_le, int_beq, fdiv33, fdiv45, bt_eq, tmodN, rdOfB, rdOfL, rdT5_eq, rdT3_eq, seq, maxI, minI, emp_eq, rdn90, rdn59, rdn43, rdn45, rdn75, rdn62, rdn5, rdn3, rdn86]
  refine (itE h (fun q h => ((fun h => ?_) (il0 _ (by omega) _ _ _ _ h m (by omega)))) (fun q h => ?_))
  all_goals clear il0
  all_goals (try cases h)
  all_goals (try simp only [*, if_true, if_false, ↓reduceIte, Option.bind_some, List.length_cons, List.length_nil, List.length_append, Bool.not_true, Bool.not_false, Bool.true_eq_false, Bool.false_eq_true])
  all_goals (repeat first | rw [if_pos (by omega)] | rw [if_neg (by omega)])
  all_goals first | exact h | apply h | rfl | (simp_all [-Bool.forall_bool]; done) | (simp_all [-Bool.forall_bool]; first | exact h | apply h) | (simp_all [-Bool.forall_bool, emp_eq, int_beq]; done) | (simp_all [-Bool.forall_bool]; (intros; simp_all; done)) | (simp_all [-Bool.forall_bool, rdset90, rdset59, rdset43, rdset45, rdset75, rdset62, rdset5, rdset3, rdset86]; done) | grind

theorem laws_eqBlock.rel (k : Nat) (a0_0 : Bool) (a0_1 : Int) (l0_2 : List (S75)) (a1_0 : Bool) (a1_1 : Int) (l1_2 : List (S75)) (r) (h : PK.laws_eqBlock.f k a0_0 a0_1 l0_2 a1_0 a1_1 l1_2 = some r) (m : Nat) (hm : k ≤ m) : laws_eqBlock.f m a0_0 a0_1 l0_2 a1_0 a1_1 l1_2 = some r := by
  rw [PK.laws_eqBlock.f] at h
  rw [laws_eqBlock.f]
  try simp only [w64_eq, wu8_eq, gt_iff_lt, ge_iff_le, int_beq, fdiv33, fdiv45, bt_eq, tmodN, rdOfB, rdOfL] at h
  try simp only [shlR]
  try simp only [w64_eq, wu8_eq, gt_iff_lt, ge_iff_le, int_beq, fdiv33, fdiv45, bt_eq, tmodN, rdOfB, rdOfL, rdT5_eq, rdT3_eq, seq, maxI, minI, emp_eq, rdn90, rdn59, rdn43, rdn45, rdn75, rdn62, rdn5, rdn3, rdn86]
  refine (itE h (fun q h => ?_) (fun q h => (itE h (fun q h => (bnE h (fun _ g h => (fun g => (itE h (fun q h => ?_) (fun q h => ?_))) (laws_eqLeafS.rel _ _ _ _ g m (by omega))))) (fun q h => ?_))))
  all_goals (try cases h)
  all_goals (try simp only [*, if_true, if_false, ↓reduceIte, Option.bind_some, List.length_cons, List.length_nil, List.length_append, Bool.not_true, Bool.not_false, Bool.true_eq_false, Bool.false_eq_true])
  all_goals (repeat first | rw [if_pos (by omega)] | rw [if_neg (by omega)])
  all_goals first | exact h | apply h | rfl | (simp_all [-Bool.forall_bool]; done) | (simp_all [-Bool.forall_bool]; first | exact h | apply h) | (simp_all [-Bool.forall_bool, emp_eq, int_beq]; done) | (simp_all [-Bool.forall_bool]; (intros; simp_all; done)) | (simp_all [-Bool.forall_bool, rdset90, rdset59, rdset43, rdset45, rdset75, rdset62, rdset5, rdset3, rdset86]; done) | grind
end Go.Proofs.Ytbbfkodckpfjcaa.M2

/- What the print's plain functions answer, the own ones answer. Written by a program of this session. -/
namespace Go.Proofs.Ytbbfkodckpfjcaa.M2
open Go Go.RowKit Go.Proofs.YtbbfkodckpfjcaaW.PrintWords Go.Proofs.Ytbbfkodckpfjcaa.PK
set_option linter.unusedVariables false
set_option linter.unusedSimpArgs false
theorem laws_eqBlockS.rel_l (k : Nat) : (∀ x0 x1 x5 r, PK.laws_eqBlockS.l0 k x0 x1 x5 = some r → ∀ m, k ≤ m → laws_eqBlockS.c4 m x0 x1 x5 = some r) := by
  induction k using Nat.strongRecOn with
  | _ k ih =>
  have il0 := fun k' hk' => (ih k' hk')
  clear ih
  intro x0 x1 x5 r h m hm
  cases k with
  | zero => simp only [PK.laws_eqBlockS.l0] at h; cases h
  | succ k =>
    obtain ⟨m, rfl⟩ : ∃ m', m = m' + 1 := ⟨m - 1, by omega⟩
    rw [PK.laws_eqBlockS.l0] at h
    rw [laws_eqBlockS.c4]
    try simp only [w64_eq, wu8_eq, gt_iff_lt, ge_iff_le, int_beq, fdiv33, fdiv45, bt_eq, tmodN, rdOfB, rdOfL] at h
    try simp only [shlR]
    try simp only [w64_eq, wu8_eq, gt_iff_lt, ge_iff_le, int_beq, fdiv33, fdiv45, bt_eq, tmodN, rdOfB, rdOfL, rdT5_eq, rdT3_eq, seq, maxI, minI, emp_eq, rdn90, rdn59, rdn43, rdn45, rdn75, rdn62, rdn5, rdn3, rdn86]
    refine (itE h (fun q h => (itE h (fun q h => (itE h (fun q h => (bnE h (fun _ g h => (fun g => (itE h (fun q h => ((fun h => ?_) (il0 _ (by omega) _ _ _ _ h m (by omega)))) (fun q h => ?_))) (laws_eqBlock.rel _ _ _ _ _ _ _ _ g m (by omega))))) (fun q h => (noE h)))) (fun q h => (noE h)))) (fun q h => ?_))
    all_goals clear il0
    all_goals (try cases h)
    all_goals (try simp only [*, if_true, if_false, ↓reduceIte, Option.bind_some, List.length_cons, List.length_nil, List.length_append, Bool.not_true, Bool.not_false, Bool.true_eq_false, Bool.false_eq_true])
    all_goals (repeat first | rw [if_pos (by omega)] | rw [if_neg (by omega)])
    all_goals first | exact h | apply h | rfl | (simp_all [-Bool.forall_bool]; done) | (simp_all [-Bool.forall_bool]; first | exact h | apply h) | (simp_all [-Bool.forall_bool, emp_eq, int_beq]; done) | (simp_all [-Bool.forall_bool]; (intros; simp_all; done)) | (simp_all [-Bool.forall_bool, rdset90, rdset59, rdset43, rdset45, rdset75, rdset62, rdset5, rdset3, rdset86]; done) | grind
theorem laws_eqBlockS.rel (k : Nat) (l0 : List (S62)) (l1 : List (S62)) (r) (h : PK.laws_eqBlockS.f k l0 l1 = some r) (m : Nat) (hm : k ≤ m) : laws_eqBlockS.f m l0 l1 = some r := by
  have il0 := fun k' (_ : k' < k + 1) => (laws_eqBlockS.rel_l k')
  rw [PK.laws_eqBlockS.f] at h
  rw [laws_eqBlockS.f]
  try simp only [w64_eq, wu8_eq, gt_iff_lt, ge_iff_le, int_beq, fdiv33, fdiv45, bt_eq, tmodN, rdOfB, rdOfL] at h
  try simp only [shlR]
  try simp only [w64_eq, wu8_eq, gt_iff_lt, ge_iff_le, int_beq, fdiv33, fdiv45, bt_eq, tmodN, rdOfB, rdOfL, rdT5_eq, rdT3_eq, seq, maxI, minI, emp_eq, rdn90, rdn59, rdn43, rdn45, rdn75, rdn62, rdn5, rdn3, rdn86]
  refine (itE h (fun q h => ((fun h => ?_) (il0 _ (by omega) _ _ _ _ h m (by omega)))) (fun q h => ?_))
  all_goals clear il0
  all_goals (try cases h)
  all_goals (try simp only [*, if_true, if_false, ↓reduceIte, Option.bind_some, List.length_cons, List.length_nil, List.length_append, Bool.not_true, Bool.not_false, Bool.true_eq_false, Bool.false_eq_true])
  all_goals (repeat first | rw [if_pos (by omega)] | rw [if_neg (by omega)])
  all_goals first | exact h | apply h | rfl | (simp_all [-Bool.forall_bool]; done) | (simp_all [-Bool.forall_bool]; first | exact h | apply h) | (simp_all [-Bool.forall_bool, emp_eq, int_beq]; done) | (simp_all [-Bool.forall_bool]; (intros; simp_all; done)) | (simp_all [-Bool.forall_bool, rdset90, rdset59, rdset43, rdset45, rdset75, rdset62, rdset5, rdset3, rdset86]; done) | grind

theorem laws_eqFlash.rel (k : Nat) (l0_0 : List (S62)) (l1_0 : List (S62)) (r) (h : PK.laws_eqFlash.f k l0_0 l1_0 = some r) (m : Nat) (hm : k ≤ m) : laws_eqFlash.f m l0_0 l1_0 = some r := by
  rw [PK.laws_eqFlash.f] at h
  rw [laws_eqFlash.f]
  try simp only [w64_eq, wu8_eq, gt_iff_lt, ge_iff_le, int_beq, fdiv33, fdiv45, bt_eq, tmodN, rdOfB, rdOfL] at h
  try simp only [shlR]
  try simp only [w64_eq, wu8_eq, gt_iff_lt, ge_iff_le, int_beq, fdiv33, fdiv45, bt_eq, tmodN, rdOfB, rdOfL, rdT5_eq, rdT3_eq, seq, maxI, minI, emp_eq, rdn90, rdn59, rdn43, rdn45, rdn75, rdn62, rdn5, rdn3, rdn86]
  refine (bnE h (fun _ g h => (fun g => (itE h (fun q h => ?_) (fun q h => ?_))) (laws_eqBlockS.rel _ _ _ _ g m (by omega))))
  all_goals (try cases h)
  all_goals (try simp only [*, if_true, if_false, ↓reduceIte, Option.bind_some, List.length_cons, List.length_nil, List.length_append, Bool.not_true, Bool.not_false, Bool.true_eq_false, Bool.false_eq_true])
  all_goals (repeat first | rw [if_pos (by omega)] | rw [if_neg (by omega)])
  all_goals first | exact h | apply h | rfl | (simp_all [-Bool.forall_bool]; done) | (simp_all [-Bool.forall_bool]; first | exact h | apply h) | (simp_all [-Bool.forall_bool, emp_eq, int_beq]; done) | (simp_all [-Bool.forall_bool]; (intros; simp_all; done)) | (simp_all [-Bool.forall_bool, rdset90, rdset59, rdset43, rdset45, rdset75, rdset62, rdset5, rdset3, rdset86]; done) | grind

theorem laws_toIntS.rel_l (k : Nat) : (∀ x0 x3 x4 r, PK.laws_toIntS.l0 k x0 x3 x4 = some r → ∀ m, k ≤ m → laws_toIntS.c3 m x0 x4 x3 = some r) := by
  induction k using Nat.strongRecOn with
  | _ k ih =>
  have il0 := fun k' hk' => (ih k' hk')
  clear ih
  intro x0 x3 x4 r h m hm
  cases k with
  | zero => simp only [PK.laws_toIntS.l0] at h; cases h
  | succ k =>
    obtain ⟨m, rfl⟩ : ∃ m', m = m' + 1 := ⟨m - 1, by omega⟩
    rw [PK.laws_toIntS.l0] at h
    rw [laws_toIntS.c3]
    try simp only [w64_eq, wu8_eq, gt_iff_lt, ge_iff_le, int_beq, fdiv33, fdiv45, bt_eq, tmodN, rdOfB, rdOfL] at h
    try simp only [shlR]
    try simp only [w64_eq, wu8_eq, gt_iff_lt, ge_iff_le, int_beq, fdiv33, fdiv45, bt_eq, tmodN, rdOfB, rdOfL, rdT5_eq, rdT3_eq, seq, maxI, minI, emp_eq, rdn90, rdn59, rdn43, rdn45, rdn75, rdn62, rdn5, rdn3, rdn86]
    refine (itE h (fun q h => (itE h (fun q h => (itE h (fun q h => ((fun h => ?_) (il0 _ (by omega) _ _ _ _ h m (by omega)))) (fun q h => (noE h)))) (fun q h => (noE h)))) (fun q h => ?_))
    all_goals clear il0
    all_goals (try cases h)
    all_goals (try simp only [*, if_true, if_false, ↓reduceIte, Option.bind_some, List.length_cons, List.length_nil, List.length_append, Bool.not_true, Bool.not_false, Bool.true_eq_false, Bool.false_eq_true])
    all_goals (repeat first | rw [if_pos (by omega)] | rw [if_neg (by omega)])
    all_goals first | exact h | apply h | rfl | (simp_all [-Bool.forall_bool]; done) | (simp_all [-Bool.forall_bool]; first | exact h | apply h) | (simp_all [-Bool.forall_bool, emp_eq, int_beq]; done) | (simp_all [-Bool.forall_bool]; (intros; simp_all; done)) | (simp_all [-Bool.forall_bool, rdset90, rdset59, rdset43, rdset45, rdset75, rdset62, rdset5, rdset3, rdset86]; done) | grind
theorem laws_toIntS.rel (k : Nat) (l0 : List Int) (r) (h : PK.laws_toIntS.f k l0 = some r) (m : Nat) (hm : k ≤ m) : laws_toIntS.f m l0 = some r := by
  have il0 := fun k' (_ : k' < k + 1) => (laws_toIntS.rel_l k')
  rw [PK.laws_toIntS.f] at h
  rw [laws_toIntS.f]
  try simp only [w64_eq, wu8_eq, gt_iff_lt, ge_iff_le, int_beq, fdiv33, fdiv45, bt_eq, tmodN, rdOfB, rdOfL] at h
  try simp only [shlR]
  try simp only [w64_eq, wu8_eq, gt_iff_lt, ge_iff_le, int_beq, fdiv33, fdiv45, bt_eq, tmodN, rdOfB, rdOfL, rdT5_eq, rdT3_eq, seq, maxI, minI, emp_eq, rdn90, rdn59, rdn43, rdn45, rdn75, rdn62, rdn5, rdn3, rdn86]
  refine (itE h (fun q h => (itE h (fun q h => ((fun h => ?_) (il0 _ (by omega) _ _ _ _ h m (by omega)))) (fun q h => (noE h)))) (fun q h => (noE h)))
  all_goals clear il0
  all_goals (try cases h)
  all_goals (try simp only [*, if_true, if_false, ↓reduceIte, Option.bind_some, List.length_cons, List.length_nil, List.length_append, Bool.not_true, Bool.not_false, Bool.true_eq_false, Bool.false_eq_true])
  all_goals (repeat first | rw [if_pos (by omega)] | rw [if_neg (by omega)])
  all_goals first | exact h | apply h | rfl | (simp_all [-Bool.forall_bool]; done) | (simp_all [-Bool.forall_bool]; first | exact h | apply h) | (simp_all [-Bool.forall_bool, emp_eq, int_beq]; done) | (simp_all [-Bool.forall_bool]; (intros; simp_all; done)) | (simp_all [-Bool.forall_bool, rdset90, rdset59, rdset43, rdset45, rdset75, rdset62, rdset5, rdset3, rdset86]; done) | grind
end Go.Proofs.Ytbbfkodckpfjcaa.M2

/- What the print's plain functions answer, the own ones answer. Written by a program of this session. -/
namespace Go.Proofs.Ytbbfkodckpfjcaa.M2
open Go Go.RowKit Go.Proofs.YtbbfkodckpfjcaaW.PrintWords Go.Proofs.Ytbbfkodckpfjcaa.PK
set_option linter.unusedVariables false
set_option linter.unusedSimpArgs false
theorem laws_eqIntS.rel_l (k : Nat) : (∀ x0 x1 x5 r, PK.laws_eqIntS.l0 k x0 x1 x5 = some r → ∀ m, k ≤ m → laws_eqIntS.c4 m x0 x1 x5 = some r) := by
  induction k using Nat.strongRecOn with
  | _ k ih =>
  have il0 := fun k' hk' => (ih k' hk')
  clear ih
  intro x0 x1 x5 r h m hm
  cases k with
  | zero => simp only [PK.laws_eqIntS.l0] at h; cases h
  | succ k =>
    obtain ⟨m, rfl⟩ : ∃ m', m = m' + 1 := ⟨m - 1, by omega⟩
    rw [PK.laws_eqIntS.l0] at h
    rw [laws_eqIntS.c4]
    try simp only [w64_eq, wu8_eq, gt_iff_lt, ge_iff_le, int_beq, fdiv33, fdiv45, bt_eq, tmodN, rdOfB, rdOfL] at h
    try simp only [shlR]
    try simp only [w64_eq, wu8_eq, gt_iff_lt, ge_iff_le, int_beq, fdiv33, fdiv45, bt_eq, tmodN, rdOfB, rdOfL, rdT5_eq, rdT3_eq, seq, maxI, minI, emp_eq, rdn90, rdn59, rdn43, rdn45, rdn75, rdn62, rdn5, rdn3, rdn86]
    refine (itE h (fun q h => (itE h (fun q h => (itE h (fun q h => (itE h (fun q h => ((fun h => ?_) (il0 _ (by omega) _ _ _ _ h m (by omega)))) (fun q h => ?_))) (fun q h => (noE h)))) (fun q h => (noE h)))) (fun q h => ?_))
    all_goals clear il0
    all_goals (try cases h)
    all_goals (try simp only [*, if_true, if_false, ↓reduceIte, Option.bind_some, List.length_cons, List.length_nil, List.length_append, Bool.not_true, Bool.not_false, Bool.true_eq_false, Bool.false_eq_true])
    all_goals (repeat first | rw [if_pos (by omega)] | rw [if_neg (by omega)])
    all_goals first | exact h | apply h | rfl | (simp_all [-Bool.forall_bool]; done) | (simp_all [-Bool.forall_bool]; first | exact h | apply h) | (simp_all [-Bool.forall_bool, emp_eq, int_beq]; done) | (simp_all [-Bool.forall_bool]; (intros; simp_all; done)) | (simp_all [-Bool.forall_bool, rdset90, rdset59, rdset43, rdset45, rdset75, rdset62, rdset5, rdset3, rdset86]; done) | grind
theorem laws_eqIntS.rel (k : Nat) (l0 : List Int) (l1 : List Int) (r) (h : PK.laws_eqIntS.f k l0 l1 = some r) (m : Nat) (hm : k ≤ m) : laws_eqIntS.f m l0 l1 = some r := by
  have il0 := fun k' (_ : k' < k + 1) => (laws_eqIntS.rel_l k')
  rw [PK.laws_eqIntS.f] at h
  rw [laws_eqIntS.f]
  try simp only [w64_eq, wu8_eq, gt_iff_lt, ge_iff_le, int_beq, fdiv33, fdiv45, bt_eq, tmodN, rdOfB, rdOfL] at h
  try simp only [shlR]
  try simp only [w64_eq, wu8_eq, gt_iff_lt, ge_iff_le, int_beq, fdiv33, fdiv45, bt_eq, tmodN, rdOfB, rdOfL, rdT5_eq, rdT3_eq, seq, maxI, minI, emp_eq, rdn90, rdn59, rdn43, rdn45, rdn75, rdn62, rdn5, rdn3, rdn86]
  refine (itE h (fun q h => ((fun h => ?_) (il0 _ (by omega) _ _ _ _ h m (by omega)))) (fun q h => ?_))
  all_goals clear il0
  all_goals (try cases h)
  all_goals (try simp only [*, if_true, if_false, ↓reduceIte, Option.bind_some, List.length_cons, List.length_nil, List.length_append, Bool.not_true, Bool.not_false, Bool.true_eq_false, Bool.false_eq_true])
  all_goals (repeat first | rw [if_pos (by omega)] | rw [if_neg (by omega)])
  all_goals first | exact h | apply h | rfl | (simp_all [-Bool.forall_bool]; done) | (simp_all [-Bool.forall_bool]; first | exact h | apply h) | (simp_all [-Bool.forall_bool, emp_eq, int_beq]; done) | (simp_all [-Bool.forall_bool]; (intros; simp_all; done)) | (simp_all [-Bool.forall_bool, rdset90, rdset59, rdset43, rdset45, rdset75, rdset62, rdset5, rdset3, rdset86]; done) | grind
end Go.Proofs.Ytbbfkodckpfjcaa.M2



/- Plain facts on rounds, lists and whole numbers, for the pure statements. -/
namespace Go.Proofs.Ytbbfkodckpfjcaa.Pu
set_option linter.unusedVariables false
set_option linter.unusedSimpArgs false
open Go.RowKit Go.Proofs.YtbbfkodckpfjcaaW.PrintWords

theorem w64 {x : Int} (h1 : -9223372036854775808 ≤ x) (h2 : x ≤ 9223372036854775807) : wrap64 x = x := by
  unfold wrap64; omega
theorem wsucc {i n : Nat} (h : i < n) (hn : n ≤ 9223372036854775807) : wrap64 ((i : Int) + 1) = ((i + 1 : Nat) : Int) := by
  rw [w64 (by omega) (by omega)]; rfl
theorem wf_i64 {n : Int} (h : (Lit.int .i64 n).wf = true) : -9223372036854775808 ≤ n ∧ n ≤ 9223372036854775807 := by
  simp only [Lit.wf, Bool.and_eq_true, decide_eq_true_eq] at h
  have h1 : IntKind.min .i64 = -9223372036854775808 := by decide
  have h2 : IntKind.max .i64 = 9223372036854775807 := by decide
  omega

/-- Rounds: what is told, a step on. -/
theorem ev_some {α : Type} {g : Nat → Option α} {r : α} (h : ∀ k, g (k + 1) = some r) : Ev g r := Ev.step h (Ev.now r)
theorem ev_const {α : Type} {o : Option α} {r : α} (h : o = some r) : Ev (fun _ => o) r := ⟨0, fun _ _ => h⟩
theorem ev_bind {α β : Type} {g : Nat → Option α} {f : Nat → α → Option β} {a : α} {r : β} (h : Ev g a) (k : Ev (fun n => f n a) r) : Ev (fun n => (g n).bind (f n)) r := Ev.bind h k
theorem ev_uniq {α : Type} {g : Nat → Option α} {a b : α} (h : Ev g a) (k : Ev g b) : a = b := by
  obtain ⟨K, hK⟩ := h
  obtain ⟨M, hM⟩ := k
  have h1 := hK (max K M) (Nat.le_max_left _ _)
  rw [hM (max K M) (Nat.le_max_right _ _)] at h1
  injection h1 with h1
  exact h1.symm
theorem ev_ext {α : Type} {g f : Nat → Option α} {r : α} (h : ∀ k, g k = f k) (k : Ev f r) : Ev g r := Ev.congr h k

/-- A row that is made and filled, place by place. -/
theorem ev_fill {β : Type} {L : Nat → List β → Int → Option (List β)} {E : Nat → Int → Option β} {n : Nat} {e : Nat → β} (hn : n ≤ 9223372036854775807)
    (hs : ∀ k xs i, L (k + 1) xs i = if i < (n : Int) then (if 0 ≤ i then ((E k i).bind fun b => if i < (xs.length : Int) then L k (xs.set i.toNat b) (wrap64 (i + 1)) else none) else none) else some xs)
    (hE : ∀ i, i < n → Ev (fun k => E k (i : Int)) (e i)) :
    ∀ (d i : Nat) (xs : List β), xs.length = n → i + d = n → Ev (fun k => L k xs (i : Int)) (xs.take i ++ (List.range' i d).map e) := by
  intro d
  induction d with
  | zero =>
    intro i xs hl hi
    refine ev_some fun k => ?_
    rw [hs, if_neg (by omega)]
    simp [List.take_of_length_le (show xs.length ≤ i by omega)]
  | succ d ih =>
    intro i xs hl hi
    refine Ev.step (f := fun k => (E k (i : Int)).bind fun b => L k (xs.set i b) ((i + 1 : Nat) : Int)) (fun k => ?_) ?_
    · rw [hs, if_pos (by omega), if_pos (by omega), wsucc (n := n) (by omega) hn]
      congr 1
      funext b
      rw [if_pos (by omega)]
      rfl
    · refine ev_bind (hE i (by omega)) ?_
      have h := ih (i + 1) (xs.set i (e i)) (by rw [List.length_set]; exact hl) (by omega)
      have e1 : (xs.set i (e i)).take (i + 1) ++ (List.range' (i + 1) d).map e = xs.take i ++ (List.range' i (d + 1)).map e := by
        rw [List.range'_succ, List.map_cons, List.take_succ_eq_append_getElem (by rw [List.length_set]; omega), List.getElem_set_self, List.take_set_of_le (Nat.le_refl _)]
        simp
      rw [e1] at h
      exact h
theorem map_range {α β : Type} (l : List α) (z : α) (g : α → β) : (List.range' 0 l.length).map (fun i => g (l.getD i z)) = l.map g := by
  apply List.ext_getElem
  · simp
  · intro i h1 h2
    simp only [List.length_map] at h2
    simp [List.getD_eq_getElem?_getD, List.getElem?_eq_getElem h2]
theorem ev_fill_all {α β : Type} {L : Nat → List β → Int → Option (List β)} {E : Nat → Int → Option β} {l : List α} {z : α} {g : α → β} {xs : List β} (hn : l.length ≤ 9223372036854775807)
    (hs : ∀ k xs i, L (k + 1) xs i = if i < (l.length : Int) then (if 0 ≤ i then ((E k i).bind fun b => if i < (xs.length : Int) then L k (xs.set i.toNat b) (wrap64 (i + 1)) else none) else none) else some xs)
    (hE : ∀ i, i < l.length → Ev (fun k => E k (i : Int)) (g (l.getD i z))) (hx : xs.length = l.length) : Ev (fun k => L k xs 0) (l.map g) := by
  have h := ev_fill (e := fun i => g (l.getD i z)) hn hs hE l.length 0 xs hx (by omega)
  rw [map_range] at h
  simpa using h

/-- Every place meets a test, tried place by place. -/
theorem ev_all {L E : Nat → Int → Option Bool} {n m : Nat} (hn : n ≤ 9223372036854775807) (hnm : n ≤ m)
    (hs : ∀ k i, L (k + 1) i = if i < (n : Int) then (if 0 ≤ i then (if i < (m : Int) then ((E k i).bind fun b => if b = true then L k (wrap64 (i + 1)) else some false) else none) else none) else some true)
    (hE : ∀ i, i < n → Ev (fun k => E k (i : Int)) true) : ∀ (d i : Nat), i + d = n → Ev (fun k => L k (i : Int)) true := by
  intro d
  induction d with
  | zero => intro i hi; exact ev_some fun k => by rw [hs, if_neg (by omega)]
  | succ d ih =>
    intro i hi
    refine Ev.step (f := fun k => (E k (i : Int)).bind fun b => if b = true then L k ((i + 1 : Nat) : Int) else some false) (fun k => ?_) (ev_bind (hE i (by omega)) (by simpa using ih (i + 1) (by omega)))
    rw [hs, if_pos (by omega), if_pos (by omega), if_pos (by omega), wsucc (n := n) (by omega) hn]

/-- What is left of a number, place by place, as long as it is not below 0. -/
theorem ev_size {L E : Nat → Int → Int → Option Int} {n : Nat} {P : Nat → Prop} (hn : n ≤ 9223372036854775807)
    (hs : ∀ k a i, L (k + 1) a i = if i < (n : Int) then (if 0 ≤ i then ((E k i a).bind fun t => if t < 0 then some (-1) else L k t (wrap64 (i + 1))) else none) else some a)
    (hE : ∀ i a, i < n → 0 ≤ a → a ≤ 1048576 → ∃ t, Ev (fun k => E k (i : Int) a) t ∧ t ≤ a ∧ (0 ≤ t → P i)) :
    ∀ (d i : Nat) (a : Int), i + d = n → 0 ≤ a → a ≤ 1048576 → ∃ r, Ev (fun k => L k a (i : Int)) r ∧ r ≤ a ∧ (0 ≤ r → ∀ m, i ≤ m → m < n → P m) := by
  intro d
  induction d with
  | zero => intro i a hi h0 h1; exact ⟨a, ev_some fun k => by rw [hs, if_neg (by omega)], Int.le_refl _, fun _ m h2 h3 => by omega⟩
  | succ d ih =>
    intro i a hi h0 h1
    obtain ⟨t, ht, hta, hp⟩ := hE i a (by omega) h0 h1
    have hst : ∀ k, L (k + 1) a (i : Int) = (E k (i : Int) a).bind fun t => if t < 0 then some (-1) else L k t ((i + 1 : Nat) : Int) := fun k => by
      rw [hs, if_pos (by omega), if_pos (by omega), wsucc (n := n) (by omega) hn]
    by_cases hneg : t < 0
    · exact ⟨-1, Ev.step hst (ev_bind ht (by simp only [if_pos hneg]; exact Ev.now _)), by omega, fun h => by omega⟩
    · obtain ⟨r, hr, hra, hq⟩ := ih (i + 1) t (by omega) (by omega) (by omega)
      refine ⟨r, Ev.step hst (ev_bind ht (by simp only [if_neg hneg]; exact hr)), by omega, fun h0r m h2 h3 => ?_⟩
      by_cases e : m = i
      · subst e; exact hp (by omega)
      · exact hq h0r m (by omega) h3
end Go.Proofs.Ytbbfkodckpfjcaa.Pu

/- More plain facts on rounds: tests in a row, folds, searches. -/
namespace Go.Proofs.Ytbbfkodckpfjcaa.Pu
set_option linter.unusedVariables false
set_option linter.unusedSimpArgs false
open Go.RowKit Go.Proofs.YtbbfkodckpfjcaaW.PrintWords

/-- Tests in a row, one a round; then what comes. -/
theorem ev_scan {L : Nat → Int → Option Bool} {g : Nat → Option Bool} {n : Nat} {T : Nat → Bool} {r : Bool}
    (hs : ∀ k i, i < n → L (k + 1) (i : Int) = if T i = true then L k ((i + 1 : Nat) : Int) else some false) (he : ∀ k, L (k + 1) (n : Int) = g k) (hr : Ev g r) :
    ∀ (d i : Nat), i + d = n → Ev (fun k => L k (i : Int)) ((List.range' i d).all T && r) := by
  intro d
  induction d with
  | zero =>
    intro i hi
    obtain rfl : i = n := by omega
    exact Ev.step he hr
  | succ d ih =>
    intro i hi
    rw [List.range'_succ, List.all_cons]
    by_cases h : T i = true
    · rw [h, Bool.true_and]
      exact Ev.step (fun k => by rw [hs k i (by omega), if_pos h]) (ih (i + 1) (by omega))
    · rw [Bool.eq_false_iff.mpr h, Bool.false_and, Bool.false_and]
      exact ev_some fun k => by rw [hs k i (by omega), if_neg h]
/-- Tests in a row, each of many rounds; then what comes. -/
theorem ev_outer {L : Nat → Int → Option Bool} {n : Nat} {T : Nat → Bool} {r0 : Bool}
    (hs : ∀ i r, i < n → Ev (fun k => L k ((i + 1 : Nat) : Int)) r → Ev (fun k => L k (i : Int)) (T i && r)) (he : Ev (fun k => L k (n : Int)) r0) :
    ∀ (d i : Nat), i + d = n → Ev (fun k => L k (i : Int)) ((List.range' i d).all T && r0) := by
  intro d
  induction d with
  | zero =>
    intro i hi
    obtain rfl : i = n := by omega
    exact he
  | succ d ih =>
    intro i hi
    rw [List.range'_succ, List.all_cons, Bool.and_assoc]
    exact hs i _ (by omega) (ih (i + 1) (by omega))
/-- A state that is carried along; then what comes. -/
theorem ev_fold {σ ρ : Type} {L : Nat → σ → Int → Option ρ} {n : Nat} {F : σ → Nat → σ} {fin : σ → ρ} (Inv : Nat → σ → Prop)
    (hs : ∀ s i, i < n → Inv i s → ∀ r, Ev (fun k => L k (F s i) ((i + 1 : Nat) : Int)) r → Ev (fun k => L k s (i : Int)) r) (hi : ∀ s i, i < n → Inv i s → Inv (i + 1) (F s i))
    (he : ∀ s, Inv n s → Ev (fun k => L k s (n : Int)) (fin s)) : ∀ (d i : Nat) (s : σ), i + d = n → Inv i s → Ev (fun k => L k s (i : Int)) (fin ((List.range' i d).foldl F s)) := by
  intro d
  induction d with
  | zero =>
    intro i s h hv
    obtain rfl : i = n := by omega
    exact he s hv
  | succ d ih =>
    intro i s h hv
    rw [List.range'_succ, List.foldl_cons]
    exact hs s i (by omega) hv _ (ih (i + 1) (F s i) (by omega) (hi s i (by omega) hv))
/-- The first place that meets a test, -1 without one. -/
def findI (T : Nat → Bool) : Nat → Nat → Int
  | _, 0 => -1
  | i, d + 1 => if T i = true then (i : Int) else findI T (i + 1) d
theorem ev_find {L : Nat → Int → Option Int} {n : Nat} {T : Nat → Bool}
    (hy : ∀ i, i < n → T i = true → Ev (fun k => L k (i : Int)) (i : Int)) (hn : ∀ i, i < n → T i = false → ∀ r, Ev (fun k => L k ((i + 1 : Nat) : Int)) r → Ev (fun k => L k (i : Int)) r)
    (he : Ev (fun k => L k (n : Int)) (-1)) : ∀ (d i : Nat), i + d = n → Ev (fun k => L k (i : Int)) (findI T i d) := by
  intro d
  induction d with
  | zero =>
    intro i hi
    obtain rfl : i = n := by omega
    exact he
  | succ d ih =>
    intro i hi
    unfold findI
    by_cases h : T i = true
    · rw [if_pos h]; exact hy i (by omega) h
    · rw [if_neg h]; exact hn i (by omega) (Bool.eq_false_iff.mpr h) _ (ih (i + 1) (by omega))
theorem findI_range {T : Nat → Bool} : ∀ (d i : Nat), findI T i d = -1 ∨ ∃ j, i ≤ j ∧ j < i + d ∧ findI T i d = (j : Int) ∧ T j = true
  | 0, i => .inl rfl
  | d + 1, i => by
    unfold findI
    by_cases h : T i = true
    · rw [if_pos h]; exact .inr ⟨i, Nat.le_refl _, by omega, rfl, h⟩
    · rw [if_neg h]
      rcases findI_range d (i + 1) with h1 | ⟨j, h1, h2, h3, h4⟩
      · exact .inl h1
      · exact .inr ⟨j, by omega, by omega, h3, h4⟩
theorem bytes_empty (a : ByteArray) : (a.toList == ([] : List UInt8)) = decide ((a.size : Int) ≤ 0) := by
  rw [ByteArray.toList_eq]
  have h : a.data.toList.length = a.size := by rw [Array.length_toList]; rfl
  cases e : a.data.toList with
  | nil =>
    have h1 : a.size = 0 := by rw [← h, e]; rfl
    rw [decide_eq_true (by omega)]; rfl
  | cons x l =>
    have h1 : a.size = l.length + 1 := by rw [← h, e]; rfl
    rw [decide_eq_false (by omega)]; rfl
theorem getD_mem' {α : Type} {l : List α} {i : Nat} {z : α} (hi : i < l.length) : l.getD i z ∈ l := by
  rw [List.getD_eq_getElem?_getD, List.getElem?_eq_getElem hi]; exact List.getElem_mem hi
end Go.Proofs.Ytbbfkodckpfjcaa.Pu

/- The reference's draws: a byte, a number below a bound, some places. -/
namespace Go.Proofs.Ytbbfkodckpfjcaa.Pu
set_option linter.unusedVariables false
set_option linter.unusedSimpArgs false
open Go.RowKit Go.Proofs.Ytbbfkodckpfjcaa.PK Go.Proofs.YtbbfkodckpfjcaaW.PrintWords

theorem and255 (x : Int) : 0 ≤ Go.bits .and .i64 x 255 ∧ Go.bits .and .i64 x 255 ≤ 255 := by
  have h : (BitVec.ofInt 64 x &&& BitVec.ofInt 64 255).toNat ≤ 255 := by
    rw [BitVec.toNat_and]; exact Nat.le_trans Nat.and_le_right (by decide)
  have e : Go.bits .and .i64 x 255 = Go.IntKind.i64.wrap ((BitVec.ofInt 64 x &&& BitVec.ofInt 64 255).toNat : Int) := rfl
  rw [e, Go.IntKind.wrap_i64]
  omega
end Go.Proofs.Ytbbfkodckpfjcaa.Pu

/- The reference's draws of a yes or no, and of a text. -/
namespace Go.Proofs.Ytbbfkodckpfjcaa.Pu
set_option linter.unusedVariables false
set_option linter.unusedSimpArgs false
open Go.RowKit Go.Proofs.Ytbbfkodckpfjcaa.PK Go.Proofs.YtbbfkodckpfjcaaW.PrintWords

theorem str_size (l : List Int) : (strOfNums l).size = l.length := by
  unfold strOfNums
  simp [ByteArray.size]
end Go.Proofs.Ytbbfkodckpfjcaa.Pu

/- A function that answers, and what of its answer is told; drawn numbers and texts, of the own functions. -/
namespace Go.Proofs.Ytbbfkodckpfjcaa.M2.Mp
set_option linter.unusedVariables false
set_option linter.unusedSimpArgs false
open Go.RowKit Go.Proofs.Ytbbfkodckpfjcaa.PK Go.Proofs.YtbbfkodckpfjcaaW.PrintWords Go.Proofs.Ytbbfkodckpfjcaa.Pu

/-- It answers, and the answer is such. -/
def EvX {α : Type} (g : Nat → Option α) (P : α → Prop) : Prop := ∃ r, Ev g r ∧ P r
theorem ev_rel {α β : Type} {g : Nat → Option α} {f : Nat → Option β} {a : α} {c : α → β} (h : Ev g a) (hr : ∀ k r, g k = some r → ∀ m, k ≤ m → f m = some (c r)) : Ev f (c a) := by
  obtain ⟨K, hK⟩ := h
  exact ⟨K, fun m hm => hr K a (hK K (Nat.le_refl _)) m hm⟩
theorem ev_all_k {α : Type} {f : Nat → Option α} {a : α} (h : ∀ m, f m = some a) : Ev f a := ⟨0, fun m _ => h m⟩
theorem evx_of {α : Type} {g : Nat → Option α} {P : α → Prop} {a : α} (h : Ev g a) (hp : P a) : EvX g P := ⟨a, h, hp⟩
theorem evx_mono {α : Type} {g : Nat → Option α} {P Q : α → Prop} (h : EvX g P) (hq : ∀ a, P a → Q a) : EvX g Q := by
  obtain ⟨r, h1, h2⟩ := h; exact ⟨r, h1, hq r h2⟩
theorem evx_bind {α β : Type} {g : Nat → Option α} {f : Nat → α → Option β} {Q : α → Prop} {P : β → Prop} (h : EvX g Q) (k : ∀ a, Q a → EvX (fun n => f n a) P) : EvX (fun n => (g n).bind (f n)) P := by
  obtain ⟨a, h1, h2⟩ := h
  obtain ⟨r, h3, h4⟩ := k a h2
  exact ⟨r, Ev.bind h1 h3, h4⟩
theorem evx_ite {α : Type} {c : Prop} [Decidable c] {g f : Nat → Option α} {P : α → Prop} (h1 : c → EvX g P) (h2 : ¬ c → EvX f P) : EvX (fun n => if c then g n else f n) P := by
  by_cases h : c
  · simp only [if_pos h]; exact h1 h
  · simp only [if_neg h]; exact h2 h
theorem evx_pos {α : Type} {c : Prop} [Decidable c] {g f : Nat → Option α} {P : α → Prop} (h : c) (h1 : EvX g P) : EvX (fun n => if c then g n else f n) P := by
  simp only [if_pos h]; exact h1
theorem evx_neg {α : Type} {c : Prop} [Decidable c] {g f : Nat → Option α} {P : α → Prop} (h : ¬ c) (h1 : EvX f P) : EvX (fun n => if c then g n else f n) P := by
  simp only [if_neg h]; exact h1
theorem evx_some {α : Type} {P : α → Prop} {a : α} (h : P a) : EvX (fun _ => some a) P := ⟨a, Ev.now _, h⟩
theorem evx_step {α : Type} {g f : Nat → Option α} {P : α → Prop} (h : ∀ k, g (k + 1) = f k) (k : EvX f P) : EvX g P := by
  obtain ⟨r, h1, h2⟩ := k
  exact ⟨r, Ev.step h h1, h2⟩
theorem evx_out {g : Nat → Option Bool} (h : EvX g (fun r => r = true)) : ∃ k, g k = some true := by
  obtain ⟨r, ⟨K, hK⟩, rfl⟩ := h
  exact ⟨K, hK K (Nat.le_refl _)⟩

/-- The cursor over the bytes b stands at i. -/
def Cur (b : List Int) (i : Int) : Prop := 0 ≤ i ∧ i ≤ b.length
abbrev Cb (b : List Int) : Prop := b.length ≤ 9223372036854775807
end Go.Proofs.Ytbbfkodckpfjcaa.M2.Mp

/- A number in bytes, as one list; the program's VarText and the reference's l01Var tell it. -/
namespace Go.Proofs.Ytbbfkodckpfjcaa.Pu
set_option linter.unusedVariables false
set_option linter.unusedSimpArgs false
open Go.RowKit Go.Proofs.Ytbbfkodckpfjcaa.PK Go.Proofs.YtbbfkodckpfjcaaW.PrintWords

/-- The bytes of a number, seven bits at a time. -/
def varL (n : Nat) : List Int := if h : n > 127 then ((n % 128 + 128 : Nat) : Int) :: varL (n / 128) else [(n : Int)]
theorem varL_long {n : Nat} (h : n > 127) : varL n = ((n % 128 + 128 : Nat) : Int) :: varL (n / 128) := by rw [varL, dif_pos h]
theorem varL_short {n : Nat} (h : ¬ n > 127) : varL n = [(n : Int)] := by rw [varL, dif_neg h]
theorem varL_len : ∀ (d n : Nat), n < 128 ^ (d + 1) → (varL n).length ≤ d + 1 ∧ 1 ≤ (varL n).length
  | 0, n, h => by rw [varL_short (by omega)]; simp
  | d + 1, n, h => by
    by_cases hn : n > 127
    · rw [varL_long hn]
      have := varL_len d (n / 128) (by rw [Nat.pow_succ] at h; omega)
      simp only [List.length_cons]
      omega
    · rw [varL_short hn]; simp
theorem varL_len5 {n : Nat} (h : n ≤ 1000000000) : (varL n).length ≤ 5 ∧ 1 ≤ (varL n).length := varL_len 4 n (by omega)
theorem wbyte {n : Nat} (h : n > 127) (hn : n ≤ 1000000000) : wrap64 (Int.tdiv (n : Int) 128) = ((n / 128 : Nat) : Int) ∧ wrap64 (Int.tmod (n : Int) 128 + 128) % 256 = ((n % 128 + 128 : Nat) : Int) := by
  rw [Int.tdiv_eq_ediv_of_nonneg (by omega), Int.tmod_eq_emod_of_nonneg (by omega), w64 (by omega) (by omega), w64 (by omega) (by omega)]
  omega
theorem sVar_ev : ∀ (d n : Nat) (acc : List Int), n < 128 ^ (d + 1) → n ≤ 1000000000 → acc.length + d ≤ 100 → Ev (fun k => spec_l01Var.l0 k n acc) (strOfNums (acc ++ varL n))
  | 0, n, acc, h, hn, ha => ev_some fun k => by
    simp only [spec_l01Var.l0]
    rw [if_neg (by omega), if_pos (by omega), varL_short (by omega), show (n : Int) % 256 = n by omega]
  | d + 1, n, acc, h, hn, ha => by
    by_cases h1 : n > 127
    · have := sVar_ev d (n / 128) (acc ++ [((n % 128 + 128 : Nat) : Int)]) (by rw [Nat.pow_succ] at h; omega) (by omega) (by simp; omega)
      rw [varL_long h1, show acc ++ ((n % 128 + 128 : Nat) : Int) :: varL (n / 128) = (acc ++ [((n % 128 + 128 : Nat) : Int)]) ++ varL (n / 128) by simp]
      refine Ev.step (fun k => ?_) this
      simp only [spec_l01Var.l0]
      rw [if_pos (by omega), if_pos (by omega), (wbyte h1 hn).1, (wbyte h1 hn).2]
    · refine ev_some fun k => ?_
      simp only [spec_l01Var.l0]
      rw [if_neg (by omega), if_pos (by omega), varL_short h1, show (n : Int) % 256 = n by omega]
theorem l01Var_ev {n : Int} (h0 : 0 ≤ n) (h : n ≤ 1000000000) : Ev (fun k => spec_l01Var.f k n) (strOfNums (varL n.toNat)) := by
  have := sVar_ev 4 n.toNat [] (by omega) (by omega) (by simp)
  rw [List.nil_append, show ((n.toNat : Nat) : Int) = n by omega] at this
  exact this
theorem strOf_size (l : List Int) : (strOfNums l).size = l.length := by
  unfold strOfNums
  simp [ByteArray.size]
end Go.Proofs.Ytbbfkodckpfjcaa.Pu

/- A number read from bytes, as one function; the program's and the reference's ReadVar tell it, and it reads what VarText writes. -/
namespace Go.Proofs.Ytbbfkodckpfjcaa.Pu
set_option linter.unusedVariables false
set_option linter.unusedSimpArgs false
open Go.RowKit Go.Proofs.Ytbbfkodckpfjcaa.PK Go.Proofs.YtbbfkodckpfjcaaW.PrintWords

/-- A text's bytes. -/
def byt (t : ByteArray) : List Nat := t.data.toList.map UInt8.toNat
theorem byt_len (t : ByteArray) : (byt t).length = t.size := by unfold byt; rw [List.length_map, Array.length_toList]; rfl
theorem bt_byt (t : ByteArray) (i : Nat) : bt t (i : Int) = (((byt t).getD i 0 : Nat) : Int) := by
  unfold bt
  by_cases h : i < t.size
  · rw [dif_pos (show ((i : Int)).toNat < t.size from h)]
    rw [List.getD_eq_getElem?_getD, List.getElem?_eq_getElem (by rw [byt_len]; exact h)]
    unfold byt
    rw [List.getElem_map, Array.getElem_toList]
    rfl
  · rw [dif_neg (show ¬ ((i : Int)).toNat < t.size from h), List.getD_eq_getElem?_getD, List.getElem?_eq_none (by rw [byt_len]; omega)]; rfl
theorem byt_lt (t : ByteArray) : ∀ b ∈ byt t, b < 256 := by
  intro b hb
  obtain ⟨x, _, rfl⟩ := List.mem_map.1 hb
  exact UInt8.toNat_lt x
theorem byt_get_lt (t : ByteArray) (i : Nat) : (byt t).getD i 0 < 256 := by
  by_cases h : i < (byt t).length
  · exact byt_lt t _ (getD_mem' h)
  · rw [List.getD_eq_getElem?_getD, List.getElem?_eq_none (by omega)]; exact by decide
theorem byt_inj {s t : ByteArray} (h : byt s = byt t) : s = t := by
  unfold byt at h
  have h2 := (List.map_inj_right (fun a b e => UInt8.toNat_inj.1 e)).1 h
  have h3 := Array.toList_inj.1 h2
  cases s; cases t; simp only at h3; rw [h3]
theorem byt_app (s t : ByteArray) : byt (s ++ t) = byt s ++ byt t := by
  unfold byt
  rw [show (s ++ t).data = s.data ++ t.data from ByteArray.data_append, Array.toList_append, List.map_append]
theorem byt_empty : byt ⟨#[]⟩ = [] := rfl
theorem byt_str (l : List Int) (h : ∀ x ∈ l, 0 ≤ x ∧ x < 256) : byt (strOfNums l) = l.map Int.toNat := by
  unfold byt strOfNums
  rw [List.map_map]
  refine List.map_congr_left fun x hx => ?_
  have := h x hx
  show (UInt8.ofNat x.toNat).toNat = x.toNat
  rw [UInt8.toNat_ofNat']
  omega
theorem byt_sub (t : ByteArray) (a b : Nat) : byt (t.extract a b) = ((byt t).drop a).take (b - a) := by
  unfold byt
  rw [ByteArray.data_extract, Array.toList_extract, List.extract_eq_take_drop, List.map_take, List.map_drop]
theorem toList_iff (s t : ByteArray) : s.toList = t.toList ↔ byt s = byt t := by
  rw [ByteArray.toList_eq, ByteArray.toList_eq]
  constructor
  · intro h; unfold byt; rw [h]
  · intro h; rw [byt_inj h]

theorem varL_byte (n : Nat) : ∀ y ∈ varL n, 0 ≤ y ∧ y < 256 := by
  induction n using Nat.strongRecOn with
  | _ n ih =>
    intro y hy
    by_cases hn : n > 127
    · rw [varL_long hn] at hy
      rcases List.mem_cons.1 hy with hy | hy
      · omega
      · exact ih (n / 128) (by omega) y hy
    · rw [varL_short hn] at hy
      obtain rfl := List.mem_singleton.1 hy
      omega
/-- The number that bytes mean. -/
def valB : List Nat → Nat
  | [] => 0
  | b :: r => b % 128 + 128 * valB r
theorem val_snoc : ∀ (l : List Nat) (x : Nat), valB (l ++ [x]) = valB l + x % 128 * 128 ^ l.length
  | [], x => by simp [valB]
  | b :: r, x => by
    show b % 128 + 128 * valB (r ++ [x]) = b % 128 + 128 * valB r + x % 128 * 128 ^ (r.length + 1)
    rw [val_snoc r x, Nat.mul_add, Nat.pow_succ, ← Nat.add_assoc]
    congr 1
    rw [Nat.mul_comm 128, Nat.mul_assoc]
theorem val_lt : ∀ l : List Nat, valB l < 128 ^ l.length
  | [] => by decide
  | b :: r => by
    have := val_lt r
    show b % 128 + 128 * valB r < 128 ^ (r.length + 1)
    rw [Nat.pow_succ]
    omega
theorem val_pos : ∀ (pre : List Nat) {x : Nat}, x < 128 → x ≠ 0 → 1 ≤ valB (pre ++ [x])
  | [], x, h, h0 => by show 1 ≤ x % 128 + 128 * 0; omega
  | b :: r, x, h, h0 => by
    have := val_pos r h h0
    show 1 ≤ b % 128 + 128 * valB (r ++ [x])
    omega
theorem canon1 : ∀ (pre : List Nat) {x : Nat}, (∀ b ∈ pre, 128 ≤ b ∧ b < 256) → x < 128 → (pre = [] ∨ x ≠ 0) → varL (valB (pre ++ [x])) = (pre ++ [x]).map fun b : Nat => (b : Int)
  | [], x, _, hx, _ => by
    have e : valB ([] ++ [x]) = x := by show x % 128 + 128 * 0 = x; omega
    rw [e, varL_short (by omega)]; rfl
  | b :: r, x, h, hx, h0 => by
    have hx0 : x ≠ 0 := by
      rcases h0 with h0 | h0
      · cases h0
      · exact h0
    have hp := val_pos r hx hx0
    have hb := h b List.mem_cons_self
    have e : valB (b :: r ++ [x]) = b % 128 + 128 * valB (r ++ [x]) := rfl
    rw [e, varL_long (by omega), show (b % 128 + 128 * valB (r ++ [x])) / 128 = valB (r ++ [x]) by omega, canon1 r (fun c hc => h c (List.mem_cons_of_mem _ hc)) hx (.inr hx0)]
    have e3 : (((b % 128 + 128 * valB (r ++ [x])) % 128 + 128 : Nat) : Int) = (b : Int) := by omega
    rw [e3]; rfl
theorem varL_zero {n : Nat} (h : varL n = [0]) : n = 0 := by
  by_cases hn : n > 127
  · rw [varL_long hn] at h
    have h1 := congrArg List.length h
    have h2 := (varL_len n (n / 128) (by
      have : n < 128 ^ n := Nat.lt_pow_self (by decide)
      rw [Nat.pow_succ]; omega)).2
    simp only [List.length_cons, List.length_nil] at h1
    omega
  · rw [varL_short hn] at h
    injection h with h1
    omega
theorem canon2 : ∀ (n : Nat) (l : List Int), varL n = l ++ [0] → l = [] := by
  intro n
  induction n using Nat.strongRecOn with
  | _ n ih =>
    intro l h
    by_cases hn : n > 127
    · rw [varL_long hn] at h
      cases l with
      | nil => rfl
      | cons c l =>
        injection h with h1 h2
        have := ih (n / 128) (by omega) l h2
        subst this
        have := varL_zero h2
        omega
    · rw [varL_short hn] at h
      cases l with
      | nil => rfl
      | cons c l =>
        injection h with h1 h2
        have := congrArg List.length h2
        simp at this
/-- A number read from bytes: the number, and how many bytes. -/
def rvL : List Nat → Nat → Nat → Nat → Option (Nat × Nat)
  | _, 0, _, _ => none
  | [], _ + 1, _, _ => none
  | x :: r, d + 1, k, n => if x ≥ 128 then rvL r d (k + 1) (n + x % 128 * 128 ^ k) else if (x = 0 ∧ k > 0) ∨ n + x % 128 * 128 ^ k > 1000000000 then none else some (n + x % 128 * 128 ^ k, k + 1)
def rvRes (a : Int) : Option (Nat × Nat) → Int × Int × Bool
  | none => (0, 0, false)
  | some z => ((z.1 : Int), a + (z.2 : Int), true)
def rvB (t : ByteArray) (a : Int) : Int × Int × Bool := if 0 ≤ a ∧ a ≤ (t.size : Int) then rvRes a (rvL ((byt t).drop a.toNat) 5 0 0) else (0, 0, false)
theorem drop_byt {t : ByteArray} {i : Nat} (h : i < t.size) : (byt t).drop i = (byt t).getD i 0 :: (byt t).drop (i + 1) := by
  rw [List.drop_eq_getElem_cons (by rw [byt_len]; exact h), List.getD_eq_getElem?_getD, List.getElem?_eq_getElem (by rw [byt_len]; exact h)]; rfl
theorem shl7 {x k : Nat} (hx : x < 128) (hk : k < 5) : shl .i64 (x : Int) (wrap64 (7 * (k : Int))) = ((x * 128 ^ k : Nat) : Int) := by
  have e : wrap64 (7 * (k : Int)) = 7 * (k : Int) := w64 (by omega) (by omega)
  rw [e]
  have h := shl_small (k := .i64) (x := (x : Int)) (y := 7 * (k : Int)) rfl (by show (7 * (k : Int)) ≤ ((IntKind.bits .i64 : Nat) : Int); rw [show IntKind.bits .i64 = 64 from rfl]; omega)
  rw [← h, show (7 * (k : Int)).toNat = 7 * k by omega]
  have p : (128 : Nat) ^ k = 2 ^ (7 * k) := by rw [Nat.pow_mul]
  have q : (128 : Nat) ^ k ≤ 128 ^ 4 := Nat.pow_le_pow_right (by decide) (by omega)
  have e2 : (x : Int) * 2 ^ (7 * k) = ((x * 128 ^ k : Nat) : Int) := by rw [p]; push_cast; rfl
  rw [e2, Go.IntKind.wrap_i64]
  have : x * 128 ^ k ≤ 127 * 128 ^ 4 := Nat.mul_le_mul (by omega) q
  omega
theorem tmod128 (x : Nat) : Int.tmod (wrap64 ((x : Nat) : Int)) 128 = (((if x < 9223372036854775808 then x % 128 else 0 : Nat)) : Int) ∨ 9223372036854775808 ≤ x := by
  by_cases h : x < 9223372036854775808
  · left; rw [if_pos h, w64 (by omega) (by omega), Int.tmod_eq_emod_of_nonneg (by omega)]; omega
  · right; omega
theorem tmod128' {x : Nat} (h : x < 256) : Int.tmod (wrap64 ((x : Nat) : Int)) 128 = ((x % 128 : Nat) : Int) := by
  rw [w64 (by omega) (by omega), Int.tmod_eq_emod_of_nonneg (by omega)]; omega
theorem pow5 {k : Nat} (h : k ≤ 5) : (128 : Nat) ^ k ≤ 34359738368 := Nat.le_trans (Nat.pow_le_pow_right (by decide) h) (by decide)
theorem step_lt {n x k : Nat} (hn : n < 128 ^ k) : n + x % 128 * 128 ^ k < 128 ^ (k + 1) := by
  rw [Nat.pow_succ]
  have : x % 128 * 128 ^ k ≤ 127 * 128 ^ k := Nat.mul_le_mul_right _ (by omega)
  omega
theorem rvL_zero (l : List Nat) (k n : Nat) : rvL l 0 k n = none := by cases l <;> rfl
theorem rvL_nil (d k n : Nat) : rvL [] d k n = none := by cases d <;> rfl
theorem rvL_cons (x : Nat) (r : List Nat) (d k n : Nat) : rvL (x :: r) (d + 1) k n = if x ≥ 128 then rvL r d (k + 1) (n + x % 128 * 128 ^ k) else if (x = 0 ∧ k > 0) ∨ n + x % 128 * 128 ^ k > 1000000000 then none else some (n + x % 128 * 128 ^ k, k + 1) := by rw [rvL]
theorem res_some {a : Int} {M k : Nat} {b : Int} (h : b = a + ((k + 1 : Nat) : Int)) : some ((M : Int), b, true) = some (rvRes a (some (M, k + 1))) := by subst h; rfl
theorem iRV_step (K : Nat) (t : ByteArray) (a k n x M : Nat) (hs : t.size ≤ 1099511627776) (hk : k < 5) (hlt : a + k < t.size) (hx : x < 256) (eb : bt t ((a + k : Nat) : Int) = (x : Int)) (hM : n + x % 128 * 128 ^ k = M) (hM2 : M ≤ 34359738368) :
    impl_ReadVar.j1 (K + 1) t (a : Int) (n : Int) (k : Int) true = if x ≥ 128 then impl_ReadVar.l0 K t (a : Int) (M : Int) ((k + 1 : Nat) : Int) else some (rvRes (a : Int) (if (x = 0 ∧ k > 0) ∨ M > 1000000000 then none else some (M, k + 1))) := by
  have en : wrap64 ((n : Int) + shl .i64 (Int.tmod (wrap64 ((x : Nat) : Int)) 128) (wrap64 (7 * (k : Int)))) = (M : Int) := by
    rw [tmod128' hx, shl7 (by omega) hk, w64 (by omega) (by omega)]; omega
  have ea : wrap64 ((a : Int) + (k : Int)) = ((a + k : Nat) : Int) := by rw [w64 (by omega) (by omega)]; omega
  have wx : wrap64 ((x : Nat) : Int) = (x : Int) := w64 (by omega) (by omega)
  have e7 : (0 : Int) ≤ wrap64 (7 * (k : Int)) := by rw [w64 (by omega) (by omega)]; omega
  clear hM
  rw [wx] at en
  simp only [impl_ReadVar.j1, ea, eb, en, wx, if_true, if_pos (show (0 : Int) ≤ ((a + k : Nat) : Int) by omega), if_pos (show ((a + k : Nat) : Int) < (t.size : Int) by omega), if_pos e7, wsucc (n := 5) hk (by omega), wsucc (n := t.size) hlt (by omega)]
  by_cases h1 : x ≥ 128
  · rw [if_pos (by omega), if_pos h1]
  · rw [if_neg (by omega), if_neg h1]
    by_cases h4 : M > 1000000000
    · rw [if_pos (show (x = 0 ∧ k > 0) ∨ M > 1000000000 from .inr h4)]
      by_cases h2 : (x : Int) = 0
      · rw [if_pos h2]
        by_cases h3 : (k : Int) > 0
        · rw [if_pos h3]; rfl
        · rw [if_neg h3, if_pos (by omega)]; rfl
      · rw [if_neg h2, if_pos (by omega)]; rfl
    · by_cases h2 : (x : Int) = 0
      · rw [if_pos h2]
        by_cases h3 : (k : Int) > 0
        · rw [if_pos h3, if_pos (show (x = 0 ∧ k > 0) ∨ M > 1000000000 from .inl ⟨by omega, by omega⟩)]; rfl
        · rw [if_neg h3, if_neg (by omega), if_neg (by omega)]
          exact res_some (by omega)
      · rw [if_neg h2, if_neg (by omega), if_neg (by omega)]
        exact res_some (by omega)
theorem iReadVar_ev (t : ByteArray) (a : Int) (hs : t.size ≤ 1099511627776) (ha : a ≤ (t.size : Int)) : Ev (fun k => impl_ReadVar.f k t a) (rvB t a) := by
  unfold impl_ReadVar.f rvB
  by_cases h0 : 0 ≤ a
  · rw [if_pos ⟨h0, ha⟩]
    obtain ⟨a, rfl⟩ : ∃ m : Nat, a = (m : Int) := ⟨a.toNat, by omega⟩
    rw [Int.toNat_natCast]
    have main : ∀ (d k n : Nat), k + d = 5 → n < 128 ^ k → Ev (fun K => impl_ReadVar.l0 K t (a : Int) (n : Int) (k : Int)) (rvRes (a : Int) (rvL ((byt t).drop (a + k)) d k n)) := by
      intro d
      induction d with
      | zero =>
        intro k n hk hn
        rw [rvL_zero]
        refine Ev.step (f := fun K => impl_ReadVar.j1 K t (a : Int) (n : Int) (k : Int) false) (fun K => by simp only [impl_ReadVar.l0]; rw [if_neg (by omega)]) (ev_some fun K => ?_)
        simp only [impl_ReadVar.j1]
        rfl
      | succ d ih =>
        intro k n hk hn
        refine Ev.step (f := fun K => impl_ReadVar.j1 K t (a : Int) (n : Int) (k : Int) (decide ((a + k : Nat) < t.size))) (fun K => ?_) ?_
        · simp only [impl_ReadVar.l0]
          rw [if_pos (by omega), if_pos (by omega), w64 (x := (t.size : Int) - k) (by omega) (by omega)]
          congr 1
          exact decide_eq_decide.2 (by omega)
        · by_cases hlt : a + k < t.size
          · rw [decide_eq_true hlt, drop_byt hlt, rvL_cons]
            have hx := byt_get_lt t (a + k)
            have eb := bt_byt t (a + k)
            generalize (byt t).getD (a + k) 0 = x at hx eb ⊢
            have sl := step_lt (x := x) hn
            have p6 := pow5 (show k + 1 ≤ 5 by omega)
            have st := fun K => iRV_step K t a k n x _ hs (by omega) hlt hx eb rfl (by omega)
            by_cases h1 : x ≥ 128
            · rw [if_pos h1]
              exact Ev.step (fun K => by rw [st K, if_pos h1]) (ih (k + 1) _ (by omega) sl)
            · rw [if_neg h1]
              exact ev_some fun K => by rw [st K, if_neg h1]
          · rw [decide_eq_false hlt, List.drop_eq_nil_of_le (by rw [byt_len]; omega), rvL_nil]
            refine ev_some fun K => ?_
            simp only [impl_ReadVar.j1]
            rfl
    exact main 5 0 0 rfl (by decide)
  · rw [if_neg (fun h => h0 h.1)]
    refine Ev.step (f := fun K => impl_ReadVar.j1 K t a 0 0 false) (fun K => by simp only [impl_ReadVar.l0]; rw [if_pos (by omega), if_neg (by omega)]) (ev_some fun K => ?_)
    simp only [impl_ReadVar.j1]
    rfl
theorem natcast_map {V : List Int} (h : ∀ y ∈ V, 0 ≤ y) : (V.map Int.toNat).map (fun b : Nat => (b : Int)) = V := by
  induction V with
  | nil => rfl
  | cons y V ih =>
    have := h y List.mem_cons_self
    show ((y.toNat : Nat) : Int) :: (V.map Int.toNat).map (fun b : Nat => (b : Int)) = y :: V
    rw [ih fun z hz => h z (List.mem_cons_of_mem _ hz), show ((y.toNat : Nat) : Int) = y by omega]
theorem toNat_map : ∀ l : List Nat, (l.map fun b : Nat => (b : Int)).map Int.toNat = l
  | [] => rfl
  | y :: l => by
    show ((y : Nat) : Int).toNat :: (l.map fun b : Nat => (b : Int)).map Int.toNat = y :: l
    rw [toNat_map l, Int.toNat_natCast]
/-- What the reference holds a number's bytes against. -/
theorem sRV_key {t : ByteArray} {a k x : Nat} {pre : List Nat} (hl : pre.length = k) (es : (byt t).drop a = (pre ++ [x]) ++ (byt t).drop (a + (k + 1))) (hb : ∀ b ∈ pre, 128 ≤ b ∧ b < 256) (hx : x < 128) :
    (strOfNums (varL (valB (pre ++ [x])))).toList = (t.extract a (a + k + 1)).toList ↔ (pre = [] ∨ x ≠ 0) := by
  have seg : byt (t.extract a (a + k + 1)) = pre ++ [x] := by
    rw [byt_sub, es, show a + k + 1 - a = (pre ++ [x]).length by simp; omega, List.take_left]
  have vb := varL_byte (valB (pre ++ [x]))
  rw [toList_iff, seg, byt_str _ vb]
  constructor
  · intro h
    by_cases h0 : x = 0
    · left
      subst h0
      have e2 := congrArg (List.map fun b : Nat => (b : Int)) h
      rw [natcast_map fun y hy => (vb y hy).1] at e2
      rw [List.map_append] at e2
      exact List.map_eq_nil_iff.1 (canon2 _ _ e2)
    · exact .inr h0
  · intro h
    rw [canon1 pre hb hx h, toNat_map]
theorem sRV_step (K : Nat) (t : ByteArray) (a k n x M P : Nat) (hs : t.size ≤ 1099511627776) (hk : k < 5) (hlt : a + k < t.size) (hx : x < 256) (eb : bt t ((a + k : Nat) : Int) = (x : Int)) (hP : 128 ^ k = P) (hM : n + x % 128 * P = M) (hM2 : M ≤ 34359738368) (hP2 : P ≤ 268435456) :
    spec_ReadVar.j1 (K + 1) t (a : Int) (n : Int) (P : Int) ((a + k : Nat) : Int) true = if x ≥ 128 then spec_ReadVar.l0 K t (a : Int) (M : Int) ((P * 128 : Nat) : Int) ((a + (k + 1) : Nat) : Int) else if M > 1000000000 then some (0, 0, false) else (spec_l01Var.f K (M : Int)).bind fun t116 => if t116.toList = (t.extract a (a + k + 1)).toList then some ((M : Int), ((a + k + 1 : Nat) : Int), true) else some (0, 0, false) := by
  have en : wrap64 ((n : Int) + wrap64 (Int.tmod (wrap64 ((x : Nat) : Int)) 128 * (P : Int))) = (M : Int) := by
    rw [tmod128' hx, ← Int.natCast_mul, w64 (x := ((x % 128 * P : Nat) : Int)) (by omega) (by omega), w64 (by omega) (by omega)]; omega
  have ep : wrap64 ((P : Int) * 128) = ((P * 128 : Nat) : Int) := by rw [w64 (by omega) (by omega)]; omega
  clear hM hP
  simp only [spec_ReadVar.j1, eb, en, ep, if_true, if_pos (show (0 : Int) ≤ ((a + k : Nat) : Int) by omega), if_pos (show ((a + k : Nat) : Int) < (t.size : Int) by omega), wsucc (n := t.size) hlt (by omega), Int.toNat_natCast, if_pos (show (0 : Int) ≤ (a : Int) by omega), if_pos (show (a : Int) ≤ ((a + k + 1 : Nat) : Int) by omega), if_pos (show ((a + k + 1 : Nat) : Int) ≤ (t.size : Int) by omega)]
  by_cases h1 : x ≥ 128
  · rw [if_neg (by omega), if_pos h1]; rfl
  · rw [if_pos (by omega), if_neg h1]
    by_cases h4 : M > 1000000000
    · rw [if_pos (by omega), if_pos h4]
    · rw [if_neg (by omega), if_neg h4]
theorem sReadVar_ev (t : ByteArray) (a : Int) (hs : t.size ≤ 1099511627776) : Ev (fun k => spec_ReadVar.f k t a) (rvB t a) := by
  unfold spec_ReadVar.f rvB
  have hin : spec_l01In.f a 0 (t.size : Int) = some (decide (0 ≤ a ∧ a ≤ (t.size : Int))) := by
    unfold spec_l01In.f
    by_cases h1 : a ≥ 0
    · rw [if_pos h1]; congr 1; simp; omega
    · rw [if_neg h1]; congr 1; simp; omega
  simp only [hin, Option.bind_some, decide_eq_true_eq]
  by_cases h0 : 0 ≤ a ∧ a ≤ (t.size : Int)
  · simp only [if_pos h0]
    obtain ⟨a, rfl⟩ : ∃ m : Nat, a = (m : Int) := ⟨a.toNat, by omega⟩
    rw [Int.toNat_natCast]
    have main : ∀ (d k : Nat) (pre : List Nat), k + d = 5 → pre.length = k → (byt t).drop a = pre ++ (byt t).drop (a + k) → (∀ b ∈ pre, 128 ≤ b ∧ b < 256) → Ev (fun K => spec_ReadVar.l0 K t (a : Int) (valB pre : Int) ((128 ^ k : Nat) : Int) ((a + k : Nat) : Int)) (rvRes (a : Int) (rvL ((byt t).drop (a + k)) d k (valB pre))) := by
      intro d
      induction d with
      | zero =>
        intro k pre hk hl hp hb
        rw [rvL_zero]
        refine Ev.step (f := fun K => spec_ReadVar.j1 K t (a : Int) (valB pre : Int) ((128 ^ k : Nat) : Int) ((a + k : Nat) : Int) false) (fun K => ?_) (ev_some fun K => ?_)
        · simp only [spec_ReadVar.l0]
          by_cases h : ((a + k : Nat) : Int) < (t.size : Int)
          · rw [if_pos h, w64 (x := (a : Int) + 5) (by omega) (by omega), decide_eq_false (by omega)]
          · rw [if_neg h]
        · simp only [spec_ReadVar.j1]
          rfl
      | succ d ih =>
        intro k pre hk hl hp hb
        have hn : valB pre < 128 ^ k := hl ▸ val_lt pre
        refine Ev.step (f := fun K => spec_ReadVar.j1 K t (a : Int) (valB pre : Int) ((128 ^ k : Nat) : Int) ((a + k : Nat) : Int) (decide ((a + k : Nat) < t.size))) (fun K => ?_) ?_
        · simp only [spec_ReadVar.l0]
          by_cases h : ((a + k : Nat) : Int) < (t.size : Int)
          · rw [if_pos h, w64 (x := (a : Int) + 5) (by omega) (by omega), decide_eq_true (show ((a + k : Nat) : Int) < (a : Int) + 5 by omega), decide_eq_true (show a + k < t.size by omega)]
          · rw [if_neg h, decide_eq_false (show ¬ a + k < t.size by omega)]
        · by_cases hlt : a + k < t.size
          · rw [decide_eq_true hlt, drop_byt hlt, rvL_cons]
            have hx := byt_get_lt t (a + k)
            have hd := drop_byt hlt
            have eb := bt_byt t (a + k)
            generalize (byt t).getD (a + k) 0 = x at hx eb hd ⊢
            have sl := step_lt (x := x) hn
            have p6 := pow5 (show k + 1 ≤ 5 by omega)
            have q4 : (128 : Nat) ^ k ≤ 268435456 := Nat.le_trans (Nat.pow_le_pow_right (by decide) (show k ≤ 4 by omega)) (by decide)
            have vs : valB (pre ++ [x]) = valB pre + x % 128 * 128 ^ k := by rw [val_snoc, hl]
            have es : (byt t).drop a = (pre ++ [x]) ++ (byt t).drop (a + (k + 1)) := by rw [hp, hd]; simp [Nat.add_assoc]
            rw [← vs] at sl ⊢
            have st := fun K => sRV_step K t a k (valB pre) x (valB (pre ++ [x])) _ hs (by omega) hlt hx eb rfl vs.symm (by omega) q4
            by_cases h1 : x ≥ 128
            · rw [if_pos h1]
              exact Ev.step (fun K => by rw [st K, if_pos h1, ← Nat.pow_succ]) (ih (k + 1) (pre ++ [x]) (by omega) (by simp; omega) es (fun b hb' => by
                rcases List.mem_append.1 hb' with hb' | hb'
                · exact hb b hb'
                · obtain rfl := List.mem_singleton.1 hb'; exact ⟨h1, hx⟩))
            · rw [if_neg h1]
              have key := sRV_key hl es hb (by omega)
              have hv := fun h => l01Var_ev (n := (valB (pre ++ [x]) : Int)) (by omega) h
              rw [Int.toNat_natCast] at hv
              clear vs
              generalize valB (pre ++ [x]) = M at st key hv sl ⊢
              by_cases h4 : M > 1000000000
              · rw [if_pos (.inr h4)]
                exact ev_some fun K => by rw [st K, if_neg h1, if_pos h4]; rfl
              · refine Ev.step (fun K => by rw [st K, if_neg h1, if_neg h4]) (ev_bind (hv (by omega)) ?_)
                by_cases h2 : pre = [] ∨ x ≠ 0
                · rw [if_pos (key.2 h2), if_neg (fun h => by
                    rcases h with ⟨h5, h6⟩ | h
                    · rcases h2 with h2 | h2
                      · rw [h2] at hl; simp at hl; omega
                      · exact h2 h5
                    · exact h4 h)]
                  exact ev_const (res_some (by omega))
                · rw [if_neg (fun h => h2 (key.1 h)), if_pos (.inl ⟨by
                    by_cases h5 : x = 0
                    · exact h5
                    · exact absurd (.inr h5) h2, by
                    cases pre with
                    | nil => exact absurd (.inl rfl) h2
                    | cons b r => simp at hl; omega⟩)]
                  exact Ev.now _
          · rw [decide_eq_false hlt, List.drop_eq_nil_of_le (by rw [byt_len]; omega), rvL_nil]
            refine ev_some fun K => ?_
            simp only [spec_ReadVar.j1]
            rfl
    exact main 5 0 [] rfl rfl rfl (fun b hb => by cases hb)
  · simp only [if_neg h0]
    exact Ev.now _
end Go.Proofs.Ytbbfkodckpfjcaa.Pu

/- The sum of a text, a text with its sum and without: both packages tell the same. -/
namespace Go.Proofs.Ytbbfkodckpfjcaa.M2.Mp
set_option linter.unusedVariables false
set_option linter.unusedSimpArgs false
open Go.RowKit Go.Proofs.Ytbbfkodckpfjcaa.PK Go.Proofs.YtbbfkodckpfjcaaW.PrintWords Go.Proofs.Ytbbfkodckpfjcaa.Pu

theorem m64 {i : Nat} {n : Nat} (h : i < n) (hn : n ≤ 9223372036854775807) : M2.w64 ((i : Int) + 1) = ((i + 1 : Nat) : Int) := by
  rw [w64_eq]; exact wsucc h hn
theorem x64 {x : Int} (h1 : -9223372036854775808 ≤ x) (h2 : x ≤ 9223372036854775807) : M2.w64 x = x := by
  rw [w64_eq]; exact Pu.w64 h1 h2
theorem ev_pos {α : Type} {c : Prop} [Decidable c] {g f : Nat → Option α} {r : α} (h : c) (h1 : Ev g r) : Ev (fun n => if c then g n else f n) r := by
  simp only [if_pos h]; exact h1
theorem ev_neg {α : Type} {c : Prop} [Decidable c] {g f : Nat → Option α} {r : α} (h : ¬ c) (h1 : Ev f r) : Ev (fun n => if c then g n else f n) r := by
  simp only [if_neg h]; exact h1
theorem seq_iff (a b : ByteArray) : M2.seq a b = true ↔ a = b := by
  unfold M2.seq
  rw [beq_iff_eq, toList_iff]
  exact ⟨byt_inj, fun h => by rw [h]⟩
theorem seq_dec (a b : ByteArray) : M2.seq a b = decide (a = b) := by
  rw [Bool.eq_iff_iff, seq_iff, decide_eq_true_iff]
def rng (x : Int) : Prop := 0 ≤ x ∧ x < 4294967296
theorem xor_rng (a b : Int) : rng (Go.bits .xor .u32 a b) := by
  unfold Go.bits rng
  rw [IntKind.wrap_u32]
  omega
theorem wraps_u32 (n : Int) (h₀ : 0 ≤ n) (h₁ : n < 2 ^ 32) : IntKind.u32.wrap n = n := by rw [IntKind.wrap_u32]; omega
theorem and_one {x : Int} (h : rng x) : Go.bits .and .u32 x 1 = x % 2 := bits_mask .u32 32 (by decide) wraps_u32 1 (by decide) x h.1 h.2
theorem half_s {x : Int} (h : rng x) : Go.IntKind.wrap .u32 (Int.tdiv x 2) = x / 2 := by
  rw [IntKind.wrap_u32, Int.tdiv_eq_ediv_of_nonneg h.1]
  have := h.2
  have := h.1
  omega
theorem half_i (x : Int) : Int.fdiv x 2 = x / 2 := Int.fdiv_eq_ediv_of_nonneg _ (by decide)
theorem half_rng {x : Int} (h : rng x) : rng (x / 2) := by
  have := h.2
  have := h.1
  exact ⟨by omega, by omega⟩
noncomputable def c8 : Nat → Int → Int
  | 0, x => x
  | n + 1, x => c8 n (if x % 2 = 1 then Go.bits .xor .u32 (x / 2) 3558460437 else x / 2)
theorem c8_rng : ∀ (n : Nat) {x : Int}, rng x → rng (c8 n x)
  | 0, x, h => h
  | n + 1, x, h => by
    rw [c8]
    refine c8_rng n ?_
    split
    · exact xor_rng _ _
    · exact half_rng h
noncomputable def crc (t : ByteArray) : Nat → Nat → Int → Int
  | _, 0, x => x
  | i, d + 1, x => crc t (i + 1) d (c8 8 (Go.bits .xor .u32 x (Go.IntKind.wrap .u32 (bt t (i : Int)))))
theorem sSum6 (t : ByteArray) (i : Nat) (hi : i < t.size) (hs : t.size ≤ 9223372036854775807) : ∀ (d j : Nat) (x r : Int), j + d = 8 → rng x → Ev (fun k => spec_SumMore.c2 k (c8 d x) t ((i + 1 : Nat) : Int)) r → Ev (fun k => spec_SumMore.c6 k x t (i : Int) (j : Int)) r
  | 0, j, x, r, hj, hx, h => by
    refine Ev.step (fun k => ?_) h
    rw [spec_SumMore.c6, if_neg (by omega), m64 hi hs]; rfl
  | d + 1, j, x, r, hj, hx, h => by
    have hx0 := hx.1
    have e : Int.tmod x 2 = x % 2 := Int.tmod_eq_emod_of_nonneg hx0
    by_cases h1 : x % 2 = 1
    · rw [c8, if_pos h1] at h
      refine Ev.step (fun k => ?_) (sSum6 t i hi hs d (j + 1) _ r (by omega) (xor_rng _ _) h)
      rw [spec_SumMore.c6, if_pos (by omega), if_pos (by rw [e]; exact h1), half_s hx, m64 (n := 9) (by omega) (by omega)]
    · rw [c8, if_neg h1] at h
      refine Ev.step (fun k => ?_) (sSum6 t i hi hs d (j + 1) _ r (by omega) (half_rng hx) h)
      rw [spec_SumMore.c6, if_pos (by omega), if_neg (by rw [e]; exact h1), half_s hx, m64 (n := 9) (by omega) (by omega)]
theorem sSum2 (t : ByteArray) (hs : t.size ≤ 9223372036854775807) : ∀ (d i : Nat) (x : Int), i + d = t.size → Ev (fun k => spec_SumMore.c2 k x t (i : Int)) (crc t i d x)
  | 0, i, x, hi => by
    refine Ev.step (f := fun _ => some x) (fun k => ?_) (Ev.now _)
    rw [spec_SumMore.c2, if_neg (by omega)]
  | d + 1, i, x, hi => by
    refine Ev.step (fun k => ?_) (sSum6 t i (by omega) hs 8 0 _ _ rfl (xor_rng _ _) (sSum2 t hs d (i + 1) _ (by omega)))
    rw [spec_SumMore.c2, if_pos (by omega), if_pos (by omega), if_pos (by omega)]; rfl
theorem iSum6 (t : ByteArray) (i : Nat) (hi : i < t.size) (hs : t.size ≤ 9223372036854775807) : ∀ (d j : Nat) (x r : Int), j + d = 8 → rng x → Ev (fun k => impl_SumMore.c2 k (c8 d x) t ((i + 1 : Nat) : Int)) r → Ev (fun k => impl_SumMore.c6 k x t (i : Int) (j : Int)) r
  | 0, j, x, r, hj, hx, h => by
    refine Ev.step (fun k => ?_) h
    rw [impl_SumMore.c6, if_neg (by omega), m64 hi hs]; rfl
  | d + 1, j, x, r, hj, hx, h => by
    by_cases h1 : x % 2 = 1
    · rw [c8, if_pos h1] at h
      refine Ev.step (fun k => ?_) (iSum6 t i hi hs d (j + 1) _ r (by omega) (xor_rng _ _) h)
      rw [impl_SumMore.c6, if_pos (by omega), if_pos (by rw [and_one hx]; exact h1), half_i, m64 (n := 9) (by omega) (by omega)]
    · rw [c8, if_neg h1] at h
      refine Ev.step (fun k => ?_) (iSum6 t i hi hs d (j + 1) _ r (by omega) (half_rng hx) h)
      rw [impl_SumMore.c6, if_pos (by omega), if_neg (by rw [and_one hx]; exact h1), half_i, m64 (n := 9) (by omega) (by omega)]
theorem iSum2 (t : ByteArray) (hs : t.size ≤ 9223372036854775807) : ∀ (d i : Nat) (x : Int), i + d = t.size → Ev (fun k => impl_SumMore.c2 k x t (i : Int)) (crc t i d x)
  | 0, i, x, hi => by
    refine Ev.step (f := fun _ => some x) (fun k => ?_) (Ev.now _)
    rw [impl_SumMore.c2, if_neg (by omega)]
  | d + 1, i, x, hi => by
    refine Ev.step (fun k => ?_) (iSum6 t i (by omega) hs 8 0 _ _ rfl (xor_rng _ _) (iSum2 t hs d (i + 1) _ (by omega)))
    rw [impl_SumMore.c2, if_pos (by omega), if_pos (by omega), if_pos (by omega)]; rfl
noncomputable def sumT (t : ByteArray) : Int := crc t 0 t.size 4294967295
theorem sSumOf (t : ByteArray) (hs : t.size ≤ 9223372036854775807) : Ev (fun k => spec_SumOf.f k t) (sumT t) := by
  simp only [spec_SumOf.f, spec_SumMore.f]
  exact Ev.bind (sSum2 t hs t.size 0 _ (by omega)) (Ev.now _)
theorem iSumOf (t : ByteArray) (hs : t.size ≤ 9223372036854775807) : Ev (fun k => impl_SumOf.f k t) (sumT t) := by
  simp only [impl_SumOf.f, impl_SumMore.f]
  exact Ev.bind (iSum2 t hs t.size 0 _ (by omega)) (Ev.now _)
noncomputable def four (v : Int) : ByteArray := strOfNums [Go.IntKind.wrap .u8 (Int.fdiv v 16777216), Go.IntKind.wrap .u8 (Int.fdiv v 65536), Go.IntKind.wrap .u8 (Int.fdiv v 256), Go.IntKind.wrap .u8 v]
theorem four_size (v : Int) : (four v).size = 4 := strOf_size _
noncomputable def sealT (t : ByteArray) : ByteArray := t ++ four (sumT t)
theorem sealT_size (t : ByteArray) : (sealT t).size = t.size + 4 := by
  unfold sealT; rw [ByteArray.size_append, four_size]
noncomputable def sealed (t : ByteArray) : ByteArray × Bool := if t.size ≤ 20000 then (sealT t, true) else (⟨#[]⟩, false)
theorem sSealed (t : ByteArray) (hs : t.size ≤ 9223372036854775807) : Ev (fun k => spec_Sealed.f k t) (sealed t) := by
  simp only [spec_Sealed.f]
  by_cases h : t.size ≤ 20000
  · simp only [if_neg (show ¬ (t.size : Int) > 20000 by omega), sealed, if_pos h]
    refine Ev.bind (sSumOf t hs) (Ev.bind (Ev.now (four (sumT t))) ?_)
    rw [if_pos (by rw [four_size]; omega)]
    exact Ev.now _
  · simp only [if_pos (show (t.size : Int) > 20000 by omega), sealed, if_neg h]
    exact Ev.now _
theorem iSealed (t : ByteArray) (hs : t.size ≤ 9223372036854775807) : Ev (fun k => impl_Sealed.f k t) (sealed t) := by
  simp only [impl_Sealed.f]
  by_cases h : t.size ≤ 20000
  · simp only [if_neg (show ¬ (t.size : Int) > 20000 by omega), sealed, if_pos h]
    refine Ev.bind (iSumOf t hs) ?_
    rw [if_pos (by rw [show (strOfNums _).size = 4 from strOf_size _]; omega)]
    exact Ev.now _
  · simp only [if_pos (show (t.size : Int) > 20000 by omega), sealed, if_neg h]
    exact Ev.now _
theorem split_at (t : ByteArray) {n : Nat} (h : n ≤ t.size) : t = t.extract 0 n ++ t.extract n t.size := by
  refine byt_inj ?_
  rw [byt_app, byt_sub, byt_sub, Nat.sub_zero, List.drop_zero]
  have : (byt t).length = t.size := byt_len t
  conv => lhs; rw [← List.take_append_drop n (byt t)]
  rw [List.take_of_length_le (l := (byt t).drop n) (by rw [List.length_drop]; omega)]
theorem app_cancel {a b c : ByteArray} (h : a ++ b = a ++ c) : b = c := by
  refine byt_inj ?_
  have := congrArg byt h
  rw [byt_app, byt_app] at this
  exact List.append_cancel_left this
open Classical in
noncomputable def unsealed (t : ByteArray) : ByteArray × Bool := if 4 ≤ t.size ∧ t.size - 4 ≤ 20000 ∧ sealT (t.extract 0 (t.size - 4)) = t then (t.extract 0 (t.size - 4), true) else (⟨#[]⟩, false)
theorem ext_size (t : ByteArray) {n : Nat} (h : n ≤ t.size) : (t.extract 0 n).size = n := by
  rw [ByteArray.size_extract]; omega
theorem sUnsealed (t : ByteArray) (hs : t.size ≤ 9223372036854775807) : Ev (fun k => spec_Unsealed.f k t) (unsealed t) := by
  simp only [spec_Unsealed.f]
  by_cases h4 : 4 ≤ t.size
  · obtain ⟨n, hn⟩ : ∃ n, t.size = n + 4 := ⟨t.size - 4, by omega⟩
    have e : M2.w64 ((t.size : Int) - 4) = (n : Int) := by rw [x64 (by omega) (by omega)]; omega
    have en : t.size - 4 = n := by omega
    simp only [e, if_neg (show ¬ (n : Int) < 0 by omega), if_pos (show 0 ≤ (n : Int) by omega), if_pos (show (n : Int) ≤ (t.size : Int) by omega), Int.toNat_natCast]
    by_cases hb : n ≤ 20000
    · simp only [if_neg (show ¬ (n : Int) > 20000 by omega)]
      refine Ev.bind (sSumOf _ (by rw [ext_size t (by omega)]; omega)) (Ev.bind (Ev.now (four (sumT (t.extract 0 n)))) ?_)
      have hsp := split_at t (n := n) (by omega)
      by_cases hq : sealT (t.extract 0 n) = t
      · have hx : t.extract n t.size = four (sumT (t.extract 0 n)) := by
          refine (app_cancel (a := t.extract 0 n) ?_).symm
          exact hq.trans hsp
        rw [if_pos (by rw [seq_iff]; exact hx), unsealed, if_pos ⟨h4, by omega, by rw [en]; exact hq⟩, en]
        exact Ev.now _
      · have hx : ¬ t.extract n t.size = four (sumT (t.extract 0 n)) := fun hx => hq (by
          unfold sealT
          rw [← hx]; exact hsp.symm)
        rw [if_neg (by rw [seq_iff]; exact hx), unsealed, if_neg (by rw [en]; exact fun h => hq h.2.2)]
        exact Ev.now _
    · simp only [if_pos (show (n : Int) > 20000 by omega)]
      rw [unsealed, if_neg (fun h => absurd h.2.1 (by omega))]
      exact Ev.now _
  · simp only [if_pos (show M2.w64 ((t.size : Int) - 4) < 0 by rw [x64 (by omega) (by omega)]; omega)]
    rw [unsealed, if_neg (fun h => absurd h.1 (by omega))]
    exact Ev.now _
theorem iUnsealed (t : ByteArray) (hs : t.size ≤ 9223372036854775807) : Ev (fun k => impl_Unsealed.f k t) (unsealed t) := by
  simp only [impl_Unsealed.f]
  by_cases h4 : 4 ≤ t.size
  · obtain ⟨n, hn⟩ : ∃ n, t.size = n + 4 := ⟨t.size - 4, by omega⟩
    have e : M2.w64 ((t.size : Int) - 4) = (n : Int) := by rw [x64 (by omega) (by omega)]; omega
    have en : t.size - 4 = n := by omega
    simp only [e, if_neg (show ¬ (t.size : Int) < 4 by omega), if_pos (show 0 ≤ (n : Int) by omega), if_pos (show (n : Int) ≤ (t.size : Int) by omega), Int.toNat_natCast]
    refine Ev.bind (iSealed _ (by rw [ext_size t (by omega)]; omega)) ?_
    rw [sealed, ext_size t (by omega)]
    by_cases hb : n ≤ 20000
    · rw [if_pos hb]
      by_cases hq : sealT (t.extract 0 n) = t
      · rw [if_pos rfl, if_pos (by rw [seq_iff]; exact hq), unsealed, if_pos ⟨h4, by omega, by rw [en]; exact hq⟩, en]
        exact Ev.now _
      · rw [if_pos rfl, if_neg (by rw [seq_iff]; exact hq), unsealed, if_neg (by rw [en]; exact fun h => hq h.2.2)]
        exact Ev.now _
    · rw [if_neg hb]
      simp only [Bool.false_eq_true, if_false]
      rw [unsealed, if_neg (fun h => absurd h.2.1 (by omega))]
      exact Ev.now _
  · simp only [if_pos (show (t.size : Int) < 4 by omega)]
    rw [unsealed, if_neg (fun h => absurd h.1 (by omega))]
    exact Ev.now _
end Go.Proofs.Ytbbfkodckpfjcaa.M2.Mp
