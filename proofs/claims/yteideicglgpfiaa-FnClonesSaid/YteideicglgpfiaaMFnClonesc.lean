/- FnClones: functions of the translation as Lean functions with what their calls come to, plain lemmas on them, and, at the end, the row. Parts of one proof, merged by a program of this session; each part's own sentence stands at its head. -/
import Derived.Test.YteideicglgpfiaaMFnClonesb
/- Plain runs of functions: each is a plain Lean function, and keeps its contract. Written by a program of this session. -/
namespace Go.Proofs.Yteideicglgpfiaa.M2
open Go Go.Proofs.Yteideicglgpfiaa.PK
set_option linter.unusedVariables false
set_option linter.unusedSimpArgs false
set_option maxHeartbeats 4000000
/-! ### impl_copyArena: function 84 -/
noncomputable def impl_copyArena.sp : Nat → Option (Spec Ty) := fun r => bif Nat.beq r 3 then some ⟨[(2, .box [.own .t88]), (3, .box [.own .t88]), (7, .keep), (8, .keep), (9, .keep)], []⟩ else none
noncomputable def impl_copyArena.en : Option (Spec Ty) := some ⟨[(2, .box [.own .t88])], []⟩
noncomputable def impl_copyArena.s3 (x7 : List S88) (x8 : Int) (x9 : Int) (h65 : List S88) (h67 : List S88) : St Ty D := ⟨(Env.put (Env.put (Env.put (Env.put (Env.put E (some 2) (.pt 64 0 0)) (some 3) (.pt 66 0 0)) (some 7) (.row 0 .t88 x7)) (some 8) (.sc (.int .i64 x8))) (some 9) (.sc (.int .i64 x9))), Heap.put H0 [(65, some (.rowb .t88 h65 0)), (64, some (.box [.sl 65 none])), (67, some (.rowb .t88 h67 0)), (66, some (.box [.sl 67 none]))], 1000⟩
noncomputable def impl_copyArena.ctx (k : Nat) : Ctx Ty D := (cons 99 (impl_copyInts.x k) (fun _ _ _ _ => none))
noncomputable def impl_copyArena.c3 : Nat → (List S88) → Int → Int → (List S88) → (List S88) → Option ((List S88))
  | 0, _, _, _, _, _ => none
  | k + 1, x7, x8, x9, h65, h67 => (if x9 < x8 then (if 0 ≤ x9 then (if x9 < (x7.length : Int) then ((impl_copyInts.f k ((rd_T88 x7 x9).f1)).bind fun t1 => (if h67.length + ([(S88.mk ((rd_T88 x7 x9).f0) t1)] : List S88).length ≤ 4398046511104 then (impl_copyArena.c3 k x7 x8 (w64 (x9 + 1)) h65 (h67 ++ ([(S88.mk ((rd_T88 x7 x9).f0) t1)] : List S88))) else none)) else none) else none) else (some (h67)))
noncomputable def impl_copyArena.f (k : Nat) (a0_0 : List S88) : Option ((List S88)) := (impl_copyArena.c3 k a0_0 (a0_0.length : Int) 0 ([] : List S88) ([] : List S88))
noncomputable def impl_copyArena.e (r : (List S88)) : Res Ty D := (.ag [.sl 0 none], [], [.rowb .t88 r 0])
noncomputable abbrev impl_copyArena.g (rec : List Item → St Ty D → R) (k : Nat) := go1 Try.f84 (impl_copyArena.ctx k) impl_copyArena.sp 0 impl_copyArena.en rec
set_option maxRecDepth 100000 in
theorem impl_copyArena.t3 (rec : List Item → St Ty D → R) (k : Nat) (x7 : List S88) (x8 : Int) (x9 : Int) (h65 : List S88) (h67 : List S88) : impl_copyArena.g rec k (td Try.f84 3) (impl_copyArena.s3 x7 x8 x9 h65 h67) =
  bif decide (x9 < x8) then bif decide (0 ≤ x9) then bif decide (x9 < (x7.length : Int)) then (impl_copyInts.f k ((rd_T88 x7 x9).f1)).bind fun t1 => bif decide (h67.length + ([(S88.mk ((rd_T88 x7 x9).f0) t1)] : List S88).length ≤ 4398046511104) then rec (td Try.f84 3) (impl_copyArena.s3 x7 x8 (w64 (x9 + 1)) h65 (h67 ++ ([(S88.mk ((rd_T88 x7 x9).f0) t1)] : List S88))) else none else none else none else some (impl_copyArena.e (h67)) := by kernel_rfl
set_option maxRecDepth 100000 in
theorem impl_copyArena.te (rec : List Item → St Ty D → R) (k : Nat) (a0_0 : List S88) : impl_copyArena.g rec k [.code (body Try.f84)] (startSt [.ag [.row 0 .t88 a0_0]] []) =
  rec (td Try.f84 3) (impl_copyArena.s3 a0_0 (a0_0.length : Int) 0 ([] : List S88) ([] : List S88)) := by kernel_rfl
set_option maxRecDepth 100000 in
theorem impl_copyArena.ok : ∀ k : Nat, (∀ (x7 : List S88) (x8 : Int) (x9 : Int) (h65 : List S88) (h67 : List S88), goF Try.f84 impl_copyArena.ctx impl_copyArena.sp 0 impl_copyArena.en k (td Try.f84 3) (impl_copyArena.s3 x7 x8 x9 h65 h67) = (impl_copyArena.c3 k x7 x8 x9 h65 h67).map impl_copyArena.e)
  | 0 => fun _ _ _ _ _ => rfl
  | k + 1 => by
    have ih := impl_copyArena.ok k
    have i3 := ih
    intro x7 x8 x9 h65 h67; rw [impl_copyArena.c3]; exact (impl_copyArena.t3 _ k x7 x8 x9 h65 h67).trans (cd (cd (cd (bn (fun t1 => (cd (i3 _ _ _ _ _) rfl))) rfl) rfl) rfl)
set_option maxRecDepth 100000 in
theorem impl_copyArena.oke (k : Nat) (a0_0 : List S88) : goF Try.f84 impl_copyArena.ctx impl_copyArena.sp 0 impl_copyArena.en (k + 1) [.code (body Try.f84)] (startSt [.ag [.row 0 .t88 a0_0]] []) = (impl_copyArena.f k a0_0).map impl_copyArena.e := by
  have i3 := impl_copyArena.ok k
  rw [impl_copyArena.f]; exact (impl_copyArena.te _ k a0_0).trans (i3 _ _ _ _ _)
theorem impl_copyArena.con (k : Nat) (a0_0 : List S88) (r) (h : impl_copyArena.f k a0_0 = some r) : Contract Try.prog kit 84 [.ag [.row 0 .t88 a0_0]] [] (impl_copyArena.e r).1 (impl_copyArena.e r).2.1 (impl_copyArena.e r).2.2 :=
  con_okG kitOk mix (fun k => (CtxOk.cons (impl_copyInts.xok k) CtxOk.nil)) (impl_copyArena.oke k a0_0) h (by kernel_rfl) (by kernel_rfl) (by kernel_rfl) rfl (by kernel_rfl) rfl rfl
noncomputable def impl_copyArena.x (k : Nat) : X := fun ins bs κ => match ins, bs with
  | [.ag [.row 0 .t88 a0_0]], [] => (impl_copyArena.f k a0_0).bind fun r => κ (impl_copyArena.e r).1 (impl_copyArena.e r).2.1 (impl_copyArena.e r).2.2
  | _, _ => none
theorem impl_copyArena.xok (k : Nat) : XOk 84 (impl_copyArena.x k) := by
  intro ins bs κ res h
  unfold impl_copyArena.x at h
  split at h
  · obtain ⟨r, hr, h⟩ := Option.bind_eq_some_iff.1 h
    exact ⟨_, _, _, impl_copyArena.con k _ r hr, h⟩
  · cases h

/-! ### impl_copyStore: function 45 -/
noncomputable def impl_copyStore.sp : Nat → Option (Spec Ty) := fun r => none
noncomputable def impl_copyStore.en : Option (Spec Ty) := some ⟨[(2, .box [.own .t53, .own .t88, .keep])], []⟩
noncomputable def impl_copyStore.ctx (k : Nat) : Ctx Ty D := (cons 84 (impl_copyArena.x k) (fun _ _ _ _ => none))
noncomputable def impl_copyStore.f (k : Nat) (a0_0 : List S53) (a0_1 : List S88) (a0_2 : Int) : Option ((List S53) × (List S88) × Int) := (if ([] : List S53).length + a0_0.length ≤ 8796093022208 then ((impl_copyArena.f k a0_1).bind fun t1 => (some ((([] : List S53) ++ a0_0), t1, a0_2))) else none)
noncomputable def impl_copyStore.e (r : (List S53) × (List S88) × Int) : Res Ty D := (.ag [.sl 0 none, .sl 1 none, .sc (.int .i64 r.2.2)], [], [.rowb .t53 r.1 0, .rowb .t88 r.2.1 0])
noncomputable abbrev impl_copyStore.g (rec : List Item → St Ty D → R) (k : Nat) := go1 Try.f45 (impl_copyStore.ctx k) impl_copyStore.sp 0 impl_copyStore.en rec
set_option maxRecDepth 100000 in
theorem impl_copyStore.te (rec : List Item → St Ty D → R) (k : Nat) (a0_0 : List S53) (a0_1 : List S88) (a0_2 : Int) : impl_copyStore.g rec k [.code (body Try.f45)] (startSt [.ag [.row 0 .t53 a0_0, .row 0 .t88 a0_1, .sc (.int .i64 a0_2)]] []) =
  bif decide (([] : List S53).length + a0_0.length ≤ 8796093022208) then (impl_copyArena.f k a0_1).bind fun t1 => some (impl_copyStore.e ((([] : List S53) ++ a0_0), t1, a0_2)) else none := by kernel_rfl
set_option maxRecDepth 100000 in
theorem impl_copyStore.oke (k : Nat) (a0_0 : List S53) (a0_1 : List S88) (a0_2 : Int) : goF Try.f45 impl_copyStore.ctx impl_copyStore.sp 0 impl_copyStore.en (k + 1) [.code (body Try.f45)] (startSt [.ag [.row 0 .t53 a0_0, .row 0 .t88 a0_1, .sc (.int .i64 a0_2)]] []) = (impl_copyStore.f k a0_0 a0_1 a0_2).map impl_copyStore.e := by
  rw [impl_copyStore.f]; exact (impl_copyStore.te _ k a0_0 a0_1 a0_2).trans (cd (bn (fun t1 => rfl)) rfl)
theorem impl_copyStore.con (k : Nat) (a0_0 : List S53) (a0_1 : List S88) (a0_2 : Int) (r) (h : impl_copyStore.f k a0_0 a0_1 a0_2 = some r) : Contract Try.prog kit 45 [.ag [.row 0 .t53 a0_0, .row 0 .t88 a0_1, .sc (.int .i64 a0_2)]] [] (impl_copyStore.e r).1 (impl_copyStore.e r).2.1 (impl_copyStore.e r).2.2 :=
  con_okG kitOk mix (fun k => (CtxOk.cons (impl_copyArena.xok k) CtxOk.nil)) (impl_copyStore.oke k a0_0 a0_1 a0_2) h (by kernel_rfl) (by kernel_rfl) (by kernel_rfl) rfl (by kernel_rfl) rfl rfl
noncomputable def impl_copyStore.x (k : Nat) : X := fun ins bs κ => match ins, bs with
  | [.ag [.row 0 .t53 a0_0, .row 0 .t88 a0_1, .sc (.int .i64 a0_2)]], [] => (impl_copyStore.f k a0_0 a0_1 a0_2).bind fun r => κ (impl_copyStore.e r).1 (impl_copyStore.e r).2.1 (impl_copyStore.e r).2.2
  | _, _ => none
theorem impl_copyStore.xok (k : Nat) : XOk 45 (impl_copyStore.x k) := by
  intro ins bs κ res h
  unfold impl_copyStore.x at h
  split at h
  · obtain ⟨r, hr, h⟩ := Option.bind_eq_some_iff.1 h
    exact ⟨_, _, _, impl_copyStore.con k _ _ _ r hr, h⟩
  · cases h

/-! ### impl_RecOk: function 46 -/
noncomputable def impl_RecOk.sp : Nat → Option (Spec Ty) := fun r => none
noncomputable def impl_RecOk.en : Option (Spec Ty) := none
noncomputable def impl_RecOk.ctx (k : Nat) : Ctx Ty D := (cons 68 (impl_in.x k) (fun _ _ _ _ => none))
noncomputable def impl_RecOk.f (k : Nat) (a0_0 : Int) (a0_1 : Int) (a0_2 : Int) (a0_3 : Int) : Option (Bool) := (if a0_0 = 1 then (if a0_1 = 0 then ((impl_in.f k a0_2 0 1000000000).bind fun t1 => (if t1 = true then (some ((decide (a0_3 = 0)))) else (some (false)))) else (some (false))) else ((impl_in.f k a0_1 1 9).bind fun t2 => (if t2 = true then (if a0_0 = 4 then (if a0_0 = 2 then ((impl_in.f k a0_2 0 9).bind fun t7 => (some (t7))) else (if a0_0 = 3 then (some ((decide (a0_2 = 0)))) else (if a0_0 = 4 then ((impl_in.f k a0_2 0 15).bind fun t8 => (if t8 = true then ((impl_in.f k a0_3 1 1000000000).bind fun t9 => (some (t9))) else (some (false)))) else (if a0_0 = 5 then ((impl_in.f k a0_2 0 15).bind fun t10 => (some (t10))) else (some (false)))))) else (if a0_3 = 0 then (if a0_0 = 2 then ((impl_in.f k a0_2 0 9).bind fun t3 => (some (t3))) else (if a0_0 = 3 then (some ((decide (a0_2 = 0)))) else (if a0_0 = 4 then ((impl_in.f k a0_2 0 15).bind fun t4 => (if t4 = true then ((impl_in.f k a0_3 1 1000000000).bind fun t5 => (some (t5))) else (some (false)))) else (if a0_0 = 5 then ((impl_in.f k a0_2 0 15).bind fun t6 => (some (t6))) else (some (false)))))) else (some (false)))) else (some (false)))))
noncomputable def impl_RecOk.e (r : Bool) : Res Ty D := (.sc (.bool r), [], [])
noncomputable abbrev impl_RecOk.g (rec : List Item → St Ty D → R) (k : Nat) := go1 Try.f46 (impl_RecOk.ctx k) impl_RecOk.sp 0 impl_RecOk.en rec
set_option maxRecDepth 100000 in
theorem impl_RecOk.te (rec : List Item → St Ty D → R) (k : Nat) (a0_0 : Int) (a0_1 : Int) (a0_2 : Int) (a0_3 : Int) : impl_RecOk.g rec k [.code (body Try.f46)] (startSt [.ag [.sc (.int .i64 a0_0), .sc (.int .i64 a0_1), .sc (.int .i64 a0_2), .sc (.int .i64 a0_3)]] []) =
  bif decide (a0_0 = 1) then bif decide (a0_1 = 0) then (impl_in.f k a0_2 0 1000000000).bind fun t1 => bif t1 then some (impl_RecOk.e ((decide (a0_3 = 0)))) else some (impl_RecOk.e (false)) else some (impl_RecOk.e (false)) else (impl_in.f k a0_1 1 9).bind fun t2 => bif !t2 then some (impl_RecOk.e (false)) else bif !decide (a0_0 = 4) then bif !decide (a0_3 = 0) then some (impl_RecOk.e (false)) else bif decide (a0_0 = 2) then (impl_in.f k a0_2 0 9).bind fun t3 => some (impl_RecOk.e (t3)) else bif decide (a0_0 = 3) then some (impl_RecOk.e ((decide (a0_2 = 0)))) else bif decide (a0_0 = 4) then (impl_in.f k a0_2 0 15).bind fun t4 => bif t4 then (impl_in.f k a0_3 1 1000000000).bind fun t5 => some (impl_RecOk.e (t5)) else some (impl_RecOk.e (false)) else bif decide (a0_0 = 5) then (impl_in.f k a0_2 0 15).bind fun t6 => some (impl_RecOk.e (t6)) else some (impl_RecOk.e (false)) else bif decide (a0_0 = 2) then (impl_in.f k a0_2 0 9).bind fun t7 => some (impl_RecOk.e (t7)) else bif decide (a0_0 = 3) then some (impl_RecOk.e ((decide (a0_2 = 0)))) else bif decide (a0_0 = 4) then (impl_in.f k a0_2 0 15).bind fun t8 => bif t8 then (impl_in.f k a0_3 1 1000000000).bind fun t9 => some (impl_RecOk.e (t9)) else some (impl_RecOk.e (false)) else bif decide (a0_0 = 5) then (impl_in.f k a0_2 0 15).bind fun t10 => some (impl_RecOk.e (t10)) else some (impl_RecOk.e (false)) := by kernel_rfl
set_option maxRecDepth 100000 in
theorem impl_RecOk.oke (k : Nat) (a0_0 : Int) (a0_1 : Int) (a0_2 : Int) (a0_3 : Int) : goF Try.f46 impl_RecOk.ctx impl_RecOk.sp 0 impl_RecOk.en (k + 1) [.code (body Try.f46)] (startSt [.ag [.sc (.int .i64 a0_0), .sc (.int .i64 a0_1), .sc (.int .i64 a0_2), .sc (.int .i64 a0_3)]] []) = (impl_RecOk.f k a0_0 a0_1 a0_2 a0_3).map impl_RecOk.e := by
  rw [impl_RecOk.f]; exact (impl_RecOk.te _ k a0_0 a0_1 a0_2 a0_3).trans (cd (cd (bn (fun t1 => (cb rfl rfl))) rfl) (bn (fun t2 => (nb rfl (nd (nd rfl (cd (bn (fun t3 => rfl)) (cd rfl (cd (bn (fun t4 => (cb (bn (fun t5 => rfl)) rfl))) (cd (bn (fun t6 => rfl)) rfl))))) (cd (bn (fun t7 => rfl)) (cd rfl (cd (bn (fun t8 => (cb (bn (fun t9 => rfl)) rfl))) (cd (bn (fun t10 => rfl)) rfl)))))))))
theorem impl_RecOk.con (k : Nat) (a0_0 : Int) (a0_1 : Int) (a0_2 : Int) (a0_3 : Int) (r) (h : impl_RecOk.f k a0_0 a0_1 a0_2 a0_3 = some r) : Contract Try.prog kit 46 [.ag [.sc (.int .i64 a0_0), .sc (.int .i64 a0_1), .sc (.int .i64 a0_2), .sc (.int .i64 a0_3)]] [] (impl_RecOk.e r).1 (impl_RecOk.e r).2.1 (impl_RecOk.e r).2.2 :=
  con_okG kitOk mix (fun k => (CtxOk.cons (impl_in.xok k) CtxOk.nil)) (impl_RecOk.oke k a0_0 a0_1 a0_2 a0_3) h (by kernel_rfl) (by kernel_rfl) (by kernel_rfl) rfl (by kernel_rfl) rfl rfl
noncomputable def impl_RecOk.x (k : Nat) : X := fun ins bs κ => match ins, bs with
  | [.ag [.sc (.int .i64 a0_0), .sc (.int .i64 a0_1), .sc (.int .i64 a0_2), .sc (.int .i64 a0_3)]], [] => (impl_RecOk.f k a0_0 a0_1 a0_2 a0_3).bind fun r => κ (impl_RecOk.e r).1 (impl_RecOk.e r).2.1 (impl_RecOk.e r).2.2
  | _, _ => none
theorem impl_RecOk.xok (k : Nat) : XOk 46 (impl_RecOk.x k) := by
  intro ins bs κ res h
  unfold impl_RecOk.x at h
  split at h
  · obtain ⟨r, hr, h⟩ := Option.bind_eq_some_iff.1 h
    exact ⟨_, _, _, impl_RecOk.con k _ _ _ _ r hr, h⟩
  · cases h

/-! ### impl_volAt: function 63 -/
noncomputable def impl_volAt.sp : Nat → Option (Spec Ty) := fun r => bif Nat.beq r 2 then some ⟨[(1, .keep), (8, .keep), (9, .keep), (10, .keep)], []⟩ else none
noncomputable def impl_volAt.en : Option (Spec Ty) := none
noncomputable def impl_volAt.s2 (x1 : Int) (x8 : List S53) (x9 : Int) (x10 : Int) : St Ty D := ⟨(Env.put (Env.put (Env.put (Env.put E (some 1) (.sc (.int .i64 x1))) (some 8) (.row 0 .t53 x8)) (some 9) (.sc (.int .i64 x9))) (some 10) (.sc (.int .i64 x10))), H0, 1000⟩
noncomputable def impl_volAt.ctx (k : Nat) : Ctx Ty D := (fun _ _ _ _ => none)
noncomputable def impl_volAt.c2 : Nat → Int → (List S53) → Int → Int → Option (Int)
  | 0, _, _, _, _ => none
  | k + 1, x1, x8, x9, x10 => (if x10 < x9 then (if 0 ≤ x10 then (if x10 < (x8.length : Int) then (if ((rd_T53 x8 x10).f0) = x1 then (some (x10)) else (impl_volAt.c2 k x1 x8 x9 (w64 (x10 + 1)))) else none) else none) else (some ((-1))))
noncomputable def impl_volAt.f (k : Nat) (a0_0 : List S53) (a0_1 : List S88) (a0_2 : Int) (a1 : Int) : Option (Int) := (impl_volAt.c2 k a1 a0_0 (a0_0.length : Int) 0)
noncomputable def impl_volAt.e (r : Int) : Res Ty D := (.sc (.int .i64 r), [], [])
noncomputable abbrev impl_volAt.g (rec : List Item → St Ty D → R) (k : Nat) := go1 Try.f63 (impl_volAt.ctx k) impl_volAt.sp 0 impl_volAt.en rec
set_option maxRecDepth 100000 in
theorem impl_volAt.t2 (rec : List Item → St Ty D → R) (k : Nat) (x1 : Int) (x8 : List S53) (x9 : Int) (x10 : Int) : impl_volAt.g rec k (td Try.f63 2) (impl_volAt.s2 x1 x8 x9 x10) =
  bif decide (x10 < x9) then bif decide (0 ≤ x10) then bif decide (x10 < (x8.length : Int)) then bif decide (((rd_T53 x8 x10).f0) = x1) then some (impl_volAt.e (x10)) else rec (td Try.f63 2) (impl_volAt.s2 x1 x8 x9 (w64 (x10 + 1))) else none else none else some (impl_volAt.e ((-1))) := by kernel_rfl
set_option maxRecDepth 100000 in
theorem impl_volAt.te (rec : List Item → St Ty D → R) (k : Nat) (a0_0 : List S53) (a0_1 : List S88) (a0_2 : Int) (a1 : Int) : impl_volAt.g rec k [.code (body Try.f63)] (startSt [.ag [.row 0 .t53 a0_0, .row 0 .t88 a0_1, .sc (.int .i64 a0_2)], .sc (.int .i64 a1)] []) =
  rec (td Try.f63 2) (impl_volAt.s2 a1 a0_0 (a0_0.length : Int) 0) := by kernel_rfl
set_option maxRecDepth 100000 in
theorem impl_volAt.ok : ∀ k : Nat, (∀ (x1 : Int) (x8 : List S53) (x9 : Int) (x10 : Int), goF Try.f63 impl_volAt.ctx impl_volAt.sp 0 impl_volAt.en k (td Try.f63 2) (impl_volAt.s2 x1 x8 x9 x10) = (impl_volAt.c2 k x1 x8 x9 x10).map impl_volAt.e)
  | 0 => fun _ _ _ _ => rfl
  | k + 1 => by
    have ih := impl_volAt.ok k
    have i2 := ih
    intro x1 x8 x9 x10; rw [impl_volAt.c2]; exact (impl_volAt.t2 _ k x1 x8 x9 x10).trans (cd (cd (cd (cd rfl (i2 _ _ _ _)) rfl) rfl) rfl)
set_option maxRecDepth 100000 in
theorem impl_volAt.oke (k : Nat) (a0_0 : List S53) (a0_1 : List S88) (a0_2 : Int) (a1 : Int) : goF Try.f63 impl_volAt.ctx impl_volAt.sp 0 impl_volAt.en (k + 1) [.code (body Try.f63)] (startSt [.ag [.row 0 .t53 a0_0, .row 0 .t88 a0_1, .sc (.int .i64 a0_2)], .sc (.int .i64 a1)] []) = (impl_volAt.f k a0_0 a0_1 a0_2 a1).map impl_volAt.e := by
  have i2 := impl_volAt.ok k
  rw [impl_volAt.f]; exact (impl_volAt.te _ k a0_0 a0_1 a0_2 a1).trans (i2 _ _ _ _)
theorem impl_volAt.con (k : Nat) (a0_0 : List S53) (a0_1 : List S88) (a0_2 : Int) (a1 : Int) (r) (h : impl_volAt.f k a0_0 a0_1 a0_2 a1 = some r) : Contract Try.prog kit 63 [.ag [.row 0 .t53 a0_0, .row 0 .t88 a0_1, .sc (.int .i64 a0_2)], .sc (.int .i64 a1)] [] (impl_volAt.e r).1 (impl_volAt.e r).2.1 (impl_volAt.e r).2.2 :=
  con_okG kitOk mix (fun k => CtxOk.nil) (impl_volAt.oke k a0_0 a0_1 a0_2 a1) h (by kernel_rfl) (by kernel_rfl) (by kernel_rfl) rfl (by kernel_rfl) rfl rfl
noncomputable def impl_volAt.x (k : Nat) : X := fun ins bs κ => match ins, bs with
  | [.ag [.row 0 .t53 a0_0, .row 0 .t88 a0_1, .sc (.int .i64 a0_2)], .sc (.int .i64 a1)], [] => (impl_volAt.f k a0_0 a0_1 a0_2 a1).bind fun r => κ (impl_volAt.e r).1 (impl_volAt.e r).2.1 (impl_volAt.e r).2.2
  | _, _ => none
theorem impl_volAt.xok (k : Nat) : XOk 63 (impl_volAt.x k) := by
  intro ins bs κ res h
  unfold impl_volAt.x at h
  split at h
  · obtain ⟨r, hr, h⟩ := Option.bind_eq_some_iff.1 h
    exact ⟨_, _, _, impl_volAt.con k _ _ _ _ r hr, h⟩
  · cases h

/-! ### sort_xorshift_Next: function 150 -/
noncomputable def sort_xorshift_Next.sp : Nat → Option (Spec Ty) := fun r => none
noncomputable def sort_xorshift_Next.en : Option (Spec Ty) := none
noncomputable def sort_xorshift_Next.ctx (k : Nat) : Ctx Ty D := (fun _ _ _ _ => none)
noncomputable def sort_xorshift_Next.f (k : Nat) (a0_0 : Int) : Option (Int × Int) := (some ((Go.bits .xor .u64 (Go.bits .xor .u64 (Go.bits .xor .u64 a0_0 (Go.IntKind.wrap .u64 (a0_0 * 8192))) (Int.fdiv (Go.bits .xor .u64 a0_0 (Go.IntKind.wrap .u64 (a0_0 * 8192))) 128)) (Go.IntKind.wrap .u64 ((Go.bits .xor .u64 (Go.bits .xor .u64 a0_0 (Go.IntKind.wrap .u64 (a0_0 * 8192))) (Int.fdiv (Go.bits .xor .u64 a0_0 (Go.IntKind.wrap .u64 (a0_0 * 8192))) 128)) * 131072))), (Go.bits .xor .u64 (Go.bits .xor .u64 (Go.bits .xor .u64 a0_0 (Go.IntKind.wrap .u64 (a0_0 * 8192))) (Int.fdiv (Go.bits .xor .u64 a0_0 (Go.IntKind.wrap .u64 (a0_0 * 8192))) 128)) (Go.IntKind.wrap .u64 ((Go.bits .xor .u64 (Go.bits .xor .u64 a0_0 (Go.IntKind.wrap .u64 (a0_0 * 8192))) (Int.fdiv (Go.bits .xor .u64 a0_0 (Go.IntKind.wrap .u64 (a0_0 * 8192))) 128)) * 131072)))))
noncomputable def sort_xorshift_Next.e (r : Int × Int) : Res Ty D := (.sc (.int .u64 r.1), [some (.box [.sc (.int .u64 r.2)])], [])
noncomputable abbrev sort_xorshift_Next.g (rec : List Item → St Ty D → R) (k : Nat) := go1 Try.f150 (sort_xorshift_Next.ctx k) sort_xorshift_Next.sp 1 sort_xorshift_Next.en rec
set_option maxRecDepth 100000 in
theorem sort_xorshift_Next.te (rec : List Item → St Ty D → R) (k : Nat) (a0_0 : Int) : sort_xorshift_Next.g rec k [.code (body Try.f150)] (startSt [.pt 0 0 0] [.box [.sc (.int .u64 a0_0)]]) =
  some (sort_xorshift_Next.e ((Go.bits .xor .u64 (Go.bits .xor .u64 (Go.bits .xor .u64 a0_0 (Go.IntKind.wrap .u64 (a0_0 * 8192))) (Int.fdiv (Go.bits .xor .u64 a0_0 (Go.IntKind.wrap .u64 (a0_0 * 8192))) 128)) (Go.IntKind.wrap .u64 ((Go.bits .xor .u64 (Go.bits .xor .u64 a0_0 (Go.IntKind.wrap .u64 (a0_0 * 8192))) (Int.fdiv (Go.bits .xor .u64 a0_0 (Go.IntKind.wrap .u64 (a0_0 * 8192))) 128)) * 131072))), (Go.bits .xor .u64 (Go.bits .xor .u64 (Go.bits .xor .u64 a0_0 (Go.IntKind.wrap .u64 (a0_0 * 8192))) (Int.fdiv (Go.bits .xor .u64 a0_0 (Go.IntKind.wrap .u64 (a0_0 * 8192))) 128)) (Go.IntKind.wrap .u64 ((Go.bits .xor .u64 (Go.bits .xor .u64 a0_0 (Go.IntKind.wrap .u64 (a0_0 * 8192))) (Int.fdiv (Go.bits .xor .u64 a0_0 (Go.IntKind.wrap .u64 (a0_0 * 8192))) 128)) * 131072))))) := by kernel_rfl
set_option maxRecDepth 100000 in
theorem sort_xorshift_Next.oke (k : Nat) (a0_0 : Int) : goF Try.f150 sort_xorshift_Next.ctx sort_xorshift_Next.sp 1 sort_xorshift_Next.en (k + 1) [.code (body Try.f150)] (startSt [.pt 0 0 0] [.box [.sc (.int .u64 a0_0)]]) = (sort_xorshift_Next.f k a0_0).map sort_xorshift_Next.e := by
  rw [sort_xorshift_Next.f]; exact (sort_xorshift_Next.te _ k a0_0).trans rfl
theorem sort_xorshift_Next.con (k : Nat) (a0_0 : Int) (r) (h : sort_xorshift_Next.f k a0_0 = some r) : Contract Try.prog kit 150 [.pt 0 0 0] [.box [.sc (.int .u64 a0_0)]] (sort_xorshift_Next.e r).1 (sort_xorshift_Next.e r).2.1 (sort_xorshift_Next.e r).2.2 :=
  con_okG kitOk mix (fun k => CtxOk.nil) (sort_xorshift_Next.oke k a0_0) h (by kernel_rfl) (by kernel_rfl) (by kernel_rfl) rfl (by kernel_rfl) rfl rfl
noncomputable def sort_xorshift_Next.x (k : Nat) : X := fun ins bs κ => match ins, bs with
  | [.pt 0 0 0], [.box [.sc (.int .u64 a0_0)]] => (sort_xorshift_Next.f k a0_0).bind fun r => κ (sort_xorshift_Next.e r).1 (sort_xorshift_Next.e r).2.1 (sort_xorshift_Next.e r).2.2
  | _, _ => none
theorem sort_xorshift_Next.xok (k : Nat) : XOk 150 (sort_xorshift_Next.x k) := by
  intro ins bs κ res h
  unfold sort_xorshift_Next.x at h
  split at h
  · obtain ⟨r, hr, h⟩ := Option.bind_eq_some_iff.1 h
    exact ⟨_, _, _, sort_xorshift_Next.con k _ r hr, h⟩
  · cases h

/-! ### impl_Store_create: function 85 -/
noncomputable def impl_Store_create.sp : Nat → Option (Spec Ty) := fun r => none
noncomputable def impl_Store_create.en : Option (Spec Ty) := none
noncomputable def impl_Store_create.ctx (k : Nat) : Ctx Ty D := (cons 63 (impl_volAt.x k) (fun _ _ _ _ => none))
noncomputable def impl_Store_create.f (k : Nat) (a1 : Int) (a2 : Int) (a0_2 : Int) (h0_0 : List S53) (h0_1 : List S88) : Option ((Bool × (List S53) × (List S88) × Int) ⊕ (Bool × (List S53) × (List S88) × Int)) := (if a2 = 0 then ((impl_volAt.f k h0_0 h0_1 a0_2 a1).bind fun t3 => (if t3 ≥ 0 then (some (.inl (false, h0_0, h0_1, a0_2))) else (if (h0_0.length : Int) ≥ 3 then (some (.inl (false, h0_0, h0_1, a0_2))) else (if h0_0.length + ([(S53.mk a1 (-1))] : List S53).length ≤ 8796093022208 then (if (h0_0 ++ ([(S53.mk a1 (-1))] : List S53)).length ≤ 12 then (some (.inr (true, (lsort53 (h0_0 ++ ([(S53.mk a1 (-1))] : List S53))), h0_1, a0_2))) else none) else none)))) else ((impl_volAt.f k h0_0 h0_1 a0_2 a2).bind fun t1 => (if t1 < 0 then (some (.inl (false, h0_0, h0_1, a0_2))) else (if 0 ≤ t1 then (if t1 < (h0_0.length : Int) then ((impl_volAt.f k h0_0 h0_1 a0_2 a1).bind fun t2 => (if t2 ≥ 0 then (some (.inl (false, h0_0, h0_1, a0_2))) else (if (h0_0.length : Int) ≥ 3 then (some (.inl (false, h0_0, h0_1, a0_2))) else (if h0_0.length + ([(S53.mk a1 ((rd_T53 h0_0 t1).f1))] : List S53).length ≤ 8796093022208 then (if (h0_0 ++ ([(S53.mk a1 ((rd_T53 h0_0 t1).f1))] : List S53)).length ≤ 12 then (some (.inr (true, (lsort53 (h0_0 ++ ([(S53.mk a1 ((rd_T53 h0_0 t1).f1))] : List S53))), h0_1, a0_2))) else none) else none)))) else none) else none))))
noncomputable def impl_Store_create.e : (Bool × (List S53) × (List S88) × Int) ⊕ (Bool × (List S53) × (List S88) × Int) → Res Ty D := (Sum.elim (fun r => (.sc (.bool r.1), [some (.box [.sl 1 none, .sl 2 none, .sc (.int .i64 r.2.2.2)]), some (.rowb .t53 r.2.1 0), some (.rowb .t88 r.2.2.1 0)], [])) (fun r => (.sc (.bool r.1), [some (.box [.sl 3 none, .sl 2 none, .sc (.int .i64 r.2.2.2)]), none, some (.rowb .t88 r.2.2.1 0)], [.rowb .t53 r.2.1 0])))
noncomputable abbrev impl_Store_create.g (rec : List Item → St Ty D → R) (k : Nat) := go1 Try.f85 (impl_Store_create.ctx k) impl_Store_create.sp 3 impl_Store_create.en rec
set_option maxRecDepth 100000 in
theorem impl_Store_create.te (rec : List Item → St Ty D → R) (k : Nat) (a1 : Int) (a2 : Int) (a0_2 : Int) (h0_0 : List S53) (h0_1 : List S88) : impl_Store_create.g rec k [.code (body Try.f85)] (startSt [.pt 0 0 0, .sc (.int .i64 a1), .sc (.int .i64 a2)] [.box [.sl 1 none, .sl 2 none, .sc (.int .i64 a0_2)], .rowb .t53 h0_0 0, .rowb .t88 h0_1 0]) =
  bif !decide (a2 = 0) then (impl_volAt.f k h0_0 h0_1 a0_2 a2).bind fun t1 => bif decide (t1 < 0) then some (impl_Store_create.e (.inl (false, h0_0, h0_1, a0_2))) else bif decide (0 ≤ t1) then bif decide (t1 < (h0_0.length : Int)) then (impl_volAt.f k h0_0 h0_1 a0_2 a1).bind fun t2 => bif decide (t2 ≥ 0) then some (impl_Store_create.e (.inl (false, h0_0, h0_1, a0_2))) else bif decide ((h0_0.length : Int) ≥ 3) then some (impl_Store_create.e (.inl (false, h0_0, h0_1, a0_2))) else bif decide (h0_0.length + ([(S53.mk a1 ((rd_T53 h0_0 t1).f1))] : List S53).length ≤ 8796093022208) then bif decide ((h0_0 ++ ([(S53.mk a1 ((rd_T53 h0_0 t1).f1))] : List S53)).length ≤ 12) then some (impl_Store_create.e (.inr (true, (lsort53 (h0_0 ++ ([(S53.mk a1 ((rd_T53 h0_0 t1).f1))] : List S53))), h0_1, a0_2))) else none else none else none else none else (impl_volAt.f k h0_0 h0_1 a0_2 a1).bind fun t3 => bif decide (t3 ≥ 0) then some (impl_Store_create.e (.inl (false, h0_0, h0_1, a0_2))) else bif decide ((h0_0.length : Int) ≥ 3) then some (impl_Store_create.e (.inl (false, h0_0, h0_1, a0_2))) else bif decide (h0_0.length + ([(S53.mk a1 (-1))] : List S53).length ≤ 8796093022208) then bif decide ((h0_0 ++ ([(S53.mk a1 (-1))] : List S53)).length ≤ 12) then some (impl_Store_create.e (.inr (true, (lsort53 (h0_0 ++ ([(S53.mk a1 (-1))] : List S53))), h0_1, a0_2))) else none else none := by kernel_rfl
set_option maxRecDepth 100000 in
theorem impl_Store_create.oke (k : Nat) (a1 : Int) (a2 : Int) (a0_2 : Int) (h0_0 : List S53) (h0_1 : List S88) : goF Try.f85 impl_Store_create.ctx impl_Store_create.sp 3 impl_Store_create.en (k + 1) [.code (body Try.f85)] (startSt [.pt 0 0 0, .sc (.int .i64 a1), .sc (.int .i64 a2)] [.box [.sl 1 none, .sl 2 none, .sc (.int .i64 a0_2)], .rowb .t53 h0_0 0, .rowb .t88 h0_1 0]) = (impl_Store_create.f k a1 a2 a0_2 h0_0 h0_1).map impl_Store_create.e := by
  rw [impl_Store_create.f]; exact (impl_Store_create.te _ k a1 a2 a0_2 h0_0 h0_1).trans (nd (bn (fun t1 => (cd rfl (cd (cd (bn (fun t2 => (cd rfl (cd rfl (cd (cd rfl rfl) rfl))))) rfl) rfl)))) (bn (fun t3 => (cd rfl (cd rfl (cd (cd rfl rfl) rfl))))))
theorem impl_Store_create.con (k : Nat) (a1 : Int) (a2 : Int) (a0_2 : Int) (h0_0 : List S53) (h0_1 : List S88) (r) (h : impl_Store_create.f k a1 a2 a0_2 h0_0 h0_1 = some r) : Contract Try.prog kit 85 [.pt 0 0 0, .sc (.int .i64 a1), .sc (.int .i64 a2)] [.box [.sl 1 none, .sl 2 none, .sc (.int .i64 a0_2)], .rowb .t53 h0_0 0, .rowb .t88 h0_1 0] (impl_Store_create.e r).1 (impl_Store_create.e r).2.1 (impl_Store_create.e r).2.2 :=
  con_okG kitOk mix (fun k => (CtxOk.cons (impl_volAt.xok k) CtxOk.nil)) (impl_Store_create.oke k a1 a2 a0_2 h0_0 h0_1) h (by kernel_rfl) (by kernel_rfl) (by kernel_rfl) rfl (by kernel_rfl) rfl (by rcases r with r | r <;> rfl)
noncomputable def impl_Store_create.x (k : Nat) : X := fun ins bs κ => match ins, bs with
  | [.pt 0 0 0, .sc (.int .i64 a1), .sc (.int .i64 a2)], [.box [.sl 1 none, .sl 2 none, .sc (.int .i64 a0_2)], .rowb .t53 h0_0 0, .rowb .t88 h0_1 0] => (impl_Store_create.f k a1 a2 a0_2 h0_0 h0_1).bind (Sum.elim (fun r => κ (impl_Store_create.e (.inl r)).1 (impl_Store_create.e (.inl r)).2.1 (impl_Store_create.e (.inl r)).2.2) (fun r => κ (impl_Store_create.e (.inr r)).1 (impl_Store_create.e (.inr r)).2.1 (impl_Store_create.e (.inr r)).2.2))
  | _, _ => none
theorem impl_Store_create.xok (k : Nat) : XOk 85 (impl_Store_create.x k) := by
  intro ins bs κ res h
  unfold impl_Store_create.x at h
  split at h
  · obtain ⟨r, hr, h⟩ := Option.bind_eq_some_iff.1 h
    rcases r with r | r
    · exact ⟨_, _, _, impl_Store_create.con k _ _ _ _ _ _ hr, h⟩
    · exact ⟨_, _, _, impl_Store_create.con k _ _ _ _ _ _ hr, h⟩
  · cases h

/-! ### impl_PutAt: function 86 -/
noncomputable def impl_PutAt.sp : Nat → Option (Spec Ty) := fun r => none
noncomputable def impl_PutAt.en : Option (Spec Ty) := some ⟨[(8, .box [.own .t88]), (9, .keep)], []⟩
noncomputable def impl_PutAt.ctx (k : Nat) : Ctx Ty D := (cons 67 (impl_ArenaOk.x k) (cons 68 (impl_in.x k) (cons 69 (impl_isRoot.x k) (cons 84 (impl_copyArena.x k) (cons 99 (impl_copyInts.x k) (fun _ _ _ _ => none))))))
noncomputable def impl_PutAt.f (k : Nat) (a0_0 : List S88) (a1 : Int) (a2 : Int) (a3 : Int) : Option ((List S88) × Int) := ((impl_copyArena.f k a0_0).bind fun t1 => (if a1 = (-1) then ((impl_in.f k a2 0 15).bind fun t8 => (if t8 = true then (if a3 < 0 then (some (t1, a1)) else ((impl_ArenaOk.f k a0_0).bind fun t9 => (if t9 = true then (if a1 ≥ 0 then (if 0 ≤ a1 then (if a1 < (a0_0.length : Int) then ((impl_copyInts.f k ((rd_T88 a0_0 a1).f1)).bind fun t10 => (if 0 ≤ (w64 (Int.tdiv a2 4)) then (if (w64 (Int.tdiv a2 4)) < (t10.length : Int) then (if (rd_T3 t10 (w64 (Int.tdiv a2 4))) ≥ 0 then (if 0 ≤ (rd_T3 t10 (w64 (Int.tdiv a2 4))) then (if (rd_T3 t10 (w64 (Int.tdiv a2 4))) < (a0_0.length : Int) then ((impl_copyInts.f k ((rd_T88 a0_0 (rd_T3 t10 (w64 (Int.tdiv a2 4)))).f1)).bind fun t11 => (if 0 ≤ (Int.tmod a2 4) then (if (Int.tmod a2 4) < (t11.length : Int) then (if 0 ≤ (w64 (Int.tdiv a2 4)) then (if (w64 (Int.tdiv a2 4)) < (t10.length : Int) then (if t1.length + ([(S88.mk true (t11.set ((Int.tmod a2 4).toNat) a3)), (S88.mk false (t10.set ((w64 (Int.tdiv a2 4)).toNat) (a0_0.length : Int)))] : List S88).length ≤ 4398046511104 then (some ((t1 ++ ([(S88.mk true (t11.set ((Int.tmod a2 4).toNat) a3)), (S88.mk false (t10.set ((w64 (Int.tdiv a2 4)).toNat) (a0_0.length : Int)))] : List S88)), (w64 ((a0_0.length : Int) + 1)))) else none) else none) else none) else none) else none)) else none) else none) else (if 0 ≤ (Int.tmod a2 4) then (if (Int.tmod a2 4) < ((List.replicate 4 z3).length : Int) then (if 0 ≤ (w64 (Int.tdiv a2 4)) then (if (w64 (Int.tdiv a2 4)) < (t10.length : Int) then (if t1.length + ([(S88.mk true ((List.replicate 4 z3).set ((Int.tmod a2 4).toNat) a3)), (S88.mk false (t10.set ((w64 (Int.tdiv a2 4)).toNat) (a0_0.length : Int)))] : List S88).length ≤ 4398046511104 then (some ((t1 ++ ([(S88.mk true ((List.replicate 4 z3).set ((Int.tmod a2 4).toNat) a3)), (S88.mk false (t10.set ((w64 (Int.tdiv a2 4)).toNat) (a0_0.length : Int)))] : List S88)), (w64 ((a0_0.length : Int) + 1)))) else none) else none) else none) else none) else none)) else none) else none)) else none) else none) else (if 0 ≤ (w64 (Int.tdiv a2 4)) then (if (w64 (Int.tdiv a2 4)) < (([(-1), (-1), (-1), (-1)] : List Int).length : Int) then (if (rd_T3 ([(-1), (-1), (-1), (-1)] : List Int) (w64 (Int.tdiv a2 4))) ≥ 0 then (if 0 ≤ (rd_T3 ([(-1), (-1), (-1), (-1)] : List Int) (w64 (Int.tdiv a2 4))) then (if (rd_T3 ([(-1), (-1), (-1), (-1)] : List Int) (w64 (Int.tdiv a2 4))) < (a0_0.length : Int) then ((impl_copyInts.f k ((rd_T88 a0_0 (rd_T3 ([(-1), (-1), (-1), (-1)] : List Int) (w64 (Int.tdiv a2 4)))).f1)).bind fun t12 => (if 0 ≤ (Int.tmod a2 4) then (if (Int.tmod a2 4) < (t12.length : Int) then (if 0 ≤ (w64 (Int.tdiv a2 4)) then (if (w64 (Int.tdiv a2 4)) < (([(-1), (-1), (-1), (-1)] : List Int).length : Int) then (if t1.length + ([(S88.mk true (t12.set ((Int.tmod a2 4).toNat) a3)), (S88.mk false (([(-1), (-1), (-1), (-1)] : List Int).set ((w64 (Int.tdiv a2 4)).toNat) (a0_0.length : Int)))] : List S88).length ≤ 4398046511104 then (some ((t1 ++ ([(S88.mk true (t12.set ((Int.tmod a2 4).toNat) a3)), (S88.mk false (([(-1), (-1), (-1), (-1)] : List Int).set ((w64 (Int.tdiv a2 4)).toNat) (a0_0.length : Int)))] : List S88)), (w64 ((a0_0.length : Int) + 1)))) else none) else none) else none) else none) else none)) else none) else none) else (if 0 ≤ (Int.tmod a2 4) then (if (Int.tmod a2 4) < ((List.replicate 4 z3).length : Int) then (if 0 ≤ (w64 (Int.tdiv a2 4)) then (if (w64 (Int.tdiv a2 4)) < (([(-1), (-1), (-1), (-1)] : List Int).length : Int) then (if t1.length + ([(S88.mk true ((List.replicate 4 z3).set ((Int.tmod a2 4).toNat) a3)), (S88.mk false (([(-1), (-1), (-1), (-1)] : List Int).set ((w64 (Int.tdiv a2 4)).toNat) (a0_0.length : Int)))] : List S88).length ≤ 4398046511104 then (some ((t1 ++ ([(S88.mk true ((List.replicate 4 z3).set ((Int.tmod a2 4).toNat) a3)), (S88.mk false (([(-1), (-1), (-1), (-1)] : List Int).set ((w64 (Int.tdiv a2 4)).toNat) (a0_0.length : Int)))] : List S88)), (w64 ((a0_0.length : Int) + 1)))) else none) else none) else none) else none) else none)) else none) else none)) else (some (t1, a1))))) else (some (t1, a1)))) else ((impl_isRoot.f k a0_0 a1).bind fun t2 => (if t2 = true then ((impl_in.f k a2 0 15).bind fun t3 => (if t3 = true then (if a3 < 0 then (some (t1, a1)) else ((impl_ArenaOk.f k a0_0).bind fun t4 => (if t4 = true then (if a1 ≥ 0 then (if 0 ≤ a1 then (if a1 < (a0_0.length : Int) then ((impl_copyInts.f k ((rd_T88 a0_0 a1).f1)).bind fun t5 => (if 0 ≤ (w64 (Int.tdiv a2 4)) then (if (w64 (Int.tdiv a2 4)) < (t5.length : Int) then (if (rd_T3 t5 (w64 (Int.tdiv a2 4))) ≥ 0 then (if 0 ≤ (rd_T3 t5 (w64 (Int.tdiv a2 4))) then (if (rd_T3 t5 (w64 (Int.tdiv a2 4))) < (a0_0.length : Int) then ((impl_copyInts.f k ((rd_T88 a0_0 (rd_T3 t5 (w64 (Int.tdiv a2 4)))).f1)).bind fun t6 => (if 0 ≤ (Int.tmod a2 4) then (if (Int.tmod a2 4) < (t6.length : Int) then (if 0 ≤ (w64 (Int.tdiv a2 4)) then (if (w64 (Int.tdiv a2 4)) < (t5.length : Int) then (if t1.length + ([(S88.mk true (t6.set ((Int.tmod a2 4).toNat) a3)), (S88.mk false (t5.set ((w64 (Int.tdiv a2 4)).toNat) (a0_0.length : Int)))] : List S88).length ≤ 4398046511104 then (some ((t1 ++ ([(S88.mk true (t6.set ((Int.tmod a2 4).toNat) a3)), (S88.mk false (t5.set ((w64 (Int.tdiv a2 4)).toNat) (a0_0.length : Int)))] : List S88)), (w64 ((a0_0.length : Int) + 1)))) else none) else none) else none) else none) else none)) else none) else none) else (if 0 ≤ (Int.tmod a2 4) then (if (Int.tmod a2 4) < ((List.replicate 4 z3).length : Int) then (if 0 ≤ (w64 (Int.tdiv a2 4)) then (if (w64 (Int.tdiv a2 4)) < (t5.length : Int) then (if t1.length + ([(S88.mk true ((List.replicate 4 z3).set ((Int.tmod a2 4).toNat) a3)), (S88.mk false (t5.set ((w64 (Int.tdiv a2 4)).toNat) (a0_0.length : Int)))] : List S88).length ≤ 4398046511104 then (some ((t1 ++ ([(S88.mk true ((List.replicate 4 z3).set ((Int.tmod a2 4).toNat) a3)), (S88.mk false (t5.set ((w64 (Int.tdiv a2 4)).toNat) (a0_0.length : Int)))] : List S88)), (w64 ((a0_0.length : Int) + 1)))) else none) else none) else none) else none) else none)) else none) else none)) else none) else none) else (if 0 ≤ (w64 (Int.tdiv a2 4)) then (if (w64 (Int.tdiv a2 4)) < (([(-1), (-1), (-1), (-1)] : List Int).length : Int) then (if (rd_T3 ([(-1), (-1), (-1), (-1)] : List Int) (w64 (Int.tdiv a2 4))) ≥ 0 then (if 0 ≤ (rd_T3 ([(-1), (-1), (-1), (-1)] : List Int) (w64 (Int.tdiv a2 4))) then (if (rd_T3 ([(-1), (-1), (-1), (-1)] : List Int) (w64 (Int.tdiv a2 4))) < (a0_0.length : Int) then ((impl_copyInts.f k ((rd_T88 a0_0 (rd_T3 ([(-1), (-1), (-1), (-1)] : List Int) (w64 (Int.tdiv a2 4)))).f1)).bind fun t7 => (if 0 ≤ (Int.tmod a2 4) then (if (Int.tmod a2 4) < (t7.length : Int) then (if 0 ≤ (w64 (Int.tdiv a2 4)) then (if (w64 (Int.tdiv a2 4)) < (([(-1), (-1), (-1), (-1)] : List Int).length : Int) then (if t1.length + ([(S88.mk true (t7.set ((Int.tmod a2 4).toNat) a3)), (S88.mk false (([(-1), (-1), (-1), (-1)] : List Int).set ((w64 (Int.tdiv a2 4)).toNat) (a0_0.length : Int)))] : List S88).length ≤ 4398046511104 then (some ((t1 ++ ([(S88.mk true (t7.set ((Int.tmod a2 4).toNat) a3)), (S88.mk false (([(-1), (-1), (-1), (-1)] : List Int).set ((w64 (Int.tdiv a2 4)).toNat) (a0_0.length : Int)))] : List S88)), (w64 ((a0_0.length : Int) + 1)))) else none) else none) else none) else none) else none)) else none) else none) else (if 0 ≤ (Int.tmod a2 4) then (if (Int.tmod a2 4) < ((List.replicate 4 z3).length : Int) then (if 0 ≤ (w64 (Int.tdiv a2 4)) then (if (w64 (Int.tdiv a2 4)) < (([(-1), (-1), (-1), (-1)] : List Int).length : Int) then (if t1.length + ([(S88.mk true ((List.replicate 4 z3).set ((Int.tmod a2 4).toNat) a3)), (S88.mk false (([(-1), (-1), (-1), (-1)] : List Int).set ((w64 (Int.tdiv a2 4)).toNat) (a0_0.length : Int)))] : List S88).length ≤ 4398046511104 then (some ((t1 ++ ([(S88.mk true ((List.replicate 4 z3).set ((Int.tmod a2 4).toNat) a3)), (S88.mk false (([(-1), (-1), (-1), (-1)] : List Int).set ((w64 (Int.tdiv a2 4)).toNat) (a0_0.length : Int)))] : List S88)), (w64 ((a0_0.length : Int) + 1)))) else none) else none) else none) else none) else none)) else none) else none)) else (some (t1, a1))))) else (some (t1, a1)))) else (some (t1, a1))))))
noncomputable def impl_PutAt.e (r : (List S88) × Int) : Res Ty D := (.tu [.ag [.sl 0 none], .sc (.int .i64 r.2)], [], [.rowb .t88 r.1 0])
noncomputable abbrev impl_PutAt.g (rec : List Item → St Ty D → R) (k : Nat) := go1 Try.f86 (impl_PutAt.ctx k) impl_PutAt.sp 0 impl_PutAt.en rec
set_option maxRecDepth 100000 in
theorem impl_PutAt.te (rec : List Item → St Ty D → R) (k : Nat) (a0_0 : List S88) (a1 : Int) (a2 : Int) (a3 : Int) : impl_PutAt.g rec k [.code (body Try.f86)] (startSt [.ag [.row 0 .t88 a0_0], .sc (.int .i64 a1), .sc (.int .i64 a2), .sc (.int .i64 a3)] []) =
  (impl_copyArena.f k a0_0).bind fun t1 => bif !decide (a1 = (-1)) then (impl_isRoot.f k a0_0 a1).bind fun t2 => bif !t2 then some (impl_PutAt.e (t1, a1)) else (impl_in.f k a2 0 15).bind fun t3 => bif !t3 then some (impl_PutAt.e (t1, a1)) else bif decide (a3 < 0) then some (impl_PutAt.e (t1, a1)) else (impl_ArenaOk.f k a0_0).bind fun t4 => bif !t4 then some (impl_PutAt.e (t1, a1)) else bif decide (a1 ≥ 0) then bif decide (0 ≤ a1) then bif decide (a1 < (a0_0.length : Int)) then (impl_copyInts.f k ((rd_T88 a0_0 a1).f1)).bind fun t5 => bif decide (0 ≤ (w64 (Int.tdiv a2 4))) then bif decide ((w64 (Int.tdiv a2 4)) < (t5.length : Int)) then bif decide ((rd_T3 t5 (w64 (Int.tdiv a2 4))) ≥ 0) then bif decide (0 ≤ (rd_T3 t5 (w64 (Int.tdiv a2 4)))) then bif decide ((rd_T3 t5 (w64 (Int.tdiv a2 4))) < (a0_0.length : Int)) then (impl_copyInts.f k ((rd_T88 a0_0 (rd_T3 t5 (w64 (Int.tdiv a2 4)))).f1)).bind fun t6 => bif decide (0 ≤ (Int.tmod a2 4)) then bif decide ((Int.tmod a2 4) < (t6.length : Int)) then bif decide (0 ≤ (w64 (Int.tdiv a2 4))) then bif decide ((w64 (Int.tdiv a2 4)) < (t5.length : Int)) then bif decide (t1.length + ([(S88.mk true (t6.set ((Int.tmod a2 4).toNat) a3)), (S88.mk false (t5.set ((w64 (Int.tdiv a2 4)).toNat) (a0_0.length : Int)))] : List S88).length ≤ 4398046511104) then some (impl_PutAt.e ((t1 ++ ([(S88.mk true (t6.set ((Int.tmod a2 4).toNat) a3)), (S88.mk false (t5.set ((w64 (Int.tdiv a2 4)).toNat) (a0_0.length : Int)))] : List S88)), (w64 ((a0_0.length : Int) + 1)))) else none else none else none else none else none else none else none else bif decide (0 ≤ (Int.tmod a2 4)) then bif decide ((Int.tmod a2 4) < ((List.replicate 4 z3).length : Int)) then bif decide (0 ≤ (w64 (Int.tdiv a2 4))) then bif decide ((w64 (Int.tdiv a2 4)) < (t5.length : Int)) then bif decide (t1.length + ([(S88.mk true ((List.replicate 4 z3).set ((Int.tmod a2 4).toNat) a3)), (S88.mk false (t5.set ((w64 (Int.tdiv a2 4)).toNat) (a0_0.length : Int)))] : List S88).length ≤ 4398046511104) then some (impl_PutAt.e ((t1 ++ ([(S88.mk true ((List.replicate 4 z3).set ((Int.tmod a2 4).toNat) a3)), (S88.mk false (t5.set ((w64 (Int.tdiv a2 4)).toNat) (a0_0.length : Int)))] : List S88)), (w64 ((a0_0.length : Int) + 1)))) else none else none else none else none else none else none else none else none else none else bif decide (0 ≤ (w64 (Int.tdiv a2 4))) then bif decide ((w64 (Int.tdiv a2 4)) < (([(-1), (-1), (-1), (-1)] : List Int).length : Int)) then bif decide ((rd_T3 ([(-1), (-1), (-1), (-1)] : List Int) (w64 (Int.tdiv a2 4))) ≥ 0) then bif decide (0 ≤ (rd_T3 ([(-1), (-1), (-1), (-1)] : List Int) (w64 (Int.tdiv a2 4)))) then bif decide ((rd_T3 ([(-1), (-1), (-1), (-1)] : List Int) (w64 (Int.tdiv a2 4))) < (a0_0.length : Int)) then (impl_copyInts.f k ((rd_T88 a0_0 (rd_T3 ([(-1), (-1), (-1), (-1)] : List Int) (w64 (Int.tdiv a2 4)))).f1)).bind fun t7 => bif decide (0 ≤ (Int.tmod a2 4)) then bif decide ((Int.tmod a2 4) < (t7.length : Int)) then bif decide (0 ≤ (w64 (Int.tdiv a2 4))) then bif decide ((w64 (Int.tdiv a2 4)) < (([(-1), (-1), (-1), (-1)] : List Int).length : Int)) then bif decide (t1.length + ([(S88.mk true (t7.set ((Int.tmod a2 4).toNat) a3)), (S88.mk false (([(-1), (-1), (-1), (-1)] : List Int).set ((w64 (Int.tdiv a2 4)).toNat) (a0_0.length : Int)))] : List S88).length ≤ 4398046511104) then some (impl_PutAt.e ((t1 ++ ([(S88.mk true (t7.set ((Int.tmod a2 4).toNat) a3)), (S88.mk false (([(-1), (-1), (-1), (-1)] : List Int).set ((w64 (Int.tdiv a2 4)).toNat) (a0_0.length : Int)))] : List S88)), (w64 ((a0_0.length : Int) + 1)))) else none else none else none else none else none else none else none else bif decide (0 ≤ (Int.tmod a2 4)) then bif decide ((Int.tmod a2 4) < ((List.replicate 4 z3).length : Int)) then bif decide (0 ≤ (w64 (Int.tdiv a2 4))) then bif decide ((w64 (Int.tdiv a2 4)) < (([(-1), (-1), (-1), (-1)] : List Int).length : Int)) then bif decide (t1.length + ([(S88.mk true ((List.replicate 4 z3).set ((Int.tmod a2 4).toNat) a3)), (S88.mk false (([(-1), (-1), (-1), (-1)] : List Int).set ((w64 (Int.tdiv a2 4)).toNat) (a0_0.length : Int)))] : List S88).length ≤ 4398046511104) then some (impl_PutAt.e ((t1 ++ ([(S88.mk true ((List.replicate 4 z3).set ((Int.tmod a2 4).toNat) a3)), (S88.mk false (([(-1), (-1), (-1), (-1)] : List Int).set ((w64 (Int.tdiv a2 4)).toNat) (a0_0.length : Int)))] : List S88)), (w64 ((a0_0.length : Int) + 1)))) else none else none else none else none else none else none else none else (impl_in.f k a2 0 15).bind fun t8 => bif !t8 then some (impl_PutAt.e (t1, a1)) else bif decide (a3 < 0) then some (impl_PutAt.e (t1, a1)) else (impl_ArenaOk.f k a0_0).bind fun t9 => bif !t9 then some (impl_PutAt.e (t1, a1)) else bif decide (a1 ≥ 0) then bif decide (0 ≤ a1) then bif decide (a1 < (a0_0.length : Int)) then (impl_copyInts.f k ((rd_T88 a0_0 a1).f1)).bind fun t10 => bif decide (0 ≤ (w64 (Int.tdiv a2 4))) then bif decide ((w64 (Int.tdiv a2 4)) < (t10.length : Int)) then bif decide ((rd_T3 t10 (w64 (Int.tdiv a2 4))) ≥ 0) then bif decide (0 ≤ (rd_T3 t10 (w64 (Int.tdiv a2 4)))) then bif decide ((rd_T3 t10 (w64 (Int.tdiv a2 4))) < (a0_0.length : Int)) then (impl_copyInts.f k ((rd_T88 a0_0 (rd_T3 t10 (w64 (Int.tdiv a2 4)))).f1)).bind fun t11 => bif decide (0 ≤ (Int.tmod a2 4)) then bif decide ((Int.tmod a2 4) < (t11.length : Int)) then bif decide (0 ≤ (w64 (Int.tdiv a2 4))) then bif decide ((w64 (Int.tdiv a2 4)) < (t10.length : Int)) then bif decide (t1.length + ([(S88.mk true (t11.set ((Int.tmod a2 4).toNat) a3)), (S88.mk false (t10.set ((w64 (Int.tdiv a2 4)).toNat) (a0_0.length : Int)))] : List S88).length ≤ 4398046511104) then some (impl_PutAt.e ((t1 ++ ([(S88.mk true (t11.set ((Int.tmod a2 4).toNat) a3)), (S88.mk false (t10.set ((w64 (Int.tdiv a2 4)).toNat) (a0_0.length : Int)))] : List S88)), (w64 ((a0_0.length : Int) + 1)))) else none else none else none else none else none else none else none else bif decide (0 ≤ (Int.tmod a2 4)) then bif decide ((Int.tmod a2 4) < ((List.replicate 4 z3).length : Int)) then bif decide (0 ≤ (w64 (Int.tdiv a2 4))) then bif decide ((w64 (Int.tdiv a2 4)) < (t10.length : Int)) then bif decide (t1.length + ([(S88.mk true ((List.replicate 4 z3).set ((Int.tmod a2 4).toNat) a3)), (S88.mk false (t10.set ((w64 (Int.tdiv a2 4)).toNat) (a0_0.length : Int)))] : List S88).length ≤ 4398046511104) then some (impl_PutAt.e ((t1 ++ ([(S88.mk true ((List.replicate 4 z3).set ((Int.tmod a2 4).toNat) a3)), (S88.mk false (t10.set ((w64 (Int.tdiv a2 4)).toNat) (a0_0.length : Int)))] : List S88)), (w64 ((a0_0.length : Int) + 1)))) else none else none else none else none else none else none else none else none else none else bif decide (0 ≤ (w64 (Int.tdiv a2 4))) then bif decide ((w64 (Int.tdiv a2 4)) < (([(-1), (-1), (-1), (-1)] : List Int).length : Int)) then bif decide ((rd_T3 ([(-1), (-1), (-1), (-1)] : List Int) (w64 (Int.tdiv a2 4))) ≥ 0) then bif decide (0 ≤ (rd_T3 ([(-1), (-1), (-1), (-1)] : List Int) (w64 (Int.tdiv a2 4)))) then bif decide ((rd_T3 ([(-1), (-1), (-1), (-1)] : List Int) (w64 (Int.tdiv a2 4))) < (a0_0.length : Int)) then (impl_copyInts.f k ((rd_T88 a0_0 (rd_T3 ([(-1), (-1), (-1), (-1)] : List Int) (w64 (Int.tdiv a2 4)))).f1)).bind fun t12 => bif decide (0 ≤ (Int.tmod a2 4)) then bif decide ((Int.tmod a2 4) < (t12.length : Int)) then bif decide (0 ≤ (w64 (Int.tdiv a2 4))) then bif decide ((w64 (Int.tdiv a2 4)) < (([(-1), (-1), (-1), (-1)] : List Int).length : Int)) then bif decide (t1.length + ([(S88.mk true (t12.set ((Int.tmod a2 4).toNat) a3)), (S88.mk false (([(-1), (-1), (-1), (-1)] : List Int).set ((w64 (Int.tdiv a2 4)).toNat) (a0_0.length : Int)))] : List S88).length ≤ 4398046511104) then some (impl_PutAt.e ((t1 ++ ([(S88.mk true (t12.set ((Int.tmod a2 4).toNat) a3)), (S88.mk false (([(-1), (-1), (-1), (-1)] : List Int).set ((w64 (Int.tdiv a2 4)).toNat) (a0_0.length : Int)))] : List S88)), (w64 ((a0_0.length : Int) + 1)))) else none else none else none else none else none else none else none else bif decide (0 ≤ (Int.tmod a2 4)) then bif decide ((Int.tmod a2 4) < ((List.replicate 4 z3).length : Int)) then bif decide (0 ≤ (w64 (Int.tdiv a2 4))) then bif decide ((w64 (Int.tdiv a2 4)) < (([(-1), (-1), (-1), (-1)] : List Int).length : Int)) then bif decide (t1.length + ([(S88.mk true ((List.replicate 4 z3).set ((Int.tmod a2 4).toNat) a3)), (S88.mk false (([(-1), (-1), (-1), (-1)] : List Int).set ((w64 (Int.tdiv a2 4)).toNat) (a0_0.length : Int)))] : List S88).length ≤ 4398046511104) then some (impl_PutAt.e ((t1 ++ ([(S88.mk true ((List.replicate 4 z3).set ((Int.tmod a2 4).toNat) a3)), (S88.mk false (([(-1), (-1), (-1), (-1)] : List Int).set ((w64 (Int.tdiv a2 4)).toNat) (a0_0.length : Int)))] : List S88)), (w64 ((a0_0.length : Int) + 1)))) else none else none else none else none else none else none else none := by kernel_rfl
set_option maxRecDepth 100000 in
theorem impl_PutAt.oke (k : Nat) (a0_0 : List S88) (a1 : Int) (a2 : Int) (a3 : Int) : goF Try.f86 impl_PutAt.ctx impl_PutAt.sp 0 impl_PutAt.en (k + 1) [.code (body Try.f86)] (startSt [.ag [.row 0 .t88 a0_0], .sc (.int .i64 a1), .sc (.int .i64 a2), .sc (.int .i64 a3)] []) = (impl_PutAt.f k a0_0 a1 a2 a3).map impl_PutAt.e := by
  rw [impl_PutAt.f]; exact (impl_PutAt.te _ k a0_0 a1 a2 a3).trans (bn (fun t1 => (nd (bn (fun t2 => (nb rfl (bn (fun t3 => (nb rfl (cd rfl (bn (fun t4 => (nb rfl (cd (cd (cd (bn (fun t5 => (cd (cd (cd (cd (cd (bn (fun t6 => (cd (cd (cd (cd (cd rfl rfl) rfl) rfl) rfl) rfl))) rfl) rfl) (cd (cd (cd (cd (cd rfl rfl) rfl) rfl) rfl) rfl)) rfl) rfl))) rfl) rfl) (cd (cd (cd (cd (cd (bn (fun t7 => (cd (cd (cd (cd (cd rfl rfl) rfl) rfl) rfl) rfl))) rfl) rfl) (cd (cd (cd (cd (cd rfl rfl) rfl) rfl) rfl) rfl)) rfl) rfl)))))))))))) (bn (fun t8 => (nb rfl (cd rfl (bn (fun t9 => (nb rfl (cd (cd (cd (bn (fun t10 => (cd (cd (cd (cd (cd (bn (fun t11 => (cd (cd (cd (cd (cd rfl rfl) rfl) rfl) rfl) rfl))) rfl) rfl) (cd (cd (cd (cd (cd rfl rfl) rfl) rfl) rfl) rfl)) rfl) rfl))) rfl) rfl) (cd (cd (cd (cd (cd (bn (fun t12 => (cd (cd (cd (cd (cd rfl rfl) rfl) rfl) rfl) rfl))) rfl) rfl) (cd (cd (cd (cd (cd rfl rfl) rfl) rfl) rfl) rfl)) rfl) rfl))))))))))))
theorem impl_PutAt.con (k : Nat) (a0_0 : List S88) (a1 : Int) (a2 : Int) (a3 : Int) (r) (h : impl_PutAt.f k a0_0 a1 a2 a3 = some r) : Contract Try.prog kit 86 [.ag [.row 0 .t88 a0_0], .sc (.int .i64 a1), .sc (.int .i64 a2), .sc (.int .i64 a3)] [] (impl_PutAt.e r).1 (impl_PutAt.e r).2.1 (impl_PutAt.e r).2.2 :=
  con_okG kitOk mix (fun k => (CtxOk.cons (impl_ArenaOk.xok k) (CtxOk.cons (impl_in.xok k) (CtxOk.cons (impl_isRoot.xok k) (CtxOk.cons (impl_copyArena.xok k) (CtxOk.cons (impl_copyInts.xok k) CtxOk.nil)))))) (impl_PutAt.oke k a0_0 a1 a2 a3) h (by kernel_rfl) (by kernel_rfl) (by kernel_rfl) rfl (by kernel_rfl) rfl rfl
noncomputable def impl_PutAt.x (k : Nat) : X := fun ins bs κ => match ins, bs with
  | [.ag [.row 0 .t88 a0_0], .sc (.int .i64 a1), .sc (.int .i64 a2), .sc (.int .i64 a3)], [] => (impl_PutAt.f k a0_0 a1 a2 a3).bind fun r => κ (impl_PutAt.e r).1 (impl_PutAt.e r).2.1 (impl_PutAt.e r).2.2
  | _, _ => none
theorem impl_PutAt.xok (k : Nat) : XOk 86 (impl_PutAt.x k) := by
  intro ins bs κ res h
  unfold impl_PutAt.x at h
  split at h
  · obtain ⟨r, hr, h⟩ := Option.bind_eq_some_iff.1 h
    exact ⟨_, _, _, impl_PutAt.con k _ _ _ _ r hr, h⟩
  · cases h
end Go.Proofs.Yteideicglgpfiaa.M2

/- Plain runs of functions: each is a plain Lean function, and keeps its contract. Written by a program of this session. -/
namespace Go.Proofs.Yteideicglgpfiaa.M2
open Go Go.Proofs.Yteideicglgpfiaa.PK
set_option linter.unusedVariables false
set_option linter.unusedSimpArgs false
set_option maxHeartbeats 4000000
/-! ### impl_Store_enter: function 47 -/
noncomputable def impl_Store_enter.sp : Nat → Option (Spec Ty) := fun r => none
noncomputable def impl_Store_enter.en : Option (Spec Ty) := some ⟨[(4, .keep)], [(2, none), (1, none), (0, some [.own .t53, .own .t88, .keep])]⟩
noncomputable def impl_Store_enter.ctx (k : Nat) : Ctx Ty D := (cons 63 (impl_volAt.x k) (cons 85 (impl_Store_create.x k) (cons 86 (impl_PutAt.x k) (fun _ _ _ _ => none))))
noncomputable def impl_Store_enter.f (k : Nat) (a1_0 : Int) (a1_1 : Int) (a1_2 : Int) (a1_3 : Int) (a0_2 : Int) (h0_0 : List S53) (h0_1 : List S88) : Option ((Bool × (List S53) × (List S88) × Int × (List S53) × (List S88)) ⊕ (Bool × (List S53) × (List S88) × Int) ⊕ (Bool × (List S53) × (List S88) × Int) ⊕ (Bool × (List S53) × (List S88) × Int × (List S53)) ⊕ (Bool × (List S53) × (List S88) × Int × (List S88))) := (if a1_0 = 1 then (some (.inl (true, ([] : List S53), ([] : List S88), (maxI a1_2 1), h0_0, h0_1))) else (if a1_0 = 2 then ((impl_Store_create.f k a1_1 a1_2 a0_2 h0_0 h0_1).bind (Sum.elim (fun t2 => (some (.inr (.inl (t2.1, t2.2.1, t2.2.2.1, t2.2.2.2))))) (fun t3 => (some (.inr (.inr (.inl (t3.1, t3.2.1, t3.2.2.1, t3.2.2.2)))))))) else ((impl_volAt.f k h0_0 h0_1 a0_2 a1_1).bind fun t4 => (if t4 < 0 then (some (.inr (.inl (false, h0_0, h0_1, a0_2)))) else (if a1_3 = 1000000000 then (some (.inr (.inl (false, h0_0, h0_1, a0_2)))) else (if a1_0 = 3 then (if 0 ≤ t4 then (if t4 ≤ (h0_0.length : Int) then (if ([] : List S53).length + ((h0_0.drop 0).take (t4.toNat - 0)).length ≤ 8796093022208 then (if 0 ≤ (w64 (t4 + 1)) then (if (w64 (t4 + 1)) ≤ (h0_0.length : Int) then (if (([] : List S53) ++ ((h0_0.drop 0).take (t4.toNat - 0))).length + ((h0_0.drop ((w64 (t4 + 1)).toNat)).take (h0_0.length - (w64 (t4 + 1)).toNat)).length ≤ 8796093022208 then (some (.inr (.inr (.inr (.inl (true, ((([] : List S53) ++ ((h0_0.drop 0).take (t4.toNat - 0))) ++ ((h0_0.drop ((w64 (t4 + 1)).toNat)).take (h0_0.length - (w64 (t4 + 1)).toNat))), h0_1, a0_2, h0_0)))))) else none) else none) else none) else none) else none) else none) else (if 0 ≤ t4 then (if t4 < (h0_0.length : Int) then ((impl_PutAt.f k h0_1 ((rd_T53 h0_0 t4).f1) a1_2 a1_3).bind fun t5 => (if 0 ≤ t4 then (if t4 < (h0_0.length : Int) then (some (.inr (.inr (.inr (.inr (true, (h0_0.set t4.toNat (S53.mk ((rd_T53 h0_0 t4).f0) t5.2)), t5.1, (maxI a0_2 (w64 (a1_3 + 1))), h0_1)))))) else none) else none)) else none) else none)))))))
noncomputable def impl_Store_enter.e : (Bool × (List S53) × (List S88) × Int × (List S53) × (List S88)) ⊕ (Bool × (List S53) × (List S88) × Int) ⊕ (Bool × (List S53) × (List S88) × Int) ⊕ (Bool × (List S53) × (List S88) × Int × (List S53)) ⊕ (Bool × (List S53) × (List S88) × Int × (List S88)) → Res Ty D := (Sum.elim (fun r => (.sc (.bool r.1), [some (.box [.sl 3 none, .sl 4 none, .sc (.int .i64 r.2.2.2.1)]), some (.rowb .t53 r.2.2.2.2.1 0), some (.rowb .t88 r.2.2.2.2.2 0)], [.rowb .t53 r.2.1 0, .rowb .t88 r.2.2.1 0])) (Sum.elim (fun r => (.sc (.bool r.1), [some (.box [.sl 1 none, .sl 2 none, .sc (.int .i64 r.2.2.2)]), some (.rowb .t53 r.2.1 0), some (.rowb .t88 r.2.2.1 0)], [])) (Sum.elim (fun r => (.sc (.bool r.1), [some (.box [.sl 3 none, .sl 2 none, .sc (.int .i64 r.2.2.2)]), none, some (.rowb .t88 r.2.2.1 0)], [.rowb .t53 r.2.1 0])) (Sum.elim (fun r => (.sc (.bool r.1), [some (.box [.sl 3 none, .sl 2 none, .sc (.int .i64 r.2.2.2.1)]), some (.rowb .t53 r.2.2.2.2 0), some (.rowb .t88 r.2.2.1 0)], [.rowb .t53 r.2.1 0])) (fun r => (.sc (.bool r.1), [some (.box [.sl 1 none, .sl 3 none, .sc (.int .i64 r.2.2.2.1)]), some (.rowb .t53 r.2.1 0), some (.rowb .t88 r.2.2.2.2 0)], [.rowb .t88 r.2.2.1 0]))))))
noncomputable abbrev impl_Store_enter.g (rec : List Item → St Ty D → R) (k : Nat) := go1 Try.f47 (impl_Store_enter.ctx k) impl_Store_enter.sp 3 impl_Store_enter.en rec
set_option maxRecDepth 100000 in
theorem impl_Store_enter.te (rec : List Item → St Ty D → R) (k : Nat) (a1_0 : Int) (a1_1 : Int) (a1_2 : Int) (a1_3 : Int) (a0_2 : Int) (h0_0 : List S53) (h0_1 : List S88) : impl_Store_enter.g rec k [.code (body Try.f47)] (startSt [.pt 0 0 0, .ag [.sc (.int .i64 a1_0), .sc (.int .i64 a1_1), .sc (.int .i64 a1_2), .sc (.int .i64 a1_3)]] [.box [.sl 1 none, .sl 2 none, .sc (.int .i64 a0_2)], .rowb .t53 h0_0 0, .rowb .t88 h0_1 0]) =
  bif decide (a1_0 = 1) then some (impl_Store_enter.e (.inl (true, ([] : List S53), ([] : List S88), (maxI a1_2 1), h0_0, h0_1))) else bif decide (a1_0 = 2) then (impl_Store_create.f k a1_1 a1_2 a0_2 h0_0 h0_1).bind (Sum.elim (fun t2 => some (impl_Store_enter.e (.inr (.inl (t2.1, t2.2.1, t2.2.2.1, t2.2.2.2))))) (fun t3 => some (impl_Store_enter.e (.inr (.inr (.inl (t3.1, t3.2.1, t3.2.2.1, t3.2.2.2))))))) else (impl_volAt.f k h0_0 h0_1 a0_2 a1_1).bind fun t4 => bif decide (t4 < 0) then some (impl_Store_enter.e (.inr (.inl (false, h0_0, h0_1, a0_2)))) else bif decide (a1_3 = 1000000000) then some (impl_Store_enter.e (.inr (.inl (false, h0_0, h0_1, a0_2)))) else bif decide (a1_0 = 3) then bif decide (0 ≤ t4) then bif decide (t4 ≤ (h0_0.length : Int)) then bif decide (([] : List S53).length + ((h0_0.drop 0).take (t4.toNat - 0)).length ≤ 8796093022208) then bif decide (0 ≤ (w64 (t4 + 1))) then bif decide ((w64 (t4 + 1)) ≤ (h0_0.length : Int)) then bif decide ((([] : List S53) ++ ((h0_0.drop 0).take (t4.toNat - 0))).length + ((h0_0.drop ((w64 (t4 + 1)).toNat)).take (h0_0.length - (w64 (t4 + 1)).toNat)).length ≤ 8796093022208) then some (impl_Store_enter.e (.inr (.inr (.inr (.inl (true, ((([] : List S53) ++ ((h0_0.drop 0).take (t4.toNat - 0))) ++ ((h0_0.drop ((w64 (t4 + 1)).toNat)).take (h0_0.length - (w64 (t4 + 1)).toNat))), h0_1, a0_2, h0_0)))))) else none else none else none else none else none else none else bif decide (0 ≤ t4) then bif decide (t4 < (h0_0.length : Int)) then (impl_PutAt.f k h0_1 ((rd_T53 h0_0 t4).f1) a1_2 a1_3).bind fun t5 => bif decide (0 ≤ t4) then bif decide (t4 < (h0_0.length : Int)) then some (impl_Store_enter.e (.inr (.inr (.inr (.inr (true, (h0_0.set t4.toNat (S53.mk ((rd_T53 h0_0 t4).f0) t5.2)), t5.1, (maxI a0_2 (w64 (a1_3 + 1))), h0_1)))))) else none else none else none else none := by kernel_rfl
set_option maxRecDepth 100000 in
theorem impl_Store_enter.oke (k : Nat) (a1_0 : Int) (a1_1 : Int) (a1_2 : Int) (a1_3 : Int) (a0_2 : Int) (h0_0 : List S53) (h0_1 : List S88) : goF Try.f47 impl_Store_enter.ctx impl_Store_enter.sp 3 impl_Store_enter.en (k + 1) [.code (body Try.f47)] (startSt [.pt 0 0 0, .ag [.sc (.int .i64 a1_0), .sc (.int .i64 a1_1), .sc (.int .i64 a1_2), .sc (.int .i64 a1_3)]] [.box [.sl 1 none, .sl 2 none, .sc (.int .i64 a0_2)], .rowb .t53 h0_0 0, .rowb .t88 h0_1 0]) = (impl_Store_enter.f k a1_0 a1_1 a1_2 a1_3 a0_2 h0_0 h0_1).map impl_Store_enter.e := by
  rw [impl_Store_enter.f]; exact (impl_Store_enter.te _ k a1_0 a1_1 a1_2 a1_3 a0_2 h0_0 h0_1).trans (cd rfl (cd (bn (el (fun t2 => rfl) (fun t3 => rfl))) (bn (fun t4 => (cd rfl (cd rfl (cd (cd (cd (cd (cd (cd (cd rfl rfl) rfl) rfl) rfl) rfl) rfl) (cd (cd (bn (fun t5 => (cd (cd rfl rfl) rfl))) rfl) rfl))))))))
theorem impl_Store_enter.con (k : Nat) (a1_0 : Int) (a1_1 : Int) (a1_2 : Int) (a1_3 : Int) (a0_2 : Int) (h0_0 : List S53) (h0_1 : List S88) (r) (h : impl_Store_enter.f k a1_0 a1_1 a1_2 a1_3 a0_2 h0_0 h0_1 = some r) : Contract Try.prog kit 47 [.pt 0 0 0, .ag [.sc (.int .i64 a1_0), .sc (.int .i64 a1_1), .sc (.int .i64 a1_2), .sc (.int .i64 a1_3)]] [.box [.sl 1 none, .sl 2 none, .sc (.int .i64 a0_2)], .rowb .t53 h0_0 0, .rowb .t88 h0_1 0] (impl_Store_enter.e r).1 (impl_Store_enter.e r).2.1 (impl_Store_enter.e r).2.2 :=
  con_okG kitOk mix (fun k => (CtxOk.cons (impl_volAt.xok k) (CtxOk.cons (impl_Store_create.xok k) (CtxOk.cons (impl_PutAt.xok k) CtxOk.nil)))) (impl_Store_enter.oke k a1_0 a1_1 a1_2 a1_3 a0_2 h0_0 h0_1) h (by kernel_rfl) (by kernel_rfl) (by kernel_rfl) rfl (by kernel_rfl) rfl (by rcases r with r | r | r | r | r <;> rfl)
noncomputable def impl_Store_enter.x (k : Nat) : X := fun ins bs κ => match ins, bs with
  | [.pt 0 0 0, .ag [.sc (.int .i64 a1_0), .sc (.int .i64 a1_1), .sc (.int .i64 a1_2), .sc (.int .i64 a1_3)]], [.box [.sl 1 none, .sl 2 none, .sc (.int .i64 a0_2)], .rowb .t53 h0_0 0, .rowb .t88 h0_1 0] => (impl_Store_enter.f k a1_0 a1_1 a1_2 a1_3 a0_2 h0_0 h0_1).bind (Sum.elim (fun r => κ (impl_Store_enter.e (.inl r)).1 (impl_Store_enter.e (.inl r)).2.1 (impl_Store_enter.e (.inl r)).2.2) (Sum.elim (fun r => κ (impl_Store_enter.e (.inr (.inl r))).1 (impl_Store_enter.e (.inr (.inl r))).2.1 (impl_Store_enter.e (.inr (.inl r))).2.2) (Sum.elim (fun r => κ (impl_Store_enter.e (.inr (.inr (.inl r)))).1 (impl_Store_enter.e (.inr (.inr (.inl r)))).2.1 (impl_Store_enter.e (.inr (.inr (.inl r)))).2.2) (Sum.elim (fun r => κ (impl_Store_enter.e (.inr (.inr (.inr (.inl r))))).1 (impl_Store_enter.e (.inr (.inr (.inr (.inl r))))).2.1 (impl_Store_enter.e (.inr (.inr (.inr (.inl r))))).2.2) (fun r => κ (impl_Store_enter.e (.inr (.inr (.inr (.inr r))))).1 (impl_Store_enter.e (.inr (.inr (.inr (.inr r))))).2.1 (impl_Store_enter.e (.inr (.inr (.inr (.inr r))))).2.2)))))
  | _, _ => none
theorem impl_Store_enter.xok (k : Nat) : XOk 47 (impl_Store_enter.x k) := by
  intro ins bs κ res h
  unfold impl_Store_enter.x at h
  split at h
  · obtain ⟨r, hr, h⟩ := Option.bind_eq_some_iff.1 h
    rcases r with r | r | r | r | r
    · exact ⟨_, _, _, impl_Store_enter.con k _ _ _ _ _ _ _ _ hr, h⟩
    · exact ⟨_, _, _, impl_Store_enter.con k _ _ _ _ _ _ _ _ hr, h⟩
    · exact ⟨_, _, _, impl_Store_enter.con k _ _ _ _ _ _ _ _ hr, h⟩
    · exact ⟨_, _, _, impl_Store_enter.con k _ _ _ _ _ _ _ _ hr, h⟩
    · exact ⟨_, _, _, impl_Store_enter.con k _ _ _ _ _ _ _ _ hr, h⟩
  · cases h

/-! ### impl_SweepArena: function 87 -/
noncomputable def impl_SweepArena.sp : Nat → Option (Spec Ty) := fun r => bif Nat.beq r 4 then some ⟨[(1, .keep), (2, .box [.keep]), (4, .box [.own .t88]), (6, .own .t3), (7, .own .t3), (21, .keep), (22, .keep), (23, .keep)], []⟩ else bif Nat.beq r 15 then some ⟨[(1, .keep), (4, .box [.own .t88]), (6, .own .t3), (7, .own .t3), (10, .box [.own .t88]), (11, .own .t3), (55, .keep), (56, .keep), (57, .keep)], []⟩ else bif Nat.beq r 21 then some ⟨[(1, .keep), (4, .box [.own .t88]), (6, .own .t3), (7, .own .t3), (10, .box [.own .t88]), (11, .own .t3), (13, .box [.keep, .keep]), (14, .box [.keep, .own .t3]), (55, .keep), (56, .keep), (57, .keep), (79, .keep), (80, .keep), (81, .keep)], []⟩ else bif Nat.beq r 29 then some ⟨[(4, .box [.own .t88]), (6, .own .t3), (10, .box [.own .t88]), (11, .own .t3), (109, .keep), (110, .keep), (111, .keep)], []⟩ else none
noncomputable def impl_SweepArena.en : Option (Spec Ty) := some ⟨[(4, .box [.own .t88]), (5, .own .t3)], []⟩
noncomputable def impl_SweepArena.s4 (x1 : List Int) (x21 : List Int) (x22 : Int) (x23 : Int) (h64_0 : List S88) (h66 : List S88) (h67 : List Int) (h68 : List Int) : St Ty D := ⟨(Env.put (Env.put (Env.put (Env.put (Env.put (Env.put (Env.put (Env.put E (some 1) (.row 0 .t3 x1)) (some 2) (.pt 64 0 0)) (some 4) (.pt 65 0 0)) (some 6) (.sl 67 none)) (some 7) (.sl 68 none)) (some 21) (.row 0 .t3 x21)) (some 22) (.sc (.int .i64 x22))) (some 23) (.sc (.int .i64 x23))), Heap.put H0 [(64, some (.box [.row 0 .t88 h64_0])), (66, some (.rowb .t88 h66 0)), (65, some (.box [.sl 66 none])), (67, some (.rowb .t3 h67 0)), (68, some (.rowb .t3 h68 0))], 1000⟩
noncomputable def impl_SweepArena.s15 (x1 : List Int) (x55 : List S88) (x56 : Int) (x57 : Int) (h65 : List S88) (h66 : List Int) (h67 : List Int) (h69 : List S88) (h70 : List Int) : St Ty D := ⟨(Env.put (Env.put (Env.put (Env.put (Env.put (Env.put (Env.put (Env.put (Env.put E (some 1) (.row 0 .t3 x1)) (some 4) (.pt 64 0 0)) (some 6) (.sl 66 none)) (some 7) (.sl 67 none)) (some 10) (.pt 68 0 0)) (some 11) (.sl 70 none)) (some 55) (.row 0 .t88 x55)) (some 56) (.sc (.int .i64 x56))) (some 57) (.sc (.int .i64 x57))), Heap.put H0 [(65, some (.rowb .t88 h65 0)), (64, some (.box [.sl 65 none])), (66, some (.rowb .t3 h66 0)), (67, some (.rowb .t3 h67 0)), (69, some (.rowb .t88 h69 0)), (68, some (.box [.sl 69 none])), (70, some (.rowb .t3 h70 0))], 1000⟩
noncomputable def impl_SweepArena.s21 (x1 : List Int) (x55 : List S88) (x56 : Int) (x57 : Int) (x79 : List Int) (x80 : Int) (x81 : Int) (h65 : List S88) (h66 : List Int) (h67 : List Int) (h69 : List S88) (h70 : List Int) (h71_0 : Bool) (h71_1 : List Int) (h73 : List Int) (h72_0 : Bool) : St Ty D := ⟨(Env.put (Env.put (Env.put (Env.put (Env.put (Env.put (Env.put (Env.put (Env.put (Env.put (Env.put (Env.put (Env.put (Env.put E (some 1) (.row 0 .t3 x1)) (some 4) (.pt 64 0 0)) (some 6) (.sl 66 none)) (some 7) (.sl 67 none)) (some 10) (.pt 68 0 0)) (some 11) (.sl 70 none)) (some 13) (.pt 71 0 0)) (some 14) (.pt 72 0 0)) (some 55) (.row 0 .t88 x55)) (some 56) (.sc (.int .i64 x56))) (some 57) (.sc (.int .i64 x57))) (some 79) (.row 0 .t3 x79)) (some 80) (.sc (.int .i64 x80))) (some 81) (.sc (.int .i64 x81))), Heap.put H0 [(65, some (.rowb .t88 h65 0)), (64, some (.box [.sl 65 none])), (66, some (.rowb .t3 h66 0)), (67, some (.rowb .t3 h67 0)), (69, some (.rowb .t88 h69 0)), (68, some (.box [.sl 69 none])), (70, some (.rowb .t3 h70 0)), (71, some (.box [.sc (.bool h71_0), .row 0 .t3 h71_1])), (73, some (.rowb .t3 h73 0)), (72, some (.box [.sc (.bool h72_0), .sl 73 none]))], 1000⟩
noncomputable def impl_SweepArena.s29 (x109 : List Int) (x110 : Int) (x111 : Int) (h65 : List S88) (h66 : List Int) (h68 : List S88) (h69 : List Int) : St Ty D := ⟨(Env.put (Env.put (Env.put (Env.put (Env.put (Env.put (Env.put E (some 4) (.pt 64 0 0)) (some 6) (.sl 66 none)) (some 10) (.pt 67 0 0)) (some 11) (.sl 69 none)) (some 109) (.row 0 .t3 x109)) (some 110) (.sc (.int .i64 x110))) (some 111) (.sc (.int .i64 x111))), Heap.put H0 [(65, some (.rowb .t88 h65 0)), (64, some (.box [.sl 65 none])), (66, some (.rowb .t3 h66 0)), (68, some (.rowb .t88 h68 0)), (67, some (.box [.sl 68 none])), (69, some (.rowb .t3 h69 0))], 1000⟩
noncomputable def impl_SweepArena.ctx (k : Nat) : Ctx Ty D := (cons 67 (impl_ArenaOk.x k) (cons 69 (impl_isRoot.x k) (cons 70 (impl_knotsOf.x k) (cons 71 (impl_hasInt.x k) (cons 84 (impl_copyArena.x k) (cons 99 (impl_copyInts.x k) (fun _ _ _ _ => none)))))))
mutual
noncomputable def impl_SweepArena.c4 : Nat → (List Int) → (List Int) → Int → Int → (List S88) → (List S88) → (List Int) → (List Int) → Option ((List S88) × (List Int))
  | 0, _, _, _, _, _, _, _, _ => none
  | k + 1, x1, x21, x22, x23, h64_0, h66, h67, h68 => (if x23 < x22 then (if 0 ≤ x23 then (if x23 < (x21.length : Int) then (if (rd_T3 x21 x23) = (-1) then ((impl_knotsOf.f k h64_0 (rd_T3 x21 x23)).bind fun t5 => (if h68.length + t5.length ≤ 17592186044416 then (impl_SweepArena.c4 k x1 x21 x22 (w64 (x23 + 1)) h64_0 h66 h67 (h68 ++ t5)) else none)) else ((impl_isRoot.f k h64_0 (rd_T3 x21 x23)).bind fun t2 => (if t2 = true then ((impl_knotsOf.f k h64_0 (rd_T3 x21 x23)).bind fun t4 => (if h68.length + t4.length ≤ 17592186044416 then (impl_SweepArena.c4 k x1 x21 x22 (w64 (x23 + 1)) h64_0 h66 h67 (h68 ++ t4)) else none)) else ((impl_copyArena.f k h64_0).bind fun t3 => (some (t3, h67)))))) else none) else none) else ((impl_ArenaOk.f k h64_0).bind fun t6 => (if t6 = true then (if 0 ≤ (h64_0.length : Int) then (if (h64_0.length : Int).toNat ≤ 35184372088832 then (impl_SweepArena.c15 k x1 h64_0 (h64_0.length : Int) 0 h66 h67 h68 ([] : List S88) (List.replicate ((h64_0.length : Int).toNat) z3)) else none) else none) else ((impl_copyArena.f k h64_0).bind fun t7 => (some (t7, h67))))))
noncomputable def impl_SweepArena.c15 : Nat → (List Int) → (List S88) → Int → Int → (List S88) → (List Int) → (List Int) → (List S88) → (List Int) → Option ((List S88) × (List Int))
  | 0, _, _, _, _, _, _, _, _, _ => none
  | k + 1, x1, x55, x56, x57, h65, h66, h67, h69, h70 => (if x57 < x56 then (if 0 ≤ x57 then (if x57 < (x55.length : Int) then ((impl_hasInt.f k h67 x57).bind fun t8 => (if t8 = true then (if 0 ≤ x57 then (if x57 < (h70.length : Int) then ((impl_copyInts.f k ((rd_T88 x55 x57).f1)).bind fun t9 => (impl_SweepArena.c21 k x1 x55 x56 x57 ((rd_T88 x55 x57).f1) (((rd_T88 x55 x57).f1).length : Int) 0 h65 h66 h67 h69 (h70.set x57.toNat (h69.length : Int)) ((rd_T88 x55 x57).f0) ((rd_T88 x55 x57).f1) t9 ((rd_T88 x55 x57).f0))) else none) else none) else (impl_SweepArena.c15 k x1 x55 x56 (w64 (x57 + 1)) h65 h66 h67 h69 h70))) else none) else none) else (impl_SweepArena.c29 k x1 (x1.length : Int) 0 h65 h66 h69 h70))
noncomputable def impl_SweepArena.c21 : Nat → (List Int) → (List S88) → Int → Int → (List Int) → Int → Int → (List S88) → (List Int) → (List Int) → (List S88) → (List Int) → Bool → (List Int) → (List Int) → Bool → Option ((List S88) × (List Int))
  | 0, _, _, _, _, _, _, _, _, _, _, _, _, _, _, _, _ => none
  | k + 1, x1, x55, x56, x57, x79, x80, x81, h65, h66, h67, h69, h70, h71_0, h71_1, h73, h72_0 => (if x81 < x80 then (if 0 ≤ x81 then (if x81 < (x79.length : Int) then (if h71_0 = true then (impl_SweepArena.c21 k x1 x55 x56 x57 x79 x80 (w64 (x81 + 1)) h65 h66 h67 h69 h70 h71_0 h71_1 h73 h72_0) else (if (rd_T3 x79 x81) ≥ 0 then (if 0 ≤ (rd_T3 x79 x81) then (if (rd_T3 x79 x81) < (h70.length : Int) then (if 0 ≤ x81 then (if x81 < (h73.length : Int) then (impl_SweepArena.c21 k x1 x55 x56 x57 x79 x80 (w64 (x81 + 1)) h65 h66 h67 h69 h70 h71_0 h71_1 (h73.set x81.toNat (rd_T3 h70 (rd_T3 x79 x81))) h72_0) else none) else none) else none) else none) else (impl_SweepArena.c21 k x1 x55 x56 x57 x79 x80 (w64 (x81 + 1)) h65 h66 h67 h69 h70 h71_0 h71_1 h73 h72_0))) else none) else none) else (if h69.length + ([(S88.mk h72_0 h73)] : List S88).length ≤ 4398046511104 then (impl_SweepArena.c15 k x1 x55 x56 (w64 (x57 + 1)) h65 h66 h67 (h69 ++ ([(S88.mk h72_0 h73)] : List S88)) h70) else none))
noncomputable def impl_SweepArena.c29 : Nat → (List Int) → Int → Int → (List S88) → (List Int) → (List S88) → (List Int) → Option ((List S88) × (List Int))
  | 0, _, _, _, _, _, _, _ => none
  | k + 1, x109, x110, x111, h65, h66, h68, h69 => (if x111 < x110 then (if 0 ≤ x111 then (if x111 < (x109.length : Int) then (if (rd_T3 x109 x111) ≥ 0 then (if 0 ≤ (rd_T3 x109 x111) then (if (rd_T3 x109 x111) < (h69.length : Int) then (if 0 ≤ x111 then (if x111 < (h66.length : Int) then (impl_SweepArena.c29 k x109 x110 (w64 (x111 + 1)) h65 (h66.set x111.toNat (rd_T3 h69 (rd_T3 x109 x111))) h68 h69) else none) else none) else none) else none) else (impl_SweepArena.c29 k x109 x110 (w64 (x111 + 1)) h65 h66 h68 h69)) else none) else none) else (some (h68, h66)))
end
noncomputable def impl_SweepArena.f (k : Nat) (a0_0 : List S88) (a1 : List Int) : Option ((List S88) × (List Int)) := ((impl_copyInts.f k a1).bind fun t1 => (impl_SweepArena.c4 k a1 a1 (a1.length : Int) 0 a0_0 ([] : List S88) t1 ([] : List Int)))
noncomputable def impl_SweepArena.e (r : (List S88) × (List Int)) : Res Ty D := (.tu [.ag [.sl 0 none], .sl 1 none], [], [.rowb .t88 r.1 0, .rowb .t3 r.2 0])
noncomputable abbrev impl_SweepArena.g (rec : List Item → St Ty D → R) (k : Nat) := go1 Try.f87 (impl_SweepArena.ctx k) impl_SweepArena.sp 0 impl_SweepArena.en rec
set_option maxRecDepth 100000 in
theorem impl_SweepArena.t4 (rec : List Item → St Ty D → R) (k : Nat) (x1 : List Int) (x21 : List Int) (x22 : Int) (x23 : Int) (h64_0 : List S88) (h66 : List S88) (h67 : List Int) (h68 : List Int) : impl_SweepArena.g rec k (td Try.f87 4) (impl_SweepArena.s4 x1 x21 x22 x23 h64_0 h66 h67 h68) =
  bif decide (x23 < x22) then bif decide (0 ≤ x23) then bif decide (x23 < (x21.length : Int)) then bif !decide ((rd_T3 x21 x23) = (-1)) then (impl_isRoot.f k h64_0 (rd_T3 x21 x23)).bind fun t2 => bif !t2 then (impl_copyArena.f k h64_0).bind fun t3 => some (impl_SweepArena.e (t3, h67)) else (impl_knotsOf.f k h64_0 (rd_T3 x21 x23)).bind fun t4 => bif decide (h68.length + t4.length ≤ 17592186044416) then rec (td Try.f87 4) (impl_SweepArena.s4 x1 x21 x22 (w64 (x23 + 1)) h64_0 h66 h67 (h68 ++ t4)) else none else (impl_knotsOf.f k h64_0 (rd_T3 x21 x23)).bind fun t5 => bif decide (h68.length + t5.length ≤ 17592186044416) then rec (td Try.f87 4) (impl_SweepArena.s4 x1 x21 x22 (w64 (x23 + 1)) h64_0 h66 h67 (h68 ++ t5)) else none else none else none else (impl_ArenaOk.f k h64_0).bind fun t6 => bif !t6 then (impl_copyArena.f k h64_0).bind fun t7 => some (impl_SweepArena.e (t7, h67)) else bif decide ((h64_0.length : Int) = (h64_0.length : Int)) then bif decide (0 ≤ (h64_0.length : Int)) then bif decide ((h64_0.length : Int).toNat ≤ 35184372088832) then rec (td Try.f87 15) (impl_SweepArena.s15 x1 h64_0 (h64_0.length : Int) 0 h66 h67 h68 ([] : List S88) (List.replicate ((h64_0.length : Int).toNat) z3)) else none else none else none := by kernel_rfl
set_option maxRecDepth 100000 in
theorem impl_SweepArena.t15 (rec : List Item → St Ty D → R) (k : Nat) (x1 : List Int) (x55 : List S88) (x56 : Int) (x57 : Int) (h65 : List S88) (h66 : List Int) (h67 : List Int) (h69 : List S88) (h70 : List Int) : impl_SweepArena.g rec k (td Try.f87 15) (impl_SweepArena.s15 x1 x55 x56 x57 h65 h66 h67 h69 h70) =
  bif decide (x57 < x56) then bif decide (0 ≤ x57) then bif decide (x57 < (x55.length : Int)) then (impl_hasInt.f k h67 x57).bind fun t8 => bif !t8 then rec (td Try.f87 15) (impl_SweepArena.s15 x1 x55 x56 (w64 (x57 + 1)) h65 h66 h67 h69 h70) else bif decide (0 ≤ x57) then bif decide (x57 < (h70.length : Int)) then (impl_copyInts.f k ((rd_T88 x55 x57).f1)).bind fun t9 => rec (td Try.f87 21) (impl_SweepArena.s21 x1 x55 x56 x57 ((rd_T88 x55 x57).f1) (((rd_T88 x55 x57).f1).length : Int) 0 h65 h66 h67 h69 (h70.set x57.toNat (h69.length : Int)) ((rd_T88 x55 x57).f0) ((rd_T88 x55 x57).f1) t9 ((rd_T88 x55 x57).f0)) else none else none else none else none else rec (td Try.f87 29) (impl_SweepArena.s29 x1 (x1.length : Int) 0 h65 h66 h69 h70) := by kernel_rfl
set_option maxRecDepth 100000 in
theorem impl_SweepArena.t21 (rec : List Item → St Ty D → R) (k : Nat) (x1 : List Int) (x55 : List S88) (x56 : Int) (x57 : Int) (x79 : List Int) (x80 : Int) (x81 : Int) (h65 : List S88) (h66 : List Int) (h67 : List Int) (h69 : List S88) (h70 : List Int) (h71_0 : Bool) (h71_1 : List Int) (h73 : List Int) (h72_0 : Bool) : impl_SweepArena.g rec k (td Try.f87 21) (impl_SweepArena.s21 x1 x55 x56 x57 x79 x80 x81 h65 h66 h67 h69 h70 h71_0 h71_1 h73 h72_0) =
  bif decide (x81 < x80) then bif decide (0 ≤ x81) then bif decide (x81 < (x79.length : Int)) then bif !h71_0 then bif decide ((rd_T3 x79 x81) ≥ 0) then bif decide (0 ≤ (rd_T3 x79 x81)) then bif decide ((rd_T3 x79 x81) < (h70.length : Int)) then bif decide (0 ≤ x81) then bif decide (x81 < (h73.length : Int)) then rec (td Try.f87 21) (impl_SweepArena.s21 x1 x55 x56 x57 x79 x80 (w64 (x81 + 1)) h65 h66 h67 h69 h70 h71_0 h71_1 (h73.set x81.toNat (rd_T3 h70 (rd_T3 x79 x81))) h72_0) else none else none else none else none else rec (td Try.f87 21) (impl_SweepArena.s21 x1 x55 x56 x57 x79 x80 (w64 (x81 + 1)) h65 h66 h67 h69 h70 h71_0 h71_1 h73 h72_0) else rec (td Try.f87 21) (impl_SweepArena.s21 x1 x55 x56 x57 x79 x80 (w64 (x81 + 1)) h65 h66 h67 h69 h70 h71_0 h71_1 h73 h72_0) else none else none else bif decide (h69.length + ([(S88.mk h72_0 h73)] : List S88).length ≤ 4398046511104) then rec (td Try.f87 15) (impl_SweepArena.s15 x1 x55 x56 (w64 (x57 + 1)) h65 h66 h67 (h69 ++ ([(S88.mk h72_0 h73)] : List S88)) h70) else none := by kernel_rfl
set_option maxRecDepth 100000 in
theorem impl_SweepArena.t29 (rec : List Item → St Ty D → R) (k : Nat) (x109 : List Int) (x110 : Int) (x111 : Int) (h65 : List S88) (h66 : List Int) (h68 : List S88) (h69 : List Int) : impl_SweepArena.g rec k (td Try.f87 29) (impl_SweepArena.s29 x109 x110 x111 h65 h66 h68 h69) =
  bif decide (x111 < x110) then bif decide (0 ≤ x111) then bif decide (x111 < (x109.length : Int)) then bif decide ((rd_T3 x109 x111) ≥ 0) then bif decide (0 ≤ (rd_T3 x109 x111)) then bif decide ((rd_T3 x109 x111) < (h69.length : Int)) then bif decide (0 ≤ x111) then bif decide (x111 < (h66.length : Int)) then rec (td Try.f87 29) (impl_SweepArena.s29 x109 x110 (w64 (x111 + 1)) h65 (h66.set x111.toNat (rd_T3 h69 (rd_T3 x109 x111))) h68 h69) else none else none else none else none else rec (td Try.f87 29) (impl_SweepArena.s29 x109 x110 (w64 (x111 + 1)) h65 h66 h68 h69) else none else none else some (impl_SweepArena.e (h68, h66)) := by kernel_rfl
set_option maxRecDepth 100000 in
theorem impl_SweepArena.te (rec : List Item → St Ty D → R) (k : Nat) (a0_0 : List S88) (a1 : List Int) : impl_SweepArena.g rec k [.code (body Try.f87)] (startSt [.ag [.row 0 .t88 a0_0], .row 0 .t3 a1] []) =
  (impl_copyInts.f k a1).bind fun t1 => rec (td Try.f87 4) (impl_SweepArena.s4 a1 a1 (a1.length : Int) 0 a0_0 ([] : List S88) t1 ([] : List Int)) := by kernel_rfl
set_option maxRecDepth 100000 in
theorem impl_SweepArena.ok : ∀ k : Nat, (∀ (x1 : List Int) (x21 : List Int) (x22 : Int) (x23 : Int) (h64_0 : List S88) (h66 : List S88) (h67 : List Int) (h68 : List Int), goF Try.f87 impl_SweepArena.ctx impl_SweepArena.sp 0 impl_SweepArena.en k (td Try.f87 4) (impl_SweepArena.s4 x1 x21 x22 x23 h64_0 h66 h67 h68) = (impl_SweepArena.c4 k x1 x21 x22 x23 h64_0 h66 h67 h68).map impl_SweepArena.e) ∧ (∀ (x1 : List Int) (x55 : List S88) (x56 : Int) (x57 : Int) (h65 : List S88) (h66 : List Int) (h67 : List Int) (h69 : List S88) (h70 : List Int), goF Try.f87 impl_SweepArena.ctx impl_SweepArena.sp 0 impl_SweepArena.en k (td Try.f87 15) (impl_SweepArena.s15 x1 x55 x56 x57 h65 h66 h67 h69 h70) = (impl_SweepArena.c15 k x1 x55 x56 x57 h65 h66 h67 h69 h70).map impl_SweepArena.e) ∧ (∀ (x1 : List Int) (x55 : List S88) (x56 : Int) (x57 : Int) (x79 : List Int) (x80 : Int) (x81 : Int) (h65 : List S88) (h66 : List Int) (h67 : List Int) (h69 : List S88) (h70 : List Int) (h71_0 : Bool) (h71_1 : List Int) (h73 : List Int) (h72_0 : Bool), goF Try.f87 impl_SweepArena.ctx impl_SweepArena.sp 0 impl_SweepArena.en k (td Try.f87 21) (impl_SweepArena.s21 x1 x55 x56 x57 x79 x80 x81 h65 h66 h67 h69 h70 h71_0 h71_1 h73 h72_0) = (impl_SweepArena.c21 k x1 x55 x56 x57 x79 x80 x81 h65 h66 h67 h69 h70 h71_0 h71_1 h73 h72_0).map impl_SweepArena.e) ∧ (∀ (x109 : List Int) (x110 : Int) (x111 : Int) (h65 : List S88) (h66 : List Int) (h68 : List S88) (h69 : List Int), goF Try.f87 impl_SweepArena.ctx impl_SweepArena.sp 0 impl_SweepArena.en k (td Try.f87 29) (impl_SweepArena.s29 x109 x110 x111 h65 h66 h68 h69) = (impl_SweepArena.c29 k x109 x110 x111 h65 h66 h68 h69).map impl_SweepArena.e)
  | 0 => ⟨fun _ _ _ _ _ _ _ _ => rfl, fun _ _ _ _ _ _ _ _ _ => rfl, fun _ _ _ _ _ _ _ _ _ _ _ _ _ _ _ _ => rfl, fun _ _ _ _ _ _ _ => rfl⟩
  | k + 1 => by
    have ih := impl_SweepArena.ok k
    obtain ⟨i4, i15, i21, i29⟩ := ih
    refine ⟨?_, ?_, ?_, ?_⟩
    · intro x1 x21 x22 x23 h64_0 h66 h67 h68; rw [impl_SweepArena.c4]; exact (impl_SweepArena.t4 _ k x1 x21 x22 x23 h64_0 h66 h67 h68).trans (cd (cd (cd (nd (bn (fun t2 => (nb (bn (fun t3 => rfl)) (bn (fun t4 => (cd (i4 _ _ _ _ _ _ _ _) rfl)))))) (bn (fun t5 => (cd (i4 _ _ _ _ _ _ _ _) rfl)))) rfl) rfl) (bn (fun t6 => (nb (bn (fun t7 => rfl)) (sf (cd (cd (i15 _ _ _ _ _ _ _ _ _) rfl) rfl))))))
    · intro x1 x55 x56 x57 h65 h66 h67 h69 h70; rw [impl_SweepArena.c15]; exact (impl_SweepArena.t15 _ k x1 x55 x56 x57 h65 h66 h67 h69 h70).trans (cd (cd (cd (bn (fun t8 => (nb (i15 _ _ _ _ _ _ _ _ _) (cd (cd (bn (fun t9 => (i21 _ _ _ _ _ _ _ _ _ _ _ _ _ _ _ _))) rfl) rfl)))) rfl) rfl) (i29 _ _ _ _ _ _ _))
    · intro x1 x55 x56 x57 x79 x80 x81 h65 h66 h67 h69 h70 h71_0 h71_1 h73 h72_0; rw [impl_SweepArena.c21]; exact (impl_SweepArena.t21 _ k x1 x55 x56 x57 x79 x80 x81 h65 h66 h67 h69 h70 h71_0 h71_1 h73 h72_0).trans (cd (cd (cd (nb (cd (cd (cd (cd (cd (i21 _ _ _ _ _ _ _ _ _ _ _ _ _ _ _ _) rfl) rfl) rfl) rfl) (i21 _ _ _ _ _ _ _ _ _ _ _ _ _ _ _ _)) (i21 _ _ _ _ _ _ _ _ _ _ _ _ _ _ _ _)) rfl) rfl) (cd (i15 _ _ _ _ _ _ _ _ _) rfl))
    · intro x109 x110 x111 h65 h66 h68 h69; rw [impl_SweepArena.c29]; exact (impl_SweepArena.t29 _ k x109 x110 x111 h65 h66 h68 h69).trans (cd (cd (cd (cd (cd (cd (cd (cd (i29 _ _ _ _ _ _ _) rfl) rfl) rfl) rfl) (i29 _ _ _ _ _ _ _)) rfl) rfl) rfl)
set_option maxRecDepth 100000 in
theorem impl_SweepArena.oke (k : Nat) (a0_0 : List S88) (a1 : List Int) : goF Try.f87 impl_SweepArena.ctx impl_SweepArena.sp 0 impl_SweepArena.en (k + 1) [.code (body Try.f87)] (startSt [.ag [.row 0 .t88 a0_0], .row 0 .t3 a1] []) = (impl_SweepArena.f k a0_0 a1).map impl_SweepArena.e := by
  obtain ⟨i4, i15, i21, i29⟩ := impl_SweepArena.ok k
  rw [impl_SweepArena.f]; exact (impl_SweepArena.te _ k a0_0 a1).trans (bn (fun t1 => (i4 _ _ _ _ _ _ _ _)))
theorem impl_SweepArena.con (k : Nat) (a0_0 : List S88) (a1 : List Int) (r) (h : impl_SweepArena.f k a0_0 a1 = some r) : Contract Try.prog kit 87 [.ag [.row 0 .t88 a0_0], .row 0 .t3 a1] [] (impl_SweepArena.e r).1 (impl_SweepArena.e r).2.1 (impl_SweepArena.e r).2.2 :=
  con_okG kitOk mix (fun k => (CtxOk.cons (impl_ArenaOk.xok k) (CtxOk.cons (impl_isRoot.xok k) (CtxOk.cons (impl_knotsOf.xok k) (CtxOk.cons (impl_hasInt.xok k) (CtxOk.cons (impl_copyArena.xok k) (CtxOk.cons (impl_copyInts.xok k) CtxOk.nil))))))) (impl_SweepArena.oke k a0_0 a1) h (by kernel_rfl) (by kernel_rfl) (by kernel_rfl) rfl (by kernel_rfl) rfl rfl
noncomputable def impl_SweepArena.x (k : Nat) : X := fun ins bs κ => match ins, bs with
  | [.ag [.row 0 .t88 a0_0], .row 0 .t3 a1], [] => (impl_SweepArena.f k a0_0 a1).bind fun r => κ (impl_SweepArena.e r).1 (impl_SweepArena.e r).2.1 (impl_SweepArena.e r).2.2
  | _, _ => none
theorem impl_SweepArena.xok (k : Nat) : XOk 87 (impl_SweepArena.x k) := by
  intro ins bs κ res h
  unfold impl_SweepArena.x at h
  split at h
  · obtain ⟨r, hr, h⟩ := Option.bind_eq_some_iff.1 h
    exact ⟨_, _, _, impl_SweepArena.con k _ _ r hr, h⟩
  · cases h

/-! ### impl_Store_sweep: function 48 -/
noncomputable def impl_Store_sweep.sp : Nat → Option (Spec Ty) := fun r => bif Nat.beq r 2 then some ⟨[(0, .box [.own .t53, .own .t88, .keep]), (2, .own .t3), (11, .own .t53), (12, .keep), (13, .keep)], [(2, none), (1, none), (0, some [.own .t53, .own .t88, .keep])]⟩ else bif Nat.beq r 9 then some ⟨[(0, .box [.own .t53, .own .t88, .keep]), (6, .own .t3), (40, .keep), (41, .keep)], [(2, none), (1, none), (0, some [.own .t53, .own .t88, .keep])]⟩ else none
noncomputable def impl_Store_sweep.en : Option (Spec Ty) := none
noncomputable def impl_Store_sweep.s2 (x12 : Int) (x13 : Int) (h2 : List S88) (h1 : List S53) (h0_2 : Int) (h64 : List Int) : St Ty D := ⟨(Env.put (Env.put (Env.put (Env.put (Env.put E (some 0) (.pt 0 0 0)) (some 2) (.sl 64 none)) (some 11) (.sl 1 none)) (some 12) (.sc (.int .i64 x12))) (some 13) (.sc (.int .i64 x13))), Heap.put H0 [(2, some (.rowb .t88 h2 0)), (1, some (.rowb .t53 h1 0)), (0, some (.box [.sl 1 none, .sl 2 none, .sc (.int .i64 h0_2)])), (64, some (.rowb .t3 h64 0))], 1000⟩
noncomputable def impl_Store_sweep.s9 (x40 : Int) (x41 : Int) (h2 : List S88) (h1 : List S53) (h64 : List S88) (h0_2 : Int) (h65 : List Int) : St Ty D := ⟨(Env.put (Env.put (Env.put (Env.put E (some 0) (.pt 0 0 0)) (some 6) (.sl 65 none)) (some 40) (.sc (.int .i64 x40))) (some 41) (.sc (.int .i64 x41))), Heap.put H0 [(2, some (.rowb .t88 h2 0)), (1, some (.rowb .t53 h1 0)), (64, some (.rowb .t88 h64 0)), (0, some (.box [.sl 1 none, .sl 64 none, .sc (.int .i64 h0_2)])), (65, some (.rowb .t3 h65 0))], 1000⟩
noncomputable def impl_Store_sweep.ctx (k : Nat) : Ctx Ty D := (cons 87 (impl_SweepArena.x k) (fun _ _ _ _ => none))
mutual
noncomputable def impl_Store_sweep.c2 : Nat → Int → Int → (List S88) → (List S53) → Int → (List Int) → Option ((List S53) × (List S88) × Int × (List S88))
  | 0, _, _, _, _, _, _ => none
  | k + 1, x12, x13, h2, h1, h0_2, h64 => (if x13 < x12 then (if 0 ≤ x13 then (if x13 < (h1.length : Int) then (if h64.length + ([(rd_T53 h1 x13).f1] : List Int).length ≤ 17592186044416 then (impl_Store_sweep.c2 k x12 (w64 (x13 + 1)) h2 h1 h0_2 (h64 ++ ([(rd_T53 h1 x13).f1] : List Int))) else none) else none) else none) else ((impl_SweepArena.f k h2 h64).bind fun t1 => (impl_Store_sweep.c9 k (h1.length : Int) 0 h2 h1 t1.1 h0_2 t1.2)))
noncomputable def impl_Store_sweep.c9 : Nat → Int → Int → (List S88) → (List S53) → (List S88) → Int → (List Int) → Option ((List S53) × (List S88) × Int × (List S88))
  | 0, _, _, _, _, _, _, _ => none
  | k + 1, x40, x41, h2, h1, h64, h0_2, h65 => (if x41 < x40 then (if 0 ≤ x41 then (if x41 < (h65.length : Int) then (if 0 ≤ x41 then (if x41 < (h1.length : Int) then (impl_Store_sweep.c9 k x40 (w64 (x41 + 1)) h2 (h1.set x41.toNat (S53.mk ((rd_T53 h1 x41).f0) (rd_T3 h65 x41))) h64 h0_2 h65) else none) else none) else none) else none) else (some (h1, h64, h0_2, h2)))
end
noncomputable def impl_Store_sweep.f (k : Nat) (a0_2 : Int) (h0_0 : List S53) (h0_1 : List S88) : Option ((List S53) × (List S88) × Int × (List S88)) := (impl_Store_sweep.c2 k (h0_0.length : Int) 0 h0_1 h0_0 a0_2 ([] : List Int))
noncomputable def impl_Store_sweep.e (r : (List S53) × (List S88) × Int × (List S88)) : Res Ty D := (.tu [], [some (.box [.sl 1 none, .sl 3 none, .sc (.int .i64 r.2.2.1)]), some (.rowb .t53 r.1 0), some (.rowb .t88 r.2.2.2 0)], [.rowb .t88 r.2.1 0])
noncomputable abbrev impl_Store_sweep.g (rec : List Item → St Ty D → R) (k : Nat) := go1 Try.f48 (impl_Store_sweep.ctx k) impl_Store_sweep.sp 3 impl_Store_sweep.en rec
set_option maxRecDepth 100000 in
theorem impl_Store_sweep.t2 (rec : List Item → St Ty D → R) (k : Nat) (x12 : Int) (x13 : Int) (h2 : List S88) (h1 : List S53) (h0_2 : Int) (h64 : List Int) : impl_Store_sweep.g rec k (td Try.f48 2) (impl_Store_sweep.s2 x12 x13 h2 h1 h0_2 h64) =
  bif decide (x13 < x12) then bif decide (0 ≤ x13) then bif decide (x13 < (h1.length : Int)) then bif decide (h64.length + ([(rd_T53 h1 x13).f1] : List Int).length ≤ 17592186044416) then rec (td Try.f48 2) (impl_Store_sweep.s2 x12 (w64 (x13 + 1)) h2 h1 h0_2 (h64 ++ ([(rd_T53 h1 x13).f1] : List Int))) else none else none else none else (impl_SweepArena.f k h2 h64).bind fun t1 => rec (td Try.f48 9) (impl_Store_sweep.s9 (h1.length : Int) 0 h2 h1 t1.1 h0_2 t1.2) := by kernel_rfl
set_option maxRecDepth 100000 in
theorem impl_Store_sweep.t9 (rec : List Item → St Ty D → R) (k : Nat) (x40 : Int) (x41 : Int) (h2 : List S88) (h1 : List S53) (h64 : List S88) (h0_2 : Int) (h65 : List Int) : impl_Store_sweep.g rec k (td Try.f48 9) (impl_Store_sweep.s9 x40 x41 h2 h1 h64 h0_2 h65) =
  bif decide (x41 < x40) then bif decide (0 ≤ x41) then bif decide (x41 < (h65.length : Int)) then bif decide (0 ≤ x41) then bif decide (x41 < (h1.length : Int)) then rec (td Try.f48 9) (impl_Store_sweep.s9 x40 (w64 (x41 + 1)) h2 (h1.set x41.toNat (S53.mk ((rd_T53 h1 x41).f0) (rd_T3 h65 x41))) h64 h0_2 h65) else none else none else none else none else some (impl_Store_sweep.e (h1, h64, h0_2, h2)) := by kernel_rfl
set_option maxRecDepth 100000 in
theorem impl_Store_sweep.te (rec : List Item → St Ty D → R) (k : Nat) (a0_2 : Int) (h0_0 : List S53) (h0_1 : List S88) : impl_Store_sweep.g rec k [.code (body Try.f48)] (startSt [.pt 0 0 0] [.box [.sl 1 none, .sl 2 none, .sc (.int .i64 a0_2)], .rowb .t53 h0_0 0, .rowb .t88 h0_1 0]) =
  rec (td Try.f48 2) (impl_Store_sweep.s2 (h0_0.length : Int) 0 h0_1 h0_0 a0_2 ([] : List Int)) := by kernel_rfl
set_option maxRecDepth 100000 in
theorem impl_Store_sweep.ok : ∀ k : Nat, (∀ (x12 : Int) (x13 : Int) (h2 : List S88) (h1 : List S53) (h0_2 : Int) (h64 : List Int), goF Try.f48 impl_Store_sweep.ctx impl_Store_sweep.sp 3 impl_Store_sweep.en k (td Try.f48 2) (impl_Store_sweep.s2 x12 x13 h2 h1 h0_2 h64) = (impl_Store_sweep.c2 k x12 x13 h2 h1 h0_2 h64).map impl_Store_sweep.e) ∧ (∀ (x40 : Int) (x41 : Int) (h2 : List S88) (h1 : List S53) (h64 : List S88) (h0_2 : Int) (h65 : List Int), goF Try.f48 impl_Store_sweep.ctx impl_Store_sweep.sp 3 impl_Store_sweep.en k (td Try.f48 9) (impl_Store_sweep.s9 x40 x41 h2 h1 h64 h0_2 h65) = (impl_Store_sweep.c9 k x40 x41 h2 h1 h64 h0_2 h65).map impl_Store_sweep.e)
  | 0 => ⟨fun _ _ _ _ _ _ => rfl, fun _ _ _ _ _ _ _ => rfl⟩
  | k + 1 => by
    have ih := impl_Store_sweep.ok k
    obtain ⟨i2, i9⟩ := ih
    refine ⟨?_, ?_⟩
    · intro x12 x13 h2 h1 h0_2 h64; rw [impl_Store_sweep.c2]; exact (impl_Store_sweep.t2 _ k x12 x13 h2 h1 h0_2 h64).trans (cd (cd (cd (cd (i2 _ _ _ _ _ _) rfl) rfl) rfl) (bn (fun t1 => (i9 _ _ _ _ _ _ _))))
    · intro x40 x41 h2 h1 h64 h0_2 h65; rw [impl_Store_sweep.c9]; exact (impl_Store_sweep.t9 _ k x40 x41 h2 h1 h64 h0_2 h65).trans (cd (cd (cd (cd (cd (i9 _ _ _ _ _ _ _) rfl) rfl) rfl) rfl) rfl)
set_option maxRecDepth 100000 in
theorem impl_Store_sweep.oke (k : Nat) (a0_2 : Int) (h0_0 : List S53) (h0_1 : List S88) : goF Try.f48 impl_Store_sweep.ctx impl_Store_sweep.sp 3 impl_Store_sweep.en (k + 1) [.code (body Try.f48)] (startSt [.pt 0 0 0] [.box [.sl 1 none, .sl 2 none, .sc (.int .i64 a0_2)], .rowb .t53 h0_0 0, .rowb .t88 h0_1 0]) = (impl_Store_sweep.f k a0_2 h0_0 h0_1).map impl_Store_sweep.e := by
  obtain ⟨i2, i9⟩ := impl_Store_sweep.ok k
  rw [impl_Store_sweep.f]; exact (impl_Store_sweep.te _ k a0_2 h0_0 h0_1).trans (i2 _ _ _ _ _ _)
theorem impl_Store_sweep.con (k : Nat) (a0_2 : Int) (h0_0 : List S53) (h0_1 : List S88) (r) (h : impl_Store_sweep.f k a0_2 h0_0 h0_1 = some r) : Contract Try.prog kit 48 [.pt 0 0 0] [.box [.sl 1 none, .sl 2 none, .sc (.int .i64 a0_2)], .rowb .t53 h0_0 0, .rowb .t88 h0_1 0] (impl_Store_sweep.e r).1 (impl_Store_sweep.e r).2.1 (impl_Store_sweep.e r).2.2 :=
  con_okG kitOk mix (fun k => (CtxOk.cons (impl_SweepArena.xok k) CtxOk.nil)) (impl_Store_sweep.oke k a0_2 h0_0 h0_1) h (by kernel_rfl) (by kernel_rfl) (by kernel_rfl) rfl (by kernel_rfl) rfl rfl
noncomputable def impl_Store_sweep.x (k : Nat) : X := fun ins bs κ => match ins, bs with
  | [.pt 0 0 0], [.box [.sl 1 none, .sl 2 none, .sc (.int .i64 a0_2)], .rowb .t53 h0_0 0, .rowb .t88 h0_1 0] => (impl_Store_sweep.f k a0_2 h0_0 h0_1).bind fun r => κ (impl_Store_sweep.e r).1 (impl_Store_sweep.e r).2.1 (impl_Store_sweep.e r).2.2
  | _, _ => none
theorem impl_Store_sweep.xok (k : Nat) : XOk 48 (impl_Store_sweep.x k) := by
  intro ins bs κ res h
  unfold impl_Store_sweep.x at h
  split at h
  · obtain ⟨r, hr, h⟩ := Option.bind_eq_some_iff.1 h
    exact ⟨_, _, _, impl_Store_sweep.con k _ _ _ r hr, h⟩
  · cases h

/-! ### impl_Enter: function 13 -/
noncomputable def impl_Enter.sp : Nat → Option (Spec Ty) := fun r => none
noncomputable def impl_Enter.en : Option (Spec Ty) := some ⟨[(4, .box [.own .t53, .own .t88, .keep]), (5, .keep)], []⟩
noncomputable def impl_Enter.ctx (k : Nat) : Ctx Ty D := (cons 26 (impl_StoreOk.x k) (cons 45 (impl_copyStore.x k) (cons 46 (impl_RecOk.x k) (cons 47 (impl_Store_enter.x k) (cons 48 (impl_Store_sweep.x k) (fun _ _ _ _ => none))))))
noncomputable def impl_Enter.f (k : Nat) (a0_0 : List S53) (a0_1 : List S88) (a0_2 : Int) (a1_0 : Int) (a1_1 : Int) (a1_2 : Int) (a1_3 : Int) : Option ((List S53) × (List S88) × Int × Bool) := ((impl_copyStore.f k a0_0 a0_1 a0_2).bind fun t1 => ((impl_StoreOk.f k a0_0 a0_1 a0_2).bind fun t2 => (if t2 = true then ((impl_RecOk.f k a1_0 a1_1 a1_2 a1_3).bind fun t4 => (if t4 = true then ((impl_Store_enter.f k a1_0 a1_1 a1_2 a1_3 t1.2.2 t1.1 t1.2.1).bind (Sum.elim (fun t7 => (if t7.1 = true then ((impl_Store_sweep.f k t7.2.2.2.1 t7.2.1 t7.2.2.1).bind fun t9 => (some (t9.1, t9.2.1, t9.2.2.1, true))) else ((impl_copyStore.f k a0_0 a0_1 a0_2).bind fun t8 => (some (t8.1, t8.2.1, t8.2.2, false))))) (Sum.elim (fun t10 => (if t10.1 = true then ((impl_Store_sweep.f k t10.2.2.2 t10.2.1 t10.2.2.1).bind fun t12 => (some (t12.1, t12.2.1, t12.2.2.1, true))) else ((impl_copyStore.f k a0_0 a0_1 a0_2).bind fun t11 => (some (t11.1, t11.2.1, t11.2.2, false))))) (Sum.elim (fun t13 => (if t13.1 = true then ((impl_Store_sweep.f k t13.2.2.2 t13.2.1 t13.2.2.1).bind fun t15 => (some (t15.1, t15.2.1, t15.2.2.1, true))) else ((impl_copyStore.f k a0_0 a0_1 a0_2).bind fun t14 => (some (t14.1, t14.2.1, t14.2.2, false))))) (Sum.elim (fun t16 => (if t16.1 = true then ((impl_Store_sweep.f k t16.2.2.2.1 t16.2.1 t16.2.2.1).bind fun t18 => (some (t18.1, t18.2.1, t18.2.2.1, true))) else ((impl_copyStore.f k a0_0 a0_1 a0_2).bind fun t17 => (some (t17.1, t17.2.1, t17.2.2, false))))) (fun t19 => (if t19.1 = true then ((impl_Store_sweep.f k t19.2.2.2.1 t19.2.1 t19.2.2.1).bind fun t21 => (some (t21.1, t21.2.1, t21.2.2.1, true))) else ((impl_copyStore.f k a0_0 a0_1 a0_2).bind fun t20 => (some (t20.1, t20.2.1, t20.2.2, false)))))))))) else ((impl_copyStore.f k a0_0 a0_1 a0_2).bind fun t5 => (some (t5.1, t5.2.1, t5.2.2, false))))) else ((impl_copyStore.f k a0_0 a0_1 a0_2).bind fun t3 => (some (t3.1, t3.2.1, t3.2.2, false))))))
noncomputable def impl_Enter.e (r : (List S53) × (List S88) × Int × Bool) : Res Ty D := (.tu [.ag [.sl 0 none, .sl 1 none, .sc (.int .i64 r.2.2.1)], .sc (.bool r.2.2.2)], [], [.rowb .t53 r.1 0, .rowb .t88 r.2.1 0])
noncomputable abbrev impl_Enter.g (rec : List Item → St Ty D → R) (k : Nat) := go1 Try.f13 (impl_Enter.ctx k) impl_Enter.sp 0 impl_Enter.en rec
set_option maxRecDepth 100000 in
theorem impl_Enter.te (rec : List Item → St Ty D → R) (k : Nat) (a0_0 : List S53) (a0_1 : List S88) (a0_2 : Int) (a1_0 : Int) (a1_1 : Int) (a1_2 : Int) (a1_3 : Int) : impl_Enter.g rec k [.code (body Try.f13)] (startSt [.ag [.row 0 .t53 a0_0, .row 0 .t88 a0_1, .sc (.int .i64 a0_2)], .ag [.sc (.int .i64 a1_0), .sc (.int .i64 a1_1), .sc (.int .i64 a1_2), .sc (.int .i64 a1_3)]] []) =
  (impl_copyStore.f k a0_0 a0_1 a0_2).bind fun t1 => (impl_StoreOk.f k a0_0 a0_1 a0_2).bind fun t2 => bif !t2 then (impl_copyStore.f k a0_0 a0_1 a0_2).bind fun t3 => some (impl_Enter.e (t3.1, t3.2.1, t3.2.2, false)) else (impl_RecOk.f k a1_0 a1_1 a1_2 a1_3).bind fun t4 => bif !t4 then (impl_copyStore.f k a0_0 a0_1 a0_2).bind fun t5 => some (impl_Enter.e (t5.1, t5.2.1, t5.2.2, false)) else (impl_Store_enter.f k a1_0 a1_1 a1_2 a1_3 t1.2.2 t1.1 t1.2.1).bind (Sum.elim (fun t7 => bif !t7.1 then (impl_copyStore.f k a0_0 a0_1 a0_2).bind fun t8 => some (impl_Enter.e (t8.1, t8.2.1, t8.2.2, false)) else (impl_Store_sweep.f k t7.2.2.2.1 t7.2.1 t7.2.2.1).bind fun t9 => some (impl_Enter.e (t9.1, t9.2.1, t9.2.2.1, true))) (Sum.elim (fun t10 => bif !t10.1 then (impl_copyStore.f k a0_0 a0_1 a0_2).bind fun t11 => some (impl_Enter.e (t11.1, t11.2.1, t11.2.2, false)) else (impl_Store_sweep.f k t10.2.2.2 t10.2.1 t10.2.2.1).bind fun t12 => some (impl_Enter.e (t12.1, t12.2.1, t12.2.2.1, true))) (Sum.elim (fun t13 => bif !t13.1 then (impl_copyStore.f k a0_0 a0_1 a0_2).bind fun t14 => some (impl_Enter.e (t14.1, t14.2.1, t14.2.2, false)) else (impl_Store_sweep.f k t13.2.2.2 t13.2.1 t13.2.2.1).bind fun t15 => some (impl_Enter.e (t15.1, t15.2.1, t15.2.2.1, true))) (Sum.elim (fun t16 => bif !t16.1 then (impl_copyStore.f k a0_0 a0_1 a0_2).bind fun t17 => some (impl_Enter.e (t17.1, t17.2.1, t17.2.2, false)) else (impl_Store_sweep.f k t16.2.2.2.1 t16.2.1 t16.2.2.1).bind fun t18 => some (impl_Enter.e (t18.1, t18.2.1, t18.2.2.1, true))) (fun t19 => bif !t19.1 then (impl_copyStore.f k a0_0 a0_1 a0_2).bind fun t20 => some (impl_Enter.e (t20.1, t20.2.1, t20.2.2, false)) else (impl_Store_sweep.f k t19.2.2.2.1 t19.2.1 t19.2.2.1).bind fun t21 => some (impl_Enter.e (t21.1, t21.2.1, t21.2.2.1, true))))))) := by kernel_rfl
set_option maxRecDepth 100000 in
theorem impl_Enter.oke (k : Nat) (a0_0 : List S53) (a0_1 : List S88) (a0_2 : Int) (a1_0 : Int) (a1_1 : Int) (a1_2 : Int) (a1_3 : Int) : goF Try.f13 impl_Enter.ctx impl_Enter.sp 0 impl_Enter.en (k + 1) [.code (body Try.f13)] (startSt [.ag [.row 0 .t53 a0_0, .row 0 .t88 a0_1, .sc (.int .i64 a0_2)], .ag [.sc (.int .i64 a1_0), .sc (.int .i64 a1_1), .sc (.int .i64 a1_2), .sc (.int .i64 a1_3)]] []) = (impl_Enter.f k a0_0 a0_1 a0_2 a1_0 a1_1 a1_2 a1_3).map impl_Enter.e := by
  rw [impl_Enter.f]; exact (impl_Enter.te _ k a0_0 a0_1 a0_2 a1_0 a1_1 a1_2 a1_3).trans (bn (fun t1 => (bn (fun t2 => (nb (bn (fun t3 => rfl)) (bn (fun t4 => (nb (bn (fun t5 => rfl)) (bn (el (fun t7 => (nb (bn (fun t8 => rfl)) (bn (fun t9 => rfl)))) (el (fun t10 => (nb (bn (fun t11 => rfl)) (bn (fun t12 => rfl)))) (el (fun t13 => (nb (bn (fun t14 => rfl)) (bn (fun t15 => rfl)))) (el (fun t16 => (nb (bn (fun t17 => rfl)) (bn (fun t18 => rfl)))) (fun t19 => (nb (bn (fun t20 => rfl)) (bn (fun t21 => rfl)))))))))))))))))
theorem impl_Enter.con (k : Nat) (a0_0 : List S53) (a0_1 : List S88) (a0_2 : Int) (a1_0 : Int) (a1_1 : Int) (a1_2 : Int) (a1_3 : Int) (r) (h : impl_Enter.f k a0_0 a0_1 a0_2 a1_0 a1_1 a1_2 a1_3 = some r) : Contract Try.prog kit 13 [.ag [.row 0 .t53 a0_0, .row 0 .t88 a0_1, .sc (.int .i64 a0_2)], .ag [.sc (.int .i64 a1_0), .sc (.int .i64 a1_1), .sc (.int .i64 a1_2), .sc (.int .i64 a1_3)]] [] (impl_Enter.e r).1 (impl_Enter.e r).2.1 (impl_Enter.e r).2.2 :=
  con_okG kitOk mix (fun k => (CtxOk.cons (impl_StoreOk.xok k) (CtxOk.cons (impl_copyStore.xok k) (CtxOk.cons (impl_RecOk.xok k) (CtxOk.cons (impl_Store_enter.xok k) (CtxOk.cons (impl_Store_sweep.xok k) CtxOk.nil)))))) (impl_Enter.oke k a0_0 a0_1 a0_2 a1_0 a1_1 a1_2 a1_3) h (by kernel_rfl) (by kernel_rfl) (by kernel_rfl) rfl (by kernel_rfl) rfl rfl
noncomputable def impl_Enter.x (k : Nat) : X := fun ins bs κ => match ins, bs with
  | [.ag [.row 0 .t53 a0_0, .row 0 .t88 a0_1, .sc (.int .i64 a0_2)], .ag [.sc (.int .i64 a1_0), .sc (.int .i64 a1_1), .sc (.int .i64 a1_2), .sc (.int .i64 a1_3)]], [] => (impl_Enter.f k a0_0 a0_1 a0_2 a1_0 a1_1 a1_2 a1_3).bind fun r => κ (impl_Enter.e r).1 (impl_Enter.e r).2.1 (impl_Enter.e r).2.2
  | _, _ => none
theorem impl_Enter.xok (k : Nat) : XOk 13 (impl_Enter.x k) := by
  intro ins bs κ res h
  unfold impl_Enter.x at h
  split at h
  · obtain ⟨r, hr, h⟩ := Option.bind_eq_some_iff.1 h
    exact ⟨_, _, _, impl_Enter.con k _ _ _ _ _ _ _ r hr, h⟩
  · cases h
end Go.Proofs.Yteideicglgpfiaa.M2

/- Plain runs of functions: each is a plain Lean function, and keeps its contract. Written by a program of this session. -/
namespace Go.Proofs.Yteideicglgpfiaa.M2
open Go Go.Proofs.Yteideicglgpfiaa.PK
set_option linter.unusedVariables false
set_option linter.unusedSimpArgs false
set_option maxHeartbeats 4000000
/-! ### laws_big: function 17 -/
noncomputable def laws_big.sp : Nat → Option (Spec Ty) := fun r => none
noncomputable def laws_big.en : Option (Spec Ty) := none
noncomputable def laws_big.ctx (k : Nat) : Ctx Ty D := (fun _ _ _ _ => none)
noncomputable def laws_big.f (k : Nat) (a0 : List Int) : Option (Bool) := (some ((decide ((a0.length : Int) > 1048576))))
noncomputable def laws_big.e (r : Bool) : Res Ty D := (.sc (.bool r), [], [])
noncomputable abbrev laws_big.g (rec : List Item → St Ty D → R) (k : Nat) := go1 Try.f17 (laws_big.ctx k) laws_big.sp 0 laws_big.en rec
set_option maxRecDepth 100000 in
theorem laws_big.te (rec : List Item → St Ty D → R) (k : Nat) (a0 : List Int) : laws_big.g rec k [.code (body Try.f17)] (startSt [.row 0 .t5 a0] []) =
  some (laws_big.e ((decide ((a0.length : Int) > 1048576)))) := by kernel_rfl
set_option maxRecDepth 100000 in
theorem laws_big.oke (k : Nat) (a0 : List Int) : goF Try.f17 laws_big.ctx laws_big.sp 0 laws_big.en (k + 1) [.code (body Try.f17)] (startSt [.row 0 .t5 a0] []) = (laws_big.f k a0).map laws_big.e := by
  rw [laws_big.f]; exact (laws_big.te _ k a0).trans rfl
theorem laws_big.con (k : Nat) (a0 : List Int) (r) (h : laws_big.f k a0 = some r) : Contract Try.prog kit 17 [.row 0 .t5 a0] [] (laws_big.e r).1 (laws_big.e r).2.1 (laws_big.e r).2.2 :=
  con_okG kitOk mix (fun k => CtxOk.nil) (laws_big.oke k a0) h (by kernel_rfl) (by kernel_rfl) (by kernel_rfl) rfl (by kernel_rfl) rfl rfl
noncomputable def laws_big.x (k : Nat) : X := fun ins bs κ => match ins, bs with
  | [.row 0 .t5 a0], [] => (laws_big.f k a0).bind fun r => κ (laws_big.e r).1 (laws_big.e r).2.1 (laws_big.e r).2.2
  | _, _ => none
theorem laws_big.xok (k : Nat) : XOk 17 (laws_big.x k) := by
  intro ins bs κ res h
  unfold laws_big.x at h
  split at h
  · obtain ⟨r, hr, h⟩ := Option.bind_eq_some_iff.1 h
    exact ⟨_, _, _, laws_big.con k _ r hr, h⟩
  · cases h

/-! ### spec_l01New: function 55 -/
noncomputable def spec_l01New.sp : Nat → Option (Spec Ty) := fun r => bif Nat.beq r 3 then some ⟨[(0, .keep), (3, .keep), (4, .keep)], []⟩ else none
noncomputable def spec_l01New.en : Option (Spec Ty) := none
noncomputable def spec_l01New.s3 (x0 : List Int) (x3 : Int) (x4 : Int) : St Ty D := ⟨(Env.put (Env.put (Env.put E (some 0) (.row 1 .t5 x0)) (some 3) (.sc (.int .i64 x3))) (some 4) (.sc (.int .i64 x4))), H0, 1000⟩
noncomputable def spec_l01New.ctx (k : Nat) : Ctx Ty D := (fun _ _ _ _ => none)
noncomputable def spec_l01New.c3 : Nat → (List Int) → Int → Int → Option ((List Int) × Int × Int)
  | 0, _, _, _ => none
  | k + 1, x0, x3, x4 => (if x4 < (x0.length : Int) then (if x4 < 4000 then (if 0 ≤ x4 then (if x4 < (x0.length : Int) then (spec_l01New.c3 k x0 (Go.bits .and .i64 (w64 ((w64 ((w64 (x3 * 131)) + (w64 ((rd_T5 x0 x4))))) + 7)) 1073741823) (w64 (x4 + 1))) else none) else none) else (some (x0, 0, x3))) else (some (x0, 0, x3)))
noncomputable def spec_l01New.f (k : Nat) (a0 : List Int) : Option ((List Int) × Int × Int) := (spec_l01New.c3 k a0 (w64 (36501 + (a0.length : Int))) 0)
noncomputable def spec_l01New.e (r : (List Int) × Int × Int) : Res Ty D := (.pt 0 0 0, [], [.box [.row 1 .t5 r.1, .sc (.int .i64 r.2.1), .sc (.int .i64 r.2.2)]])
noncomputable abbrev spec_l01New.g (rec : List Item → St Ty D → R) (k : Nat) := go1 Try.f55 (spec_l01New.ctx k) spec_l01New.sp 0 spec_l01New.en rec
set_option maxRecDepth 100000 in
theorem spec_l01New.t3 (rec : List Item → St Ty D → R) (k : Nat) (x0 : List Int) (x3 : Int) (x4 : Int) : spec_l01New.g rec k (td Try.f55 3) (spec_l01New.s3 x0 x3 x4) =
  bif decide (x4 < (x0.length : Int)) then bif decide (x4 < 4000) then bif decide (0 ≤ x4) then bif decide (x4 < (x0.length : Int)) then rec (td Try.f55 3) (spec_l01New.s3 x0 (Go.bits .and .i64 (w64 ((w64 ((w64 (x3 * 131)) + (w64 ((rd_T5 x0 x4))))) + 7)) 1073741823) (w64 (x4 + 1))) else none else none else some (spec_l01New.e (x0, 0, x3)) else some (spec_l01New.e (x0, 0, x3)) := by kernel_rfl
set_option maxRecDepth 100000 in
theorem spec_l01New.te (rec : List Item → St Ty D → R) (k : Nat) (a0 : List Int) : spec_l01New.g rec k [.code (body Try.f55)] (startSt [.row 1 .t5 a0] []) =
  rec (td Try.f55 3) (spec_l01New.s3 a0 (w64 (36501 + (a0.length : Int))) 0) := by kernel_rfl
set_option maxRecDepth 100000 in
theorem spec_l01New.ok : ∀ k : Nat, (∀ (x0 : List Int) (x3 : Int) (x4 : Int), goF Try.f55 spec_l01New.ctx spec_l01New.sp 0 spec_l01New.en k (td Try.f55 3) (spec_l01New.s3 x0 x3 x4) = (spec_l01New.c3 k x0 x3 x4).map spec_l01New.e)
  | 0 => fun _ _ _ => rfl
  | k + 1 => by
    have ih := spec_l01New.ok k
    have i3 := ih
    intro x0 x3 x4; rw [spec_l01New.c3]; exact (spec_l01New.t3 _ k x0 x3 x4).trans (cd (cd (cd (cd (i3 _ _ _) rfl) rfl) rfl) rfl)
set_option maxRecDepth 100000 in
theorem spec_l01New.oke (k : Nat) (a0 : List Int) : goF Try.f55 spec_l01New.ctx spec_l01New.sp 0 spec_l01New.en (k + 1) [.code (body Try.f55)] (startSt [.row 1 .t5 a0] []) = (spec_l01New.f k a0).map spec_l01New.e := by
  have i3 := spec_l01New.ok k
  rw [spec_l01New.f]; exact (spec_l01New.te _ k a0).trans (i3 _ _ _)
theorem spec_l01New.con (k : Nat) (a0 : List Int) (r) (h : spec_l01New.f k a0 = some r) : Contract Try.prog kit 55 [.row 1 .t5 a0] [] (spec_l01New.e r).1 (spec_l01New.e r).2.1 (spec_l01New.e r).2.2 :=
  con_okG kitOk mix (fun k => CtxOk.nil) (spec_l01New.oke k a0) h (by kernel_rfl) (by kernel_rfl) (by kernel_rfl) rfl (by kernel_rfl) rfl rfl
noncomputable def spec_l01New.x (k : Nat) : X := fun ins bs κ => match ins, bs with
  | [.row 1 .t5 a0], [] => (spec_l01New.f k a0).bind fun r => κ (spec_l01New.e r).1 (spec_l01New.e r).2.1 (spec_l01New.e r).2.2
  | _, _ => none
theorem spec_l01New.xok (k : Nat) : XOk 55 (spec_l01New.x k) := by
  intro ins bs κ res h
  unfold spec_l01New.x at h
  split at h
  · obtain ⟨r, hr, h⟩ := Option.bind_eq_some_iff.1 h
    exact ⟨_, _, _, spec_l01New.con k _ r hr, h⟩
  · cases h

/-! ### spec_l01In: function 76 -/
noncomputable def spec_l01In.sp : Nat → Option (Spec Ty) := fun r => none
noncomputable def spec_l01In.en : Option (Spec Ty) := none
noncomputable def spec_l01In.ctx (k : Nat) : Ctx Ty D := (fun _ _ _ _ => none)
noncomputable def spec_l01In.f (k : Nat) (a0 : Int) (a1 : Int) (a2 : Int) : Option (Bool) := (if a0 ≥ a1 then (some ((decide (a0 ≤ a2)))) else (some (false)))
noncomputable def spec_l01In.e (r : Bool) : Res Ty D := (.sc (.bool r), [], [])
noncomputable abbrev spec_l01In.g (rec : List Item → St Ty D → R) (k : Nat) := go1 Try.f76 (spec_l01In.ctx k) spec_l01In.sp 0 spec_l01In.en rec
set_option maxRecDepth 100000 in
theorem spec_l01In.te (rec : List Item → St Ty D → R) (k : Nat) (a0 : Int) (a1 : Int) (a2 : Int) : spec_l01In.g rec k [.code (body Try.f76)] (startSt [.sc (.int .i64 a0), .sc (.int .i64 a1), .sc (.int .i64 a2)] []) =
  bif decide (a0 ≥ a1) then some (spec_l01In.e ((decide (a0 ≤ a2)))) else some (spec_l01In.e (false)) := by kernel_rfl
set_option maxRecDepth 100000 in
theorem spec_l01In.oke (k : Nat) (a0 : Int) (a1 : Int) (a2 : Int) : goF Try.f76 spec_l01In.ctx spec_l01In.sp 0 spec_l01In.en (k + 1) [.code (body Try.f76)] (startSt [.sc (.int .i64 a0), .sc (.int .i64 a1), .sc (.int .i64 a2)] []) = (spec_l01In.f k a0 a1 a2).map spec_l01In.e := by
  rw [spec_l01In.f]; exact (spec_l01In.te _ k a0 a1 a2).trans (cd rfl rfl)
theorem spec_l01In.con (k : Nat) (a0 : Int) (a1 : Int) (a2 : Int) (r) (h : spec_l01In.f k a0 a1 a2 = some r) : Contract Try.prog kit 76 [.sc (.int .i64 a0), .sc (.int .i64 a1), .sc (.int .i64 a2)] [] (spec_l01In.e r).1 (spec_l01In.e r).2.1 (spec_l01In.e r).2.2 :=
  con_okG kitOk mix (fun k => CtxOk.nil) (spec_l01In.oke k a0 a1 a2) h (by kernel_rfl) (by kernel_rfl) (by kernel_rfl) rfl (by kernel_rfl) rfl rfl
noncomputable def spec_l01In.x (k : Nat) : X := fun ins bs κ => match ins, bs with
  | [.sc (.int .i64 a0), .sc (.int .i64 a1), .sc (.int .i64 a2)], [] => (spec_l01In.f k a0 a1 a2).bind fun r => κ (spec_l01In.e r).1 (spec_l01In.e r).2.1 (spec_l01In.e r).2.2
  | _, _ => none
theorem spec_l01In.xok (k : Nat) : XOk 76 (spec_l01In.x k) := by
  intro ins bs κ res h
  unfold spec_l01In.x at h
  split at h
  · obtain ⟨r, hr, h⟩ := Option.bind_eq_some_iff.1 h
    exact ⟨_, _, _, spec_l01In.con k _ _ _ r hr, h⟩
  · cases h

/-! ### spec_ArenaOk: function 75 -/
noncomputable def spec_ArenaOk.sp : Nat → Option (Spec Ty) := fun r => bif Nat.beq r 2 then some ⟨[(1, .box [.keep]), (3, .keep)], []⟩ else bif Nat.beq r 8 then some ⟨[(1, .box [.keep]), (3, .keep), (4, .box [.keep, .keep]), (5, .keep)], []⟩ else none
noncomputable def spec_ArenaOk.en : Option (Spec Ty) := none
noncomputable def spec_ArenaOk.s2 (x3 : Int) (h64_0 : List S88) : St Ty D := ⟨(Env.put (Env.put E (some 1) (.pt 64 0 0)) (some 3) (.sc (.int .i64 x3))), Heap.put H0 [(64, some (.box [.row 0 .t88 h64_0]))], 1000⟩
noncomputable def spec_ArenaOk.s8 (x3 : Int) (x5 : Int) (h64_0 : List S88) (h65_0 : Bool) (h65_1 : List Int) : St Ty D := ⟨(Env.put (Env.put (Env.put (Env.put E (some 1) (.pt 64 0 0)) (some 3) (.sc (.int .i64 x3))) (some 4) (.pt 65 0 0)) (some 5) (.sc (.int .i64 x5))), Heap.put H0 [(64, some (.box [.row 0 .t88 h64_0])), (65, some (.box [.sc (.bool h65_0), .row 0 .t3 h65_1]))], 1000⟩
noncomputable def spec_ArenaOk.ctx (k : Nat) : Ctx Ty D := (cons 76 (spec_l01In.x k) (fun _ _ _ _ => none))
mutual
noncomputable def spec_ArenaOk.c2 : Nat → Int → (List S88) → Option (Bool)
  | 0, _, _ => none
  | k + 1, x3, h64_0 => (if x3 < (h64_0.length : Int) then (if 0 ≤ x3 then (if x3 < (h64_0.length : Int) then (if (((rd_T88 h64_0 x3).f1).length : Int) = 4 then (spec_ArenaOk.c8 k x3 0 h64_0 ((rd_T88 h64_0 x3).f0) ((rd_T88 h64_0 x3).f1)) else (some (false))) else none) else none) else (some (true)))
noncomputable def spec_ArenaOk.c8 : Nat → Int → Int → (List S88) → Bool → (List Int) → Option (Bool)
  | 0, _, _, _, _, _ => none
  | k + 1, x3, x5, h64_0, h65_0, h65_1 => (if x5 < 4 then (if 0 ≤ x5 then (if x5 < (h65_1.length : Int) then (if h65_0 = true then (if (rd_T3 h65_1 x5) < 0 then (some (false)) else (if h65_0 = true then (spec_ArenaOk.c8 k x3 (w64 (x5 + 1)) h64_0 h65_0 h65_1) else (if (rd_T3 h65_1 x5) = (-1) then (spec_ArenaOk.c8 k x3 (w64 (x5 + 1)) h64_0 h65_0 h65_1) else ((spec_l01In.f k (rd_T3 h65_1 x5) 0 (w64 (x3 - 1))).bind fun t1 => (if t1 = true then (if 0 ≤ (rd_T3 h65_1 x5) then (if (rd_T3 h65_1 x5) < (h64_0.length : Int) then (if ((rd_T88 h64_0 (rd_T3 h65_1 x5)).f0) = true then (spec_ArenaOk.c8 k x3 (w64 (x5 + 1)) h64_0 h65_0 h65_1) else (some (false))) else none) else none) else (some (false))))))) else (if h65_0 = true then (spec_ArenaOk.c8 k x3 (w64 (x5 + 1)) h64_0 h65_0 h65_1) else (if (rd_T3 h65_1 x5) = (-1) then (spec_ArenaOk.c8 k x3 (w64 (x5 + 1)) h64_0 h65_0 h65_1) else ((spec_l01In.f k (rd_T3 h65_1 x5) 0 (w64 (x3 - 1))).bind fun t2 => (if t2 = true then (if 0 ≤ (rd_T3 h65_1 x5) then (if (rd_T3 h65_1 x5) < (h64_0.length : Int) then (if ((rd_T88 h64_0 (rd_T3 h65_1 x5)).f0) = true then (spec_ArenaOk.c8 k x3 (w64 (x5 + 1)) h64_0 h65_0 h65_1) else (some (false))) else none) else none) else (some (false))))))) else none) else none) else (spec_ArenaOk.c2 k (w64 (x3 + 1)) h64_0))
end
noncomputable def spec_ArenaOk.f (k : Nat) (a0_0 : List S88) : Option (Bool) := (spec_ArenaOk.c2 k 0 a0_0)
noncomputable def spec_ArenaOk.e (r : Bool) : Res Ty D := (.sc (.bool r), [], [])
noncomputable abbrev spec_ArenaOk.g (rec : List Item → St Ty D → R) (k : Nat) := go1 Try.f75 (spec_ArenaOk.ctx k) spec_ArenaOk.sp 0 spec_ArenaOk.en rec
set_option maxRecDepth 100000 in
theorem spec_ArenaOk.t2 (rec : List Item → St Ty D → R) (k : Nat) (x3 : Int) (h64_0 : List S88) : spec_ArenaOk.g rec k (td Try.f75 2) (spec_ArenaOk.s2 x3 h64_0) =
  bif decide (x3 < (h64_0.length : Int)) then bif decide (0 ≤ x3) then bif decide (x3 < (h64_0.length : Int)) then bif !decide ((((rd_T88 h64_0 x3).f1).length : Int) = 4) then some (spec_ArenaOk.e (false)) else rec (td Try.f75 8) (spec_ArenaOk.s8 x3 0 h64_0 ((rd_T88 h64_0 x3).f0) ((rd_T88 h64_0 x3).f1)) else none else none else some (spec_ArenaOk.e (true)) := by kernel_rfl
set_option maxRecDepth 100000 in
theorem spec_ArenaOk.t8 (rec : List Item → St Ty D → R) (k : Nat) (x3 : Int) (x5 : Int) (h64_0 : List S88) (h65_0 : Bool) (h65_1 : List Int) : spec_ArenaOk.g rec k (td Try.f75 8) (spec_ArenaOk.s8 x3 x5 h64_0 h65_0 h65_1) =
  bif decide (x5 < 4) then bif decide (0 ≤ x5) then bif decide (x5 < (h65_1.length : Int)) then bif h65_0 then bif decide ((rd_T3 h65_1 x5) < 0) then some (spec_ArenaOk.e (false)) else bif !h65_0 then bif !decide ((rd_T3 h65_1 x5) = (-1)) then (spec_l01In.f k (rd_T3 h65_1 x5) 0 (w64 (x3 - 1))).bind fun t1 => bif !t1 then some (spec_ArenaOk.e (false)) else bif decide (0 ≤ (rd_T3 h65_1 x5)) then bif decide ((rd_T3 h65_1 x5) < (h64_0.length : Int)) then bif !((rd_T88 h64_0 (rd_T3 h65_1 x5)).f0) then some (spec_ArenaOk.e (false)) else rec (td Try.f75 8) (spec_ArenaOk.s8 x3 (w64 (x5 + 1)) h64_0 h65_0 h65_1) else none else none else rec (td Try.f75 8) (spec_ArenaOk.s8 x3 (w64 (x5 + 1)) h64_0 h65_0 h65_1) else rec (td Try.f75 8) (spec_ArenaOk.s8 x3 (w64 (x5 + 1)) h64_0 h65_0 h65_1) else bif !h65_0 then bif !decide ((rd_T3 h65_1 x5) = (-1)) then (spec_l01In.f k (rd_T3 h65_1 x5) 0 (w64 (x3 - 1))).bind fun t2 => bif !t2 then some (spec_ArenaOk.e (false)) else bif decide (0 ≤ (rd_T3 h65_1 x5)) then bif decide ((rd_T3 h65_1 x5) < (h64_0.length : Int)) then bif !((rd_T88 h64_0 (rd_T3 h65_1 x5)).f0) then some (spec_ArenaOk.e (false)) else rec (td Try.f75 8) (spec_ArenaOk.s8 x3 (w64 (x5 + 1)) h64_0 h65_0 h65_1) else none else none else rec (td Try.f75 8) (spec_ArenaOk.s8 x3 (w64 (x5 + 1)) h64_0 h65_0 h65_1) else rec (td Try.f75 8) (spec_ArenaOk.s8 x3 (w64 (x5 + 1)) h64_0 h65_0 h65_1) else none else none else rec (td Try.f75 2) (spec_ArenaOk.s2 (w64 (x3 + 1)) h64_0) := by kernel_rfl
set_option maxRecDepth 100000 in
theorem spec_ArenaOk.te (rec : List Item → St Ty D → R) (k : Nat) (a0_0 : List S88) : spec_ArenaOk.g rec k [.code (body Try.f75)] (startSt [.ag [.row 0 .t88 a0_0]] []) =
  rec (td Try.f75 2) (spec_ArenaOk.s2 0 a0_0) := by kernel_rfl
set_option maxRecDepth 100000 in
theorem spec_ArenaOk.ok : ∀ k : Nat, (∀ (x3 : Int) (h64_0 : List S88), goF Try.f75 spec_ArenaOk.ctx spec_ArenaOk.sp 0 spec_ArenaOk.en k (td Try.f75 2) (spec_ArenaOk.s2 x3 h64_0) = (spec_ArenaOk.c2 k x3 h64_0).map spec_ArenaOk.e) ∧ (∀ (x3 : Int) (x5 : Int) (h64_0 : List S88) (h65_0 : Bool) (h65_1 : List Int), goF Try.f75 spec_ArenaOk.ctx spec_ArenaOk.sp 0 spec_ArenaOk.en k (td Try.f75 8) (spec_ArenaOk.s8 x3 x5 h64_0 h65_0 h65_1) = (spec_ArenaOk.c8 k x3 x5 h64_0 h65_0 h65_1).map spec_ArenaOk.e)
  | 0 => ⟨fun _ _ => rfl, fun _ _ _ _ _ => rfl⟩
  | k + 1 => by
    have ih := spec_ArenaOk.ok k
    obtain ⟨i2, i8⟩ := ih
    refine ⟨?_, ?_⟩
    · intro x3 h64_0; rw [spec_ArenaOk.c2]; exact (spec_ArenaOk.t2 _ k x3 h64_0).trans (cd (cd (cd (nd rfl (i8 _ _ _ _ _)) rfl) rfl) rfl)
    · intro x3 x5 h64_0 h65_0 h65_1; rw [spec_ArenaOk.c8]; exact (spec_ArenaOk.t8 _ k x3 x5 h64_0 h65_0 h65_1).trans (cd (cd (cd (cb (cd rfl (nb (nd (bn (fun t1 => (nb rfl (cd (cd (nb rfl (i8 _ _ _ _ _)) rfl) rfl)))) (i8 _ _ _ _ _)) (i8 _ _ _ _ _))) (nb (nd (bn (fun t2 => (nb rfl (cd (cd (nb rfl (i8 _ _ _ _ _)) rfl) rfl)))) (i8 _ _ _ _ _)) (i8 _ _ _ _ _))) rfl) rfl) (i2 _ _))
set_option maxRecDepth 100000 in
theorem spec_ArenaOk.oke (k : Nat) (a0_0 : List S88) : goF Try.f75 spec_ArenaOk.ctx spec_ArenaOk.sp 0 spec_ArenaOk.en (k + 1) [.code (body Try.f75)] (startSt [.ag [.row 0 .t88 a0_0]] []) = (spec_ArenaOk.f k a0_0).map spec_ArenaOk.e := by
  obtain ⟨i2, i8⟩ := spec_ArenaOk.ok k
  rw [spec_ArenaOk.f]; exact (spec_ArenaOk.te _ k a0_0).trans (i2 _ _)
theorem spec_ArenaOk.con (k : Nat) (a0_0 : List S88) (r) (h : spec_ArenaOk.f k a0_0 = some r) : Contract Try.prog kit 75 [.ag [.row 0 .t88 a0_0]] [] (spec_ArenaOk.e r).1 (spec_ArenaOk.e r).2.1 (spec_ArenaOk.e r).2.2 :=
  con_okG kitOk mix (fun k => (CtxOk.cons (spec_l01In.xok k) CtxOk.nil)) (spec_ArenaOk.oke k a0_0) h (by kernel_rfl) (by kernel_rfl) (by kernel_rfl) rfl (by kernel_rfl) rfl rfl
noncomputable def spec_ArenaOk.x (k : Nat) : X := fun ins bs κ => match ins, bs with
  | [.ag [.row 0 .t88 a0_0]], [] => (spec_ArenaOk.f k a0_0).bind fun r => κ (spec_ArenaOk.e r).1 (spec_ArenaOk.e r).2.1 (spec_ArenaOk.e r).2.2
  | _, _ => none
theorem spec_ArenaOk.xok (k : Nat) : XOk 75 (spec_ArenaOk.x k) := by
  intro ins bs κ res h
  unfold spec_ArenaOk.x at h
  split at h
  · obtain ⟨r, hr, h⟩ := Option.bind_eq_some_iff.1 h
    exact ⟨_, _, _, spec_ArenaOk.con k _ r hr, h⟩
  · cases h

/-! ### spec_l11Root: function 77 -/
noncomputable def spec_l11Root.sp : Nat → Option (Spec Ty) := fun r => none
noncomputable def spec_l11Root.en : Option (Spec Ty) := none
noncomputable def spec_l11Root.ctx (k : Nat) : Ctx Ty D := (cons 76 (spec_l01In.x k) (fun _ _ _ _ => none))
noncomputable def spec_l11Root.f (k : Nat) (a0_0 : List S88) (a1 : Int) : Option (Bool) := (if a1 = (-1) then (some (true)) else ((spec_l01In.f k a1 0 (w64 ((a0_0.length : Int) - 1))).bind fun t1 => (if t1 = true then (if 0 ≤ a1 then (if a1 < (a0_0.length : Int) then (some ((!((rd_T88 a0_0 a1).f0)))) else none) else none) else (some (false)))))
noncomputable def spec_l11Root.e (r : Bool) : Res Ty D := (.sc (.bool r), [], [])
noncomputable abbrev spec_l11Root.g (rec : List Item → St Ty D → R) (k : Nat) := go1 Try.f77 (spec_l11Root.ctx k) spec_l11Root.sp 0 spec_l11Root.en rec
set_option maxRecDepth 100000 in
theorem spec_l11Root.te (rec : List Item → St Ty D → R) (k : Nat) (a0_0 : List S88) (a1 : Int) : spec_l11Root.g rec k [.code (body Try.f77)] (startSt [.ag [.row 0 .t88 a0_0], .sc (.int .i64 a1)] []) =
  bif decide (a1 = (-1)) then some (spec_l11Root.e (true)) else (spec_l01In.f k a1 0 (w64 ((a0_0.length : Int) - 1))).bind fun t1 => bif t1 then bif decide (0 ≤ a1) then bif decide (a1 < (a0_0.length : Int)) then some (spec_l11Root.e ((!((rd_T88 a0_0 a1).f0)))) else none else none else some (spec_l11Root.e (false)) := by kernel_rfl
set_option maxRecDepth 100000 in
theorem spec_l11Root.oke (k : Nat) (a0_0 : List S88) (a1 : Int) : goF Try.f77 spec_l11Root.ctx spec_l11Root.sp 0 spec_l11Root.en (k + 1) [.code (body Try.f77)] (startSt [.ag [.row 0 .t88 a0_0], .sc (.int .i64 a1)] []) = (spec_l11Root.f k a0_0 a1).map spec_l11Root.e := by
  rw [spec_l11Root.f]; exact (spec_l11Root.te _ k a0_0 a1).trans (cd rfl (bn (fun t1 => (cb (cd (cd rfl rfl) rfl) rfl))))
theorem spec_l11Root.con (k : Nat) (a0_0 : List S88) (a1 : Int) (r) (h : spec_l11Root.f k a0_0 a1 = some r) : Contract Try.prog kit 77 [.ag [.row 0 .t88 a0_0], .sc (.int .i64 a1)] [] (spec_l11Root.e r).1 (spec_l11Root.e r).2.1 (spec_l11Root.e r).2.2 :=
  con_okG kitOk mix (fun k => (CtxOk.cons (spec_l01In.xok k) CtxOk.nil)) (spec_l11Root.oke k a0_0 a1) h (by kernel_rfl) (by kernel_rfl) (by kernel_rfl) rfl (by kernel_rfl) rfl rfl
noncomputable def spec_l11Root.x (k : Nat) : X := fun ins bs κ => match ins, bs with
  | [.ag [.row 0 .t88 a0_0], .sc (.int .i64 a1)], [] => (spec_l11Root.f k a0_0 a1).bind fun r => κ (spec_l11Root.e r).1 (spec_l11Root.e r).2.1 (spec_l11Root.e r).2.2
  | _, _ => none
theorem spec_l11Root.xok (k : Nat) : XOk 77 (spec_l11Root.x k) := by
  intro ins bs κ res h
  unfold spec_l11Root.x at h
  split at h
  · obtain ⟨r, hr, h⟩ := Option.bind_eq_some_iff.1 h
    exact ⟨_, _, _, spec_l11Root.con k _ _ r hr, h⟩
  · cases h

/-! ### spec_l11Get: function 78 -/
noncomputable def spec_l11Get.sp : Nat → Option (Spec Ty) := fun r => none
noncomputable def spec_l11Get.en : Option (Spec Ty) := none
noncomputable def spec_l11Get.ctx (k : Nat) : Ctx Ty D := (fun _ _ _ _ => none)
noncomputable def spec_l11Get.f (k : Nat) (a0_0 : List S88) (a1 : Int) (a2 : Int) : Option (Int) := (if a1 < 0 then (some (0)) else (if 0 ≤ a1 then (if a1 < (a0_0.length : Int) then (if 0 ≤ (w64 (Int.tdiv a2 4)) then (if (w64 (Int.tdiv a2 4)) < (((rd_T88 a0_0 a1).f1).length : Int) then (if (rd_T3 ((rd_T88 a0_0 a1).f1) (w64 (Int.tdiv a2 4))) < 0 then (some (0)) else (if 0 ≤ (rd_T3 ((rd_T88 a0_0 a1).f1) (w64 (Int.tdiv a2 4))) then (if (rd_T3 ((rd_T88 a0_0 a1).f1) (w64 (Int.tdiv a2 4))) < (a0_0.length : Int) then (if 0 ≤ (Int.tmod a2 4) then (if (Int.tmod a2 4) < (((rd_T88 a0_0 (rd_T3 ((rd_T88 a0_0 a1).f1) (w64 (Int.tdiv a2 4)))).f1).length : Int) then (some ((rd_T3 ((rd_T88 a0_0 (rd_T3 ((rd_T88 a0_0 a1).f1) (w64 (Int.tdiv a2 4)))).f1) (Int.tmod a2 4)))) else none) else none) else none) else none)) else none) else none) else none) else none))
noncomputable def spec_l11Get.e (r : Int) : Res Ty D := (.sc (.int .i64 r), [], [])
noncomputable abbrev spec_l11Get.g (rec : List Item → St Ty D → R) (k : Nat) := go1 Try.f78 (spec_l11Get.ctx k) spec_l11Get.sp 0 spec_l11Get.en rec
set_option maxRecDepth 100000 in
theorem spec_l11Get.te (rec : List Item → St Ty D → R) (k : Nat) (a0_0 : List S88) (a1 : Int) (a2 : Int) : spec_l11Get.g rec k [.code (body Try.f78)] (startSt [.ag [.row 0 .t88 a0_0], .sc (.int .i64 a1), .sc (.int .i64 a2)] []) =
  bif decide (a1 < 0) then some (spec_l11Get.e (0)) else bif decide (0 ≤ a1) then bif decide (a1 < (a0_0.length : Int)) then bif decide (0 ≤ (w64 (Int.tdiv a2 4))) then bif decide ((w64 (Int.tdiv a2 4)) < (((rd_T88 a0_0 a1).f1).length : Int)) then bif decide ((rd_T3 ((rd_T88 a0_0 a1).f1) (w64 (Int.tdiv a2 4))) < 0) then some (spec_l11Get.e (0)) else bif decide (0 ≤ (rd_T3 ((rd_T88 a0_0 a1).f1) (w64 (Int.tdiv a2 4)))) then bif decide ((rd_T3 ((rd_T88 a0_0 a1).f1) (w64 (Int.tdiv a2 4))) < (a0_0.length : Int)) then bif decide (0 ≤ (Int.tmod a2 4)) then bif decide ((Int.tmod a2 4) < (((rd_T88 a0_0 (rd_T3 ((rd_T88 a0_0 a1).f1) (w64 (Int.tdiv a2 4)))).f1).length : Int)) then some (spec_l11Get.e ((rd_T3 ((rd_T88 a0_0 (rd_T3 ((rd_T88 a0_0 a1).f1) (w64 (Int.tdiv a2 4)))).f1) (Int.tmod a2 4)))) else none else none else none else none else none else none else none else none := by kernel_rfl
set_option maxRecDepth 100000 in
theorem spec_l11Get.oke (k : Nat) (a0_0 : List S88) (a1 : Int) (a2 : Int) : goF Try.f78 spec_l11Get.ctx spec_l11Get.sp 0 spec_l11Get.en (k + 1) [.code (body Try.f78)] (startSt [.ag [.row 0 .t88 a0_0], .sc (.int .i64 a1), .sc (.int .i64 a2)] []) = (spec_l11Get.f k a0_0 a1 a2).map spec_l11Get.e := by
  rw [spec_l11Get.f]; exact (spec_l11Get.te _ k a0_0 a1 a2).trans (cd rfl (cd (cd (cd (cd (cd rfl (cd (cd (cd (cd rfl rfl) rfl) rfl) rfl)) rfl) rfl) rfl) rfl))
theorem spec_l11Get.con (k : Nat) (a0_0 : List S88) (a1 : Int) (a2 : Int) (r) (h : spec_l11Get.f k a0_0 a1 a2 = some r) : Contract Try.prog kit 78 [.ag [.row 0 .t88 a0_0], .sc (.int .i64 a1), .sc (.int .i64 a2)] [] (spec_l11Get.e r).1 (spec_l11Get.e r).2.1 (spec_l11Get.e r).2.2 :=
  con_okG kitOk mix (fun k => CtxOk.nil) (spec_l11Get.oke k a0_0 a1 a2) h (by kernel_rfl) (by kernel_rfl) (by kernel_rfl) rfl (by kernel_rfl) rfl rfl
noncomputable def spec_l11Get.x (k : Nat) : X := fun ins bs κ => match ins, bs with
  | [.ag [.row 0 .t88 a0_0], .sc (.int .i64 a1), .sc (.int .i64 a2)], [] => (spec_l11Get.f k a0_0 a1 a2).bind fun r => κ (spec_l11Get.e r).1 (spec_l11Get.e r).2.1 (spec_l11Get.e r).2.2
  | _, _ => none
theorem spec_l11Get.xok (k : Nat) : XOk 78 (spec_l11Get.x k) := by
  intro ins bs κ res h
  unfold spec_l11Get.x at h
  split at h
  · obtain ⟨r, hr, h⟩ := Option.bind_eq_some_iff.1 h
    exact ⟨_, _, _, spec_l11Get.con k _ _ _ r hr, h⟩
  · cases h

/-! ### spec_l11Copy: function 81 -/
noncomputable def spec_l11Copy.sp : Nat → Option (Spec Ty) := fun r => bif Nat.beq r 3 then some ⟨[(1, .box [.keep]), (2, .box [.own .t88]), (3, .box [.own .t88]), (4, .keep)], []⟩ else none
noncomputable def spec_l11Copy.en : Option (Spec Ty) := some ⟨[(2, .box [.own .t88])], []⟩
noncomputable def spec_l11Copy.s3 (x4 : Int) (h64_0 : List S88) (h66 : List S88) (h68 : List S88) : St Ty D := ⟨(Env.put (Env.put (Env.put (Env.put E (some 1) (.pt 64 0 0)) (some 2) (.pt 65 0 0)) (some 3) (.pt 67 0 0)) (some 4) (.sc (.int .i64 x4))), Heap.put H0 [(64, some (.box [.row 0 .t88 h64_0])), (66, some (.rowb .t88 h66 0)), (65, some (.box [.sl 66 none])), (68, some (.rowb .t88 h68 0)), (67, some (.box [.sl 68 none]))], 1000⟩
noncomputable def spec_l11Copy.ctx (k : Nat) : Ctx Ty D := (fun _ _ _ _ => none)
noncomputable def spec_l11Copy.c3 : Nat → Int → (List S88) → (List S88) → (List S88) → Option ((List S88))
  | 0, _, _, _, _ => none
  | k + 1, x4, h64_0, h66, h68 => (if x4 < (h64_0.length : Int) then (if 0 ≤ x4 then (if x4 < (h64_0.length : Int) then (if 0 ≤ x4 then (if x4 < (h64_0.length : Int) then (if ([] : List Int).length + ((rd_T88 h64_0 x4).f1).length ≤ 17592186044416 then (if h68.length + ([(S88.mk ((rd_T88 h64_0 x4).f0) (([] : List Int) ++ ((rd_T88 h64_0 x4).f1)))] : List S88).length ≤ 4398046511104 then (spec_l11Copy.c3 k (w64 (x4 + 1)) h64_0 h66 (h68 ++ ([(S88.mk ((rd_T88 h64_0 x4).f0) (([] : List Int) ++ ((rd_T88 h64_0 x4).f1)))] : List S88))) else none) else none) else none) else none) else none) else none) else (some (h68)))
noncomputable def spec_l11Copy.f (k : Nat) (a0_0 : List S88) : Option ((List S88)) := (spec_l11Copy.c3 k 0 a0_0 ([] : List S88) ([] : List S88))
noncomputable def spec_l11Copy.e (r : (List S88)) : Res Ty D := (.ag [.sl 0 none], [], [.rowb .t88 r 0])
noncomputable abbrev spec_l11Copy.g (rec : List Item → St Ty D → R) (k : Nat) := go1 Try.f81 (spec_l11Copy.ctx k) spec_l11Copy.sp 0 spec_l11Copy.en rec
set_option maxRecDepth 100000 in
theorem spec_l11Copy.t3 (rec : List Item → St Ty D → R) (k : Nat) (x4 : Int) (h64_0 : List S88) (h66 : List S88) (h68 : List S88) : spec_l11Copy.g rec k (td Try.f81 3) (spec_l11Copy.s3 x4 h64_0 h66 h68) =
  bif decide (x4 < (h64_0.length : Int)) then bif decide (0 ≤ x4) then bif decide (x4 < (h64_0.length : Int)) then bif decide (0 ≤ x4) then bif decide (x4 < (h64_0.length : Int)) then bif decide (([] : List Int).length + ((rd_T88 h64_0 x4).f1).length ≤ 17592186044416) then bif decide (h68.length + ([(S88.mk ((rd_T88 h64_0 x4).f0) (([] : List Int) ++ ((rd_T88 h64_0 x4).f1)))] : List S88).length ≤ 4398046511104) then rec (td Try.f81 3) (spec_l11Copy.s3 (w64 (x4 + 1)) h64_0 h66 (h68 ++ ([(S88.mk ((rd_T88 h64_0 x4).f0) (([] : List Int) ++ ((rd_T88 h64_0 x4).f1)))] : List S88))) else none else none else none else none else none else none else some (spec_l11Copy.e (h68)) := by kernel_rfl
set_option maxRecDepth 100000 in
theorem spec_l11Copy.te (rec : List Item → St Ty D → R) (k : Nat) (a0_0 : List S88) : spec_l11Copy.g rec k [.code (body Try.f81)] (startSt [.ag [.row 0 .t88 a0_0]] []) =
  rec (td Try.f81 3) (spec_l11Copy.s3 0 a0_0 ([] : List S88) ([] : List S88)) := by kernel_rfl
set_option maxRecDepth 100000 in
theorem spec_l11Copy.ok : ∀ k : Nat, (∀ (x4 : Int) (h64_0 : List S88) (h66 : List S88) (h68 : List S88), goF Try.f81 spec_l11Copy.ctx spec_l11Copy.sp 0 spec_l11Copy.en k (td Try.f81 3) (spec_l11Copy.s3 x4 h64_0 h66 h68) = (spec_l11Copy.c3 k x4 h64_0 h66 h68).map spec_l11Copy.e)
  | 0 => fun _ _ _ _ => rfl
  | k + 1 => by
    have ih := spec_l11Copy.ok k
    have i3 := ih
    intro x4 h64_0 h66 h68; rw [spec_l11Copy.c3]; exact (spec_l11Copy.t3 _ k x4 h64_0 h66 h68).trans (cd (cd (cd (cd (cd (cd (cd (i3 _ _ _ _) rfl) rfl) rfl) rfl) rfl) rfl) rfl)
set_option maxRecDepth 100000 in
theorem spec_l11Copy.oke (k : Nat) (a0_0 : List S88) : goF Try.f81 spec_l11Copy.ctx spec_l11Copy.sp 0 spec_l11Copy.en (k + 1) [.code (body Try.f81)] (startSt [.ag [.row 0 .t88 a0_0]] []) = (spec_l11Copy.f k a0_0).map spec_l11Copy.e := by
  have i3 := spec_l11Copy.ok k
  rw [spec_l11Copy.f]; exact (spec_l11Copy.te _ k a0_0).trans (i3 _ _ _ _)
theorem spec_l11Copy.con (k : Nat) (a0_0 : List S88) (r) (h : spec_l11Copy.f k a0_0 = some r) : Contract Try.prog kit 81 [.ag [.row 0 .t88 a0_0]] [] (spec_l11Copy.e r).1 (spec_l11Copy.e r).2.1 (spec_l11Copy.e r).2.2 :=
  con_okG kitOk mix (fun k => CtxOk.nil) (spec_l11Copy.oke k a0_0) h (by kernel_rfl) (by kernel_rfl) (by kernel_rfl) rfl (by kernel_rfl) rfl rfl
noncomputable def spec_l11Copy.x (k : Nat) : X := fun ins bs κ => match ins, bs with
  | [.ag [.row 0 .t88 a0_0]], [] => (spec_l11Copy.f k a0_0).bind fun r => κ (spec_l11Copy.e r).1 (spec_l11Copy.e r).2.1 (spec_l11Copy.e r).2.2
  | _, _ => none
theorem spec_l11Copy.xok (k : Nat) : XOk 81 (spec_l11Copy.x k) := by
  intro ins bs κ res h
  unfold spec_l11Copy.x at h
  split at h
  · obtain ⟨r, hr, h⟩ := Option.bind_eq_some_iff.1 h
    exact ⟨_, _, _, spec_l11Copy.con k _ r hr, h⟩
  · cases h

/-! ### spec_l11Has: function 97 -/
noncomputable def spec_l11Has.sp : Nat → Option (Spec Ty) := fun r => bif Nat.beq r 6 then some ⟨[(1, .keep), (2, .box [.keep]), (5, .own .t4), (6, .keep)], []⟩ else none
noncomputable def spec_l11Has.en : Option (Spec Ty) := some ⟨[(4, .own .t4)], []⟩
noncomputable def spec_l11Has.s6 (x1 : Int) (x6 : Int) (h64_0 : List S88) (h65 : List Bool) : St Ty D := ⟨(Env.put (Env.put (Env.put (Env.put E (some 1) (.sc (.int .i64 x1))) (some 2) (.pt 64 0 0)) (some 5) (.sl 65 none)) (some 6) (.sc (.int .i64 x6))), Heap.put H0 [(64, some (.box [.row 0 .t88 h64_0])), (65, some (.rowb .t4 h65 0))], 1000⟩
noncomputable def spec_l11Has.ctx (k : Nat) : Ctx Ty D := (fun _ _ _ _ => none)
noncomputable def spec_l11Has.c6 : Nat → Int → Int → (List S88) → (List Bool) → Option ((List Bool))
  | 0, _, _, _, _ => none
  | k + 1, x1, x6, h64_0, h65 => (if x6 < 4 then (if 0 ≤ x1 then (if x1 < (h64_0.length : Int) then (if 0 ≤ x6 then (if x6 < (((rd_T88 h64_0 x1).f1).length : Int) then (if (rd_T3 ((rd_T88 h64_0 x1).f1) x6) ≥ 0 then (if 0 ≤ x1 then (if x1 < (h64_0.length : Int) then (if 0 ≤ x6 then (if x6 < (((rd_T88 h64_0 x1).f1).length : Int) then (if 0 ≤ (rd_T3 ((rd_T88 h64_0 x1).f1) x6) then (if (rd_T3 ((rd_T88 h64_0 x1).f1) x6) < (h65.length : Int) then (spec_l11Has.c6 k x1 (w64 (x6 + 1)) h64_0 (h65.set ((rd_T3 ((rd_T88 h64_0 x1).f1) x6).toNat) true)) else none) else none) else none) else none) else none) else none) else (spec_l11Has.c6 k x1 (w64 (x6 + 1)) h64_0 h65)) else none) else none) else none) else none) else (some (h65)))
noncomputable def spec_l11Has.f (k : Nat) (a0_0 : List S88) (a1 : Int) : Option ((List Bool)) := (if 0 ≤ (a0_0.length : Int) then (if (a0_0.length : Int).toNat ≤ 281474976710656 then (if a1 < 0 then (some ((List.replicate ((a0_0.length : Int).toNat) z4))) else (if 0 ≤ a1 then (if a1 < ((List.replicate ((a0_0.length : Int).toNat) z4).length : Int) then (spec_l11Has.c6 k a1 0 a0_0 ((List.replicate ((a0_0.length : Int).toNat) z4).set a1.toNat true)) else none) else none)) else none) else none)
noncomputable def spec_l11Has.e (r : (List Bool)) : Res Ty D := (.sl 0 none, [], [.rowb .t4 r 0])
noncomputable abbrev spec_l11Has.g (rec : List Item → St Ty D → R) (k : Nat) := go1 Try.f97 (spec_l11Has.ctx k) spec_l11Has.sp 0 spec_l11Has.en rec
set_option maxRecDepth 100000 in
theorem spec_l11Has.t6 (rec : List Item → St Ty D → R) (k : Nat) (x1 : Int) (x6 : Int) (h64_0 : List S88) (h65 : List Bool) : spec_l11Has.g rec k (td Try.f97 6) (spec_l11Has.s6 x1 x6 h64_0 h65) =
  bif decide (x6 < 4) then bif decide (0 ≤ x1) then bif decide (x1 < (h64_0.length : Int)) then bif decide (0 ≤ x6) then bif decide (x6 < (((rd_T88 h64_0 x1).f1).length : Int)) then bif decide ((rd_T3 ((rd_T88 h64_0 x1).f1) x6) ≥ 0) then bif decide (0 ≤ x1) then bif decide (x1 < (h64_0.length : Int)) then bif decide (0 ≤ x6) then bif decide (x6 < (((rd_T88 h64_0 x1).f1).length : Int)) then bif decide (0 ≤ (rd_T3 ((rd_T88 h64_0 x1).f1) x6)) then bif decide ((rd_T3 ((rd_T88 h64_0 x1).f1) x6) < (h65.length : Int)) then rec (td Try.f97 6) (spec_l11Has.s6 x1 (w64 (x6 + 1)) h64_0 (h65.set ((rd_T3 ((rd_T88 h64_0 x1).f1) x6).toNat) true)) else none else none else none else none else none else none else rec (td Try.f97 6) (spec_l11Has.s6 x1 (w64 (x6 + 1)) h64_0 h65) else none else none else none else none else some (spec_l11Has.e (h65)) := by kernel_rfl
set_option maxRecDepth 100000 in
theorem spec_l11Has.te (rec : List Item → St Ty D → R) (k : Nat) (a0_0 : List S88) (a1 : Int) : spec_l11Has.g rec k [.code (body Try.f97)] (startSt [.ag [.row 0 .t88 a0_0], .sc (.int .i64 a1)] []) =
  bif decide ((a0_0.length : Int) = (a0_0.length : Int)) then bif decide (0 ≤ (a0_0.length : Int)) then bif decide ((a0_0.length : Int).toNat ≤ 281474976710656) then bif decide (a1 < 0) then some (spec_l11Has.e ((List.replicate ((a0_0.length : Int).toNat) z4))) else bif decide (0 ≤ a1) then bif decide (a1 < ((List.replicate ((a0_0.length : Int).toNat) z4).length : Int)) then rec (td Try.f97 6) (spec_l11Has.s6 a1 0 a0_0 ((List.replicate ((a0_0.length : Int).toNat) z4).set a1.toNat true)) else none else none else none else none else none := by kernel_rfl
set_option maxRecDepth 100000 in
theorem spec_l11Has.ok : ∀ k : Nat, (∀ (x1 : Int) (x6 : Int) (h64_0 : List S88) (h65 : List Bool), goF Try.f97 spec_l11Has.ctx spec_l11Has.sp 0 spec_l11Has.en k (td Try.f97 6) (spec_l11Has.s6 x1 x6 h64_0 h65) = (spec_l11Has.c6 k x1 x6 h64_0 h65).map spec_l11Has.e)
  | 0 => fun _ _ _ _ => rfl
  | k + 1 => by
    have ih := spec_l11Has.ok k
    have i6 := ih
    intro x1 x6 h64_0 h65; rw [spec_l11Has.c6]; exact (spec_l11Has.t6 _ k x1 x6 h64_0 h65).trans (cd (cd (cd (cd (cd (cd (cd (cd (cd (cd (cd (cd (i6 _ _ _ _) rfl) rfl) rfl) rfl) rfl) rfl) (i6 _ _ _ _)) rfl) rfl) rfl) rfl) rfl)
set_option maxRecDepth 100000 in
theorem spec_l11Has.oke (k : Nat) (a0_0 : List S88) (a1 : Int) : goF Try.f97 spec_l11Has.ctx spec_l11Has.sp 0 spec_l11Has.en (k + 1) [.code (body Try.f97)] (startSt [.ag [.row 0 .t88 a0_0], .sc (.int .i64 a1)] []) = (spec_l11Has.f k a0_0 a1).map spec_l11Has.e := by
  have i6 := spec_l11Has.ok k
  rw [spec_l11Has.f]; exact (spec_l11Has.te _ k a0_0 a1).trans (sf (cd (cd (cd rfl (cd (cd (i6 _ _ _ _) rfl) rfl)) rfl) rfl))
theorem spec_l11Has.con (k : Nat) (a0_0 : List S88) (a1 : Int) (r) (h : spec_l11Has.f k a0_0 a1 = some r) : Contract Try.prog kit 97 [.ag [.row 0 .t88 a0_0], .sc (.int .i64 a1)] [] (spec_l11Has.e r).1 (spec_l11Has.e r).2.1 (spec_l11Has.e r).2.2 :=
  con_okG kitOk mix (fun k => CtxOk.nil) (spec_l11Has.oke k a0_0 a1) h (by kernel_rfl) (by kernel_rfl) (by kernel_rfl) rfl (by kernel_rfl) rfl rfl
noncomputable def spec_l11Has.x (k : Nat) : X := fun ins bs κ => match ins, bs with
  | [.ag [.row 0 .t88 a0_0], .sc (.int .i64 a1)], [] => (spec_l11Has.f k a0_0 a1).bind fun r => κ (spec_l11Has.e r).1 (spec_l11Has.e r).2.1 (spec_l11Has.e r).2.2
  | _, _ => none
theorem spec_l11Has.xok (k : Nat) : XOk 97 (spec_l11Has.x k) := by
  intro ins bs κ res h
  unfold spec_l11Has.x at h
  split at h
  · obtain ⟨r, hr, h⟩ := Option.bind_eq_some_iff.1 h
    exact ⟨_, _, _, spec_l11Has.con k _ _ r hr, h⟩
  · cases h

/-! ### spec_SweepArena: function 79 -/
noncomputable def spec_SweepArena.sp : Nat → Option (Spec Ty) := fun r => bif Nat.beq r 4 then some ⟨[(1, .keep), (2, .box [.keep]), (4, .box [.own .t88]), (6, .own .t3), (7, .keep), (8, .keep)], []⟩ else bif Nat.beq r 11 then some ⟨[(1, .keep), (2, .box [.keep]), (4, .box [.own .t88]), (6, .own .t3), (9, .own .t4), (10, .keep)], []⟩ else bif Nat.beq r 15 then some ⟨[(1, .keep), (2, .box [.keep]), (4, .box [.own .t88]), (6, .own .t3), (9, .own .t4), (10, .keep), (11, .own .t4), (12, .keep)], []⟩ else bif Nat.beq r 21 then some ⟨[(2, .box [.keep]), (4, .box [.own .t88]), (6, .own .t3), (9, .own .t4), (13, .own .t3), (14, .box [.own .t88]), (15, .keep)], []⟩ else bif Nat.beq r 26 then some ⟨[(2, .box [.keep]), (4, .box [.own .t88]), (6, .own .t3), (9, .own .t4), (13, .own .t3), (14, .box [.own .t88]), (15, .keep), (16, .box [.keep, .own .t3]), (17, .keep)], []⟩ else bif Nat.beq r 33 then some ⟨[(4, .box [.own .t88]), (6, .own .t3), (13, .own .t3), (14, .box [.own .t88]), (18, .keep)], []⟩ else none
noncomputable def spec_SweepArena.en : Option (Spec Ty) := some ⟨[(4, .box [.own .t88]), (5, .own .t3)], []⟩
noncomputable def spec_SweepArena.s4 (x1 : List Int) (x7 : Bool) (x8 : Int) (h64_0 : List S88) (h66 : List S88) (h67 : List Int) : St Ty D := ⟨(Env.put (Env.put (Env.put (Env.put (Env.put (Env.put E (some 1) (.row 0 .t3 x1)) (some 2) (.pt 64 0 0)) (some 4) (.pt 65 0 0)) (some 6) (.sl 67 none)) (some 7) (.sc (.bool x7))) (some 8) (.sc (.int .i64 x8))), Heap.put H0 [(64, some (.box [.row 0 .t88 h64_0])), (66, some (.rowb .t88 h66 0)), (65, some (.box [.sl 66 none])), (67, some (.rowb .t3 h67 0))], 1000⟩
noncomputable def spec_SweepArena.s11 (x1 : List Int) (x10 : Int) (h64_0 : List S88) (h66 : List S88) (h67 : List Int) (h68 : List Bool) : St Ty D := ⟨(Env.put (Env.put (Env.put (Env.put (Env.put (Env.put E (some 1) (.row 0 .t3 x1)) (some 2) (.pt 64 0 0)) (some 4) (.pt 65 0 0)) (some 6) (.sl 67 none)) (some 9) (.sl 68 none)) (some 10) (.sc (.int .i64 x10))), Heap.put H0 [(64, some (.box [.row 0 .t88 h64_0])), (66, some (.rowb .t88 h66 0)), (65, some (.box [.sl 66 none])), (67, some (.rowb .t3 h67 0)), (68, some (.rowb .t4 h68 0))], 1000⟩
noncomputable def spec_SweepArena.s15 (x1 : List Int) (x10 : Int) (x12 : Int) (h64_0 : List S88) (h66 : List S88) (h67 : List Int) (h68 : List Bool) (h69 : List Bool) : St Ty D := ⟨(Env.put (Env.put (Env.put (Env.put (Env.put (Env.put (Env.put (Env.put E (some 1) (.row 0 .t3 x1)) (some 2) (.pt 64 0 0)) (some 4) (.pt 65 0 0)) (some 6) (.sl 67 none)) (some 9) (.sl 68 none)) (some 10) (.sc (.int .i64 x10))) (some 11) (.sl 69 none)) (some 12) (.sc (.int .i64 x12))), Heap.put H0 [(64, some (.box [.row 0 .t88 h64_0])), (66, some (.rowb .t88 h66 0)), (65, some (.box [.sl 66 none])), (67, some (.rowb .t3 h67 0)), (68, some (.rowb .t4 h68 0)), (69, some (.rowb .t4 h69 0))], 1000⟩
noncomputable def spec_SweepArena.s21 (x15 : Int) (h64_0 : List S88) (h66 : List S88) (h67 : List Int) (h68 : List Bool) (h69 : List Int) (h71 : List S88) : St Ty D := ⟨(Env.put (Env.put (Env.put (Env.put (Env.put (Env.put (Env.put E (some 2) (.pt 64 0 0)) (some 4) (.pt 65 0 0)) (some 6) (.sl 67 none)) (some 9) (.sl 68 none)) (some 13) (.sl 69 none)) (some 14) (.pt 70 0 0)) (some 15) (.sc (.int .i64 x15))), Heap.put H0 [(64, some (.box [.row 0 .t88 h64_0])), (66, some (.rowb .t88 h66 0)), (65, some (.box [.sl 66 none])), (67, some (.rowb .t3 h67 0)), (68, some (.rowb .t4 h68 0)), (69, some (.rowb .t3 h69 0)), (71, some (.rowb .t88 h71 0)), (70, some (.box [.sl 71 none]))], 1000⟩
noncomputable def spec_SweepArena.s26 (x15 : Int) (x17 : Int) (h64_0 : List S88) (h66 : List S88) (h67 : List Int) (h68 : List Bool) (h69 : List Int) (h71 : List S88) (h73 : List Int) (h72_0 : Bool) : St Ty D := ⟨(Env.put (Env.put (Env.put (Env.put (Env.put (Env.put (Env.put (Env.put (Env.put E (some 2) (.pt 64 0 0)) (some 4) (.pt 65 0 0)) (some 6) (.sl 67 none)) (some 9) (.sl 68 none)) (some 13) (.sl 69 none)) (some 14) (.pt 70 0 0)) (some 15) (.sc (.int .i64 x15))) (some 16) (.pt 72 0 0)) (some 17) (.sc (.int .i64 x17))), Heap.put H0 [(64, some (.box [.row 0 .t88 h64_0])), (66, some (.rowb .t88 h66 0)), (65, some (.box [.sl 66 none])), (67, some (.rowb .t3 h67 0)), (68, some (.rowb .t4 h68 0)), (69, some (.rowb .t3 h69 0)), (71, some (.rowb .t88 h71 0)), (70, some (.box [.sl 71 none])), (73, some (.rowb .t3 h73 0)), (72, some (.box [.sc (.bool h72_0), .sl 73 none]))], 1000⟩
noncomputable def spec_SweepArena.s33 (x18 : Int) (h65 : List S88) (h66 : List Int) (h67 : List Int) (h69 : List S88) : St Ty D := ⟨(Env.put (Env.put (Env.put (Env.put (Env.put E (some 4) (.pt 64 0 0)) (some 6) (.sl 66 none)) (some 13) (.sl 67 none)) (some 14) (.pt 68 0 0)) (some 18) (.sc (.int .i64 x18))), Heap.put H0 [(65, some (.rowb .t88 h65 0)), (64, some (.box [.sl 65 none])), (66, some (.rowb .t3 h66 0)), (67, some (.rowb .t3 h67 0)), (69, some (.rowb .t88 h69 0)), (68, some (.box [.sl 69 none]))], 1000⟩
noncomputable def spec_SweepArena.ctx (k : Nat) : Ctx Ty D := (cons 75 (spec_ArenaOk.x k) (cons 77 (spec_l11Root.x k) (cons 81 (spec_l11Copy.x k) (cons 97 (spec_l11Has.x k) (fun _ _ _ _ => none)))))
mutual
noncomputable def spec_SweepArena.c4 : Nat → (List Int) → Bool → Int → (List S88) → (List S88) → (List Int) → Option ((List S88) × (List Int))
  | 0, _, _, _, _, _, _ => none
  | k + 1, x1, x7, x8, h64_0, h66, h67 => (if x8 < (x1.length : Int) then (if x7 = true then (if 0 ≤ x8 then (if x8 < (x1.length : Int) then ((spec_l11Root.f k h64_0 (rd_T3 x1 x8)).bind fun t2 => (spec_SweepArena.c4 k x1 t2 (w64 (x8 + 1)) h64_0 h66 h67)) else none) else none) else (if x7 = true then (if 0 ≤ (h64_0.length : Int) then (if (h64_0.length : Int).toNat ≤ 281474976710656 then (spec_SweepArena.c11 k x1 0 h64_0 h66 h67 (List.replicate ((h64_0.length : Int).toNat) z4)) else none) else none) else ((spec_l11Copy.f k h64_0).bind fun t3 => (some (t3, h67))))) else (if x7 = true then (if 0 ≤ (h64_0.length : Int) then (if (h64_0.length : Int).toNat ≤ 281474976710656 then (spec_SweepArena.c11 k x1 0 h64_0 h66 h67 (List.replicate ((h64_0.length : Int).toNat) z4)) else none) else none) else ((spec_l11Copy.f k h64_0).bind fun t4 => (some (t4, h67)))))
noncomputable def spec_SweepArena.c11 : Nat → (List Int) → Int → (List S88) → (List S88) → (List Int) → (List Bool) → Option ((List S88) × (List Int))
  | 0, _, _, _, _, _, _ => none
  | k + 1, x1, x10, h64_0, h66, h67, h68 => (if x10 < (x1.length : Int) then (if 0 ≤ x10 then (if x10 < (x1.length : Int) then ((spec_l11Has.f k h64_0 (rd_T3 x1 x10)).bind fun t5 => (spec_SweepArena.c15 k x1 x10 0 h64_0 h66 h67 h68 t5)) else none) else none) else (if 0 ≤ (h64_0.length : Int) then (if (h64_0.length : Int).toNat ≤ 35184372088832 then (spec_SweepArena.c21 k 0 h64_0 h66 h67 h68 (List.replicate ((h64_0.length : Int).toNat) z3) ([] : List S88)) else none) else none))
noncomputable def spec_SweepArena.c15 : Nat → (List Int) → Int → Int → (List S88) → (List S88) → (List Int) → (List Bool) → (List Bool) → Option ((List S88) × (List Int))
  | 0, _, _, _, _, _, _, _, _ => none
  | k + 1, x1, x10, x12, h64_0, h66, h67, h68, h69 => (if x12 < (h69.length : Int) then (if 0 ≤ x12 then (if x12 < (h68.length : Int) then (if (rd_T4 h68 x12) = true then (if 0 ≤ x12 then (if x12 < (h68.length : Int) then (spec_SweepArena.c15 k x1 x10 (w64 (x12 + 1)) h64_0 h66 h67 (h68.set x12.toNat true) h69) else none) else none) else (if 0 ≤ x12 then (if x12 < (h69.length : Int) then (if 0 ≤ x12 then (if x12 < (h68.length : Int) then (spec_SweepArena.c15 k x1 x10 (w64 (x12 + 1)) h64_0 h66 h67 (h68.set x12.toNat (rd_T4 h69 x12)) h69) else none) else none) else none) else none)) else none) else none) else (spec_SweepArena.c11 k x1 (w64 (x10 + 1)) h64_0 h66 h67 h68))
noncomputable def spec_SweepArena.c21 : Nat → Int → (List S88) → (List S88) → (List Int) → (List Bool) → (List Int) → (List S88) → Option ((List S88) × (List Int))
  | 0, _, _, _, _, _, _, _ => none
  | k + 1, x15, h64_0, h66, h67, h68, h69, h71 => (if x15 < (h64_0.length : Int) then (if 0 ≤ x15 then (if x15 < (h68.length : Int) then (if (rd_T4 h68 x15) = true then (if 0 ≤ x15 then (if x15 < (h64_0.length : Int) then (if 0 ≤ x15 then (if x15 < (h64_0.length : Int) then (if ([] : List Int).length + ((rd_T88 h64_0 x15).f1).length ≤ 17592186044416 then (spec_SweepArena.c26 k x15 0 h64_0 h66 h67 h68 h69 h71 (([] : List Int) ++ ((rd_T88 h64_0 x15).f1)) ((rd_T88 h64_0 x15).f0)) else none) else none) else none) else none) else none) else (spec_SweepArena.c21 k (w64 (x15 + 1)) h64_0 h66 h67 h68 h69 h71)) else none) else none) else (spec_SweepArena.c33 k 0 h66 h67 h69 h71))
noncomputable def spec_SweepArena.c26 : Nat → Int → Int → (List S88) → (List S88) → (List Int) → (List Bool) → (List Int) → (List S88) → (List Int) → Bool → Option ((List S88) × (List Int))
  | 0, _, _, _, _, _, _, _, _, _, _ => none
  | k + 1, x15, x17, h64_0, h66, h67, h68, h69, h71, h73, h72_0 => (if x17 < 4 then (if h72_0 = true then (if 0 ≤ x15 then (if x15 < (h69.length : Int) then (if h71.length + ([(S88.mk h72_0 h73)] : List S88).length ≤ 4398046511104 then (spec_SweepArena.c21 k (w64 (x15 + 1)) h64_0 h66 h67 h68 (h69.set x15.toNat (h71.length : Int)) (h71 ++ ([(S88.mk h72_0 h73)] : List S88))) else none) else none) else none) else (if 0 ≤ x17 then (if x17 < (h73.length : Int) then (if (rd_T3 h73 x17) ≥ 0 then (if 0 ≤ x17 then (if x17 < (h73.length : Int) then (if 0 ≤ (rd_T3 h73 x17) then (if (rd_T3 h73 x17) < (h69.length : Int) then (if 0 ≤ x17 then (if x17 < (h73.length : Int) then (spec_SweepArena.c26 k x15 (w64 (x17 + 1)) h64_0 h66 h67 h68 h69 h71 (h73.set x17.toNat (rd_T3 h69 (rd_T3 h73 x17))) h72_0) else none) else none) else none) else none) else none) else none) else (spec_SweepArena.c26 k x15 (w64 (x17 + 1)) h64_0 h66 h67 h68 h69 h71 h73 h72_0)) else none) else none)) else (if 0 ≤ x15 then (if x15 < (h69.length : Int) then (if h71.length + ([(S88.mk h72_0 h73)] : List S88).length ≤ 4398046511104 then (spec_SweepArena.c21 k (w64 (x15 + 1)) h64_0 h66 h67 h68 (h69.set x15.toNat (h71.length : Int)) (h71 ++ ([(S88.mk h72_0 h73)] : List S88))) else none) else none) else none))
noncomputable def spec_SweepArena.c33 : Nat → Int → (List S88) → (List Int) → (List Int) → (List S88) → Option ((List S88) × (List Int))
  | 0, _, _, _, _, _ => none
  | k + 1, x18, h65, h66, h67, h69 => (if x18 < (h66.length : Int) then (if 0 ≤ x18 then (if x18 < (h66.length : Int) then (if (rd_T3 h66 x18) ≥ 0 then (if 0 ≤ x18 then (if x18 < (h66.length : Int) then (if 0 ≤ (rd_T3 h66 x18) then (if (rd_T3 h66 x18) < (h67.length : Int) then (if 0 ≤ x18 then (if x18 < (h66.length : Int) then (spec_SweepArena.c33 k (w64 (x18 + 1)) h65 (h66.set x18.toNat (rd_T3 h67 (rd_T3 h66 x18))) h67 h69) else none) else none) else none) else none) else none) else none) else (spec_SweepArena.c33 k (w64 (x18 + 1)) h65 h66 h67 h69)) else none) else none) else (some (h69, h66)))
end
noncomputable def spec_SweepArena.f (k : Nat) (a0_0 : List S88) (a1 : List Int) : Option ((List S88) × (List Int)) := (if ([] : List Int).length + a1.length ≤ 17592186044416 then ((spec_ArenaOk.f k a0_0).bind fun t1 => (spec_SweepArena.c4 k a1 t1 0 a0_0 ([] : List S88) (([] : List Int) ++ a1))) else none)
noncomputable def spec_SweepArena.e (r : (List S88) × (List Int)) : Res Ty D := (.tu [.ag [.sl 0 none], .sl 1 none], [], [.rowb .t88 r.1 0, .rowb .t3 r.2 0])
noncomputable abbrev spec_SweepArena.g (rec : List Item → St Ty D → R) (k : Nat) := go1 Try.f79 (spec_SweepArena.ctx k) spec_SweepArena.sp 0 spec_SweepArena.en rec
set_option maxRecDepth 100000 in
theorem spec_SweepArena.t4 (rec : List Item → St Ty D → R) (k : Nat) (x1 : List Int) (x7 : Bool) (x8 : Int) (h64_0 : List S88) (h66 : List S88) (h67 : List Int) : spec_SweepArena.g rec k (td Try.f79 4) (spec_SweepArena.s4 x1 x7 x8 h64_0 h66 h67) =
  bif decide (x8 < (x1.length : Int)) then bif x7 then bif decide (0 ≤ x8) then bif decide (x8 < (x1.length : Int)) then (spec_l11Root.f k h64_0 (rd_T3 x1 x8)).bind fun t2 => rec (td Try.f79 4) (spec_SweepArena.s4 x1 t2 (w64 (x8 + 1)) h64_0 h66 h67) else none else none else bif !x7 then (spec_l11Copy.f k h64_0).bind fun t3 => some (spec_SweepArena.e (t3, h67)) else bif decide ((h64_0.length : Int) = (h64_0.length : Int)) then bif decide (0 ≤ (h64_0.length : Int)) then bif decide ((h64_0.length : Int).toNat ≤ 281474976710656) then rec (td Try.f79 11) (spec_SweepArena.s11 x1 0 h64_0 h66 h67 (List.replicate ((h64_0.length : Int).toNat) z4)) else none else none else none else bif !x7 then (spec_l11Copy.f k h64_0).bind fun t4 => some (spec_SweepArena.e (t4, h67)) else bif decide ((h64_0.length : Int) = (h64_0.length : Int)) then bif decide (0 ≤ (h64_0.length : Int)) then bif decide ((h64_0.length : Int).toNat ≤ 281474976710656) then rec (td Try.f79 11) (spec_SweepArena.s11 x1 0 h64_0 h66 h67 (List.replicate ((h64_0.length : Int).toNat) z4)) else none else none else none := by kernel_rfl
set_option maxRecDepth 100000 in
theorem spec_SweepArena.t11 (rec : List Item → St Ty D → R) (k : Nat) (x1 : List Int) (x10 : Int) (h64_0 : List S88) (h66 : List S88) (h67 : List Int) (h68 : List Bool) : spec_SweepArena.g rec k (td Try.f79 11) (spec_SweepArena.s11 x1 x10 h64_0 h66 h67 h68) =
  bif decide (x10 < (x1.length : Int)) then bif decide (0 ≤ x10) then bif decide (x10 < (x1.length : Int)) then (spec_l11Has.f k h64_0 (rd_T3 x1 x10)).bind fun t5 => rec (td Try.f79 15) (spec_SweepArena.s15 x1 x10 0 h64_0 h66 h67 h68 t5) else none else none else bif decide ((h64_0.length : Int) = (h64_0.length : Int)) then bif decide (0 ≤ (h64_0.length : Int)) then bif decide ((h64_0.length : Int).toNat ≤ 35184372088832) then rec (td Try.f79 21) (spec_SweepArena.s21 0 h64_0 h66 h67 h68 (List.replicate ((h64_0.length : Int).toNat) z3) ([] : List S88)) else none else none else none := by kernel_rfl
set_option maxRecDepth 100000 in
theorem spec_SweepArena.t15 (rec : List Item → St Ty D → R) (k : Nat) (x1 : List Int) (x10 : Int) (x12 : Int) (h64_0 : List S88) (h66 : List S88) (h67 : List Int) (h68 : List Bool) (h69 : List Bool) : spec_SweepArena.g rec k (td Try.f79 15) (spec_SweepArena.s15 x1 x10 x12 h64_0 h66 h67 h68 h69) =
  bif decide (x12 < (h69.length : Int)) then bif decide (0 ≤ x12) then bif decide (x12 < (h68.length : Int)) then bif (rd_T4 h68 x12) then bif decide (0 ≤ x12) then bif decide (x12 < (h68.length : Int)) then rec (td Try.f79 15) (spec_SweepArena.s15 x1 x10 (w64 (x12 + 1)) h64_0 h66 h67 (h68.set x12.toNat true) h69) else none else none else bif decide (0 ≤ x12) then bif decide (x12 < (h69.length : Int)) then bif decide (0 ≤ x12) then bif decide (x12 < (h68.length : Int)) then rec (td Try.f79 15) (spec_SweepArena.s15 x1 x10 (w64 (x12 + 1)) h64_0 h66 h67 (h68.set x12.toNat (rd_T4 h69 x12)) h69) else none else none else none else none else none else none else rec (td Try.f79 11) (spec_SweepArena.s11 x1 (w64 (x10 + 1)) h64_0 h66 h67 h68) := by kernel_rfl
set_option maxRecDepth 100000 in
theorem spec_SweepArena.t21 (rec : List Item → St Ty D → R) (k : Nat) (x15 : Int) (h64_0 : List S88) (h66 : List S88) (h67 : List Int) (h68 : List Bool) (h69 : List Int) (h71 : List S88) : spec_SweepArena.g rec k (td Try.f79 21) (spec_SweepArena.s21 x15 h64_0 h66 h67 h68 h69 h71) =
  bif decide (x15 < (h64_0.length : Int)) then bif decide (0 ≤ x15) then bif decide (x15 < (h68.length : Int)) then bif !(rd_T4 h68 x15) then rec (td Try.f79 21) (spec_SweepArena.s21 (w64 (x15 + 1)) h64_0 h66 h67 h68 h69 h71) else bif decide (0 ≤ x15) then bif decide (x15 < (h64_0.length : Int)) then bif decide (0 ≤ x15) then bif decide (x15 < (h64_0.length : Int)) then bif decide (([] : List Int).length + ((rd_T88 h64_0 x15).f1).length ≤ 17592186044416) then rec (td Try.f79 26) (spec_SweepArena.s26 x15 0 h64_0 h66 h67 h68 h69 h71 (([] : List Int) ++ ((rd_T88 h64_0 x15).f1)) ((rd_T88 h64_0 x15).f0)) else none else none else none else none else none else none else none else rec (td Try.f79 33) (spec_SweepArena.s33 0 h66 h67 h69 h71) := by kernel_rfl
set_option maxRecDepth 100000 in
theorem spec_SweepArena.t26 (rec : List Item → St Ty D → R) (k : Nat) (x15 : Int) (x17 : Int) (h64_0 : List S88) (h66 : List S88) (h67 : List Int) (h68 : List Bool) (h69 : List Int) (h71 : List S88) (h73 : List Int) (h72_0 : Bool) : spec_SweepArena.g rec k (td Try.f79 26) (spec_SweepArena.s26 x15 x17 h64_0 h66 h67 h68 h69 h71 h73 h72_0) =
  bif decide (x17 < 4) then bif !h72_0 then bif decide (0 ≤ x17) then bif decide (x17 < (h73.length : Int)) then bif decide ((rd_T3 h73 x17) ≥ 0) then bif decide (0 ≤ x17) then bif decide (x17 < (h73.length : Int)) then bif decide (0 ≤ (rd_T3 h73 x17)) then bif decide ((rd_T3 h73 x17) < (h69.length : Int)) then bif decide (0 ≤ x17) then bif decide (x17 < (h73.length : Int)) then rec (td Try.f79 26) (spec_SweepArena.s26 x15 (w64 (x17 + 1)) h64_0 h66 h67 h68 h69 h71 (h73.set x17.toNat (rd_T3 h69 (rd_T3 h73 x17))) h72_0) else none else none else none else none else none else none else rec (td Try.f79 26) (spec_SweepArena.s26 x15 (w64 (x17 + 1)) h64_0 h66 h67 h68 h69 h71 h73 h72_0) else none else none else bif decide (0 ≤ x15) then bif decide (x15 < (h69.length : Int)) then bif decide (h71.length + ([(S88.mk h72_0 h73)] : List S88).length ≤ 4398046511104) then rec (td Try.f79 21) (spec_SweepArena.s21 (w64 (x15 + 1)) h64_0 h66 h67 h68 (h69.set x15.toNat (h71.length : Int)) (h71 ++ ([(S88.mk h72_0 h73)] : List S88))) else none else none else none else bif decide (0 ≤ x15) then bif decide (x15 < (h69.length : Int)) then bif decide (h71.length + ([(S88.mk h72_0 h73)] : List S88).length ≤ 4398046511104) then rec (td Try.f79 21) (spec_SweepArena.s21 (w64 (x15 + 1)) h64_0 h66 h67 h68 (h69.set x15.toNat (h71.length : Int)) (h71 ++ ([(S88.mk h72_0 h73)] : List S88))) else none else none else none := by kernel_rfl
set_option maxRecDepth 100000 in
theorem spec_SweepArena.t33 (rec : List Item → St Ty D → R) (k : Nat) (x18 : Int) (h65 : List S88) (h66 : List Int) (h67 : List Int) (h69 : List S88) : spec_SweepArena.g rec k (td Try.f79 33) (spec_SweepArena.s33 x18 h65 h66 h67 h69) =
  bif decide (x18 < (h66.length : Int)) then bif decide (0 ≤ x18) then bif decide (x18 < (h66.length : Int)) then bif decide ((rd_T3 h66 x18) ≥ 0) then bif decide (0 ≤ x18) then bif decide (x18 < (h66.length : Int)) then bif decide (0 ≤ (rd_T3 h66 x18)) then bif decide ((rd_T3 h66 x18) < (h67.length : Int)) then bif decide (0 ≤ x18) then bif decide (x18 < (h66.length : Int)) then rec (td Try.f79 33) (spec_SweepArena.s33 (w64 (x18 + 1)) h65 (h66.set x18.toNat (rd_T3 h67 (rd_T3 h66 x18))) h67 h69) else none else none else none else none else none else none else rec (td Try.f79 33) (spec_SweepArena.s33 (w64 (x18 + 1)) h65 h66 h67 h69) else none else none else some (spec_SweepArena.e (h69, h66)) := by kernel_rfl
set_option maxRecDepth 100000 in
theorem spec_SweepArena.te (rec : List Item → St Ty D → R) (k : Nat) (a0_0 : List S88) (a1 : List Int) : spec_SweepArena.g rec k [.code (body Try.f79)] (startSt [.ag [.row 0 .t88 a0_0], .row 0 .t3 a1] []) =
  bif decide (([] : List Int).length + a1.length ≤ 17592186044416) then (spec_ArenaOk.f k a0_0).bind fun t1 => rec (td Try.f79 4) (spec_SweepArena.s4 a1 t1 0 a0_0 ([] : List S88) (([] : List Int) ++ a1)) else none := by kernel_rfl
set_option maxRecDepth 100000 in
theorem spec_SweepArena.ok : ∀ k : Nat, (∀ (x1 : List Int) (x7 : Bool) (x8 : Int) (h64_0 : List S88) (h66 : List S88) (h67 : List Int), goF Try.f79 spec_SweepArena.ctx spec_SweepArena.sp 0 spec_SweepArena.en k (td Try.f79 4) (spec_SweepArena.s4 x1 x7 x8 h64_0 h66 h67) = (spec_SweepArena.c4 k x1 x7 x8 h64_0 h66 h67).map spec_SweepArena.e) ∧ (∀ (x1 : List Int) (x10 : Int) (h64_0 : List S88) (h66 : List S88) (h67 : List Int) (h68 : List Bool), goF Try.f79 spec_SweepArena.ctx spec_SweepArena.sp 0 spec_SweepArena.en k (td Try.f79 11) (spec_SweepArena.s11 x1 x10 h64_0 h66 h67 h68) = (spec_SweepArena.c11 k x1 x10 h64_0 h66 h67 h68).map spec_SweepArena.e) ∧ (∀ (x1 : List Int) (x10 : Int) (x12 : Int) (h64_0 : List S88) (h66 : List S88) (h67 : List Int) (h68 : List Bool) (h69 : List Bool), goF Try.f79 spec_SweepArena.ctx spec_SweepArena.sp 0 spec_SweepArena.en k (td Try.f79 15) (spec_SweepArena.s15 x1 x10 x12 h64_0 h66 h67 h68 h69) = (spec_SweepArena.c15 k x1 x10 x12 h64_0 h66 h67 h68 h69).map spec_SweepArena.e) ∧ (∀ (x15 : Int) (h64_0 : List S88) (h66 : List S88) (h67 : List Int) (h68 : List Bool) (h69 : List Int) (h71 : List S88), goF Try.f79 spec_SweepArena.ctx spec_SweepArena.sp 0 spec_SweepArena.en k (td Try.f79 21) (spec_SweepArena.s21 x15 h64_0 h66 h67 h68 h69 h71) = (spec_SweepArena.c21 k x15 h64_0 h66 h67 h68 h69 h71).map spec_SweepArena.e) ∧ (∀ (x15 : Int) (x17 : Int) (h64_0 : List S88) (h66 : List S88) (h67 : List Int) (h68 : List Bool) (h69 : List Int) (h71 : List S88) (h73 : List Int) (h72_0 : Bool), goF Try.f79 spec_SweepArena.ctx spec_SweepArena.sp 0 spec_SweepArena.en k (td Try.f79 26) (spec_SweepArena.s26 x15 x17 h64_0 h66 h67 h68 h69 h71 h73 h72_0) = (spec_SweepArena.c26 k x15 x17 h64_0 h66 h67 h68 h69 h71 h73 h72_0).map spec_SweepArena.e) ∧ (∀ (x18 : Int) (h65 : List S88) (h66 : List Int) (h67 : List Int) (h69 : List S88), goF Try.f79 spec_SweepArena.ctx spec_SweepArena.sp 0 spec_SweepArena.en k (td Try.f79 33) (spec_SweepArena.s33 x18 h65 h66 h67 h69) = (spec_SweepArena.c33 k x18 h65 h66 h67 h69).map spec_SweepArena.e)
  | 0 => ⟨fun _ _ _ _ _ _ => rfl, fun _ _ _ _ _ _ => rfl, fun _ _ _ _ _ _ _ _ => rfl, fun _ _ _ _ _ _ _ => rfl, fun _ _ _ _ _ _ _ _ _ _ => rfl, fun _ _ _ _ _ => rfl⟩
  | k + 1 => by
    have ih := spec_SweepArena.ok k
    obtain ⟨i4, i11, i15, i21, i26, i33⟩ := ih
    refine ⟨?_, ?_, ?_, ?_, ?_, ?_⟩
    · intro x1 x7 x8 h64_0 h66 h67; rw [spec_SweepArena.c4]; exact (spec_SweepArena.t4 _ k x1 x7 x8 h64_0 h66 h67).trans (cd (cb (cd (cd (bn (fun t2 => (i4 _ _ _ _ _ _))) rfl) rfl) (nb (bn (fun t3 => rfl)) (sf (cd (cd (i11 _ _ _ _ _ _) rfl) rfl)))) (nb (bn (fun t4 => rfl)) (sf (cd (cd (i11 _ _ _ _ _ _) rfl) rfl))))
    · intro x1 x10 h64_0 h66 h67 h68; rw [spec_SweepArena.c11]; exact (spec_SweepArena.t11 _ k x1 x10 h64_0 h66 h67 h68).trans (cd (cd (cd (bn (fun t5 => (i15 _ _ _ _ _ _ _ _))) rfl) rfl) (sf (cd (cd (i21 _ _ _ _ _ _ _) rfl) rfl)))
    · intro x1 x10 x12 h64_0 h66 h67 h68 h69; rw [spec_SweepArena.c15]; exact (spec_SweepArena.t15 _ k x1 x10 x12 h64_0 h66 h67 h68 h69).trans (cd (cd (cd (cb (cd (cd (i15 _ _ _ _ _ _ _ _) rfl) rfl) (cd (cd (cd (cd (i15 _ _ _ _ _ _ _ _) rfl) rfl) rfl) rfl)) rfl) rfl) (i11 _ _ _ _ _ _))
    · intro x15 h64_0 h66 h67 h68 h69 h71; rw [spec_SweepArena.c21]; exact (spec_SweepArena.t21 _ k x15 h64_0 h66 h67 h68 h69 h71).trans (cd (cd (cd (nb (i21 _ _ _ _ _ _ _) (cd (cd (cd (cd (cd (i26 _ _ _ _ _ _ _ _ _ _) rfl) rfl) rfl) rfl) rfl)) rfl) rfl) (i33 _ _ _ _ _))
    · intro x15 x17 h64_0 h66 h67 h68 h69 h71 h73 h72_0; rw [spec_SweepArena.c26]; exact (spec_SweepArena.t26 _ k x15 x17 h64_0 h66 h67 h68 h69 h71 h73 h72_0).trans (cd (nb (cd (cd (cd (cd (cd (cd (cd (cd (cd (i26 _ _ _ _ _ _ _ _ _ _) rfl) rfl) rfl) rfl) rfl) rfl) (i26 _ _ _ _ _ _ _ _ _ _)) rfl) rfl) (cd (cd (cd (i21 _ _ _ _ _ _ _) rfl) rfl) rfl)) (cd (cd (cd (i21 _ _ _ _ _ _ _) rfl) rfl) rfl))
    · intro x18 h65 h66 h67 h69; rw [spec_SweepArena.c33]; exact (spec_SweepArena.t33 _ k x18 h65 h66 h67 h69).trans (cd (cd (cd (cd (cd (cd (cd (cd (cd (cd (i33 _ _ _ _ _) rfl) rfl) rfl) rfl) rfl) rfl) (i33 _ _ _ _ _)) rfl) rfl) rfl)
set_option maxRecDepth 100000 in
theorem spec_SweepArena.oke (k : Nat) (a0_0 : List S88) (a1 : List Int) : goF Try.f79 spec_SweepArena.ctx spec_SweepArena.sp 0 spec_SweepArena.en (k + 1) [.code (body Try.f79)] (startSt [.ag [.row 0 .t88 a0_0], .row 0 .t3 a1] []) = (spec_SweepArena.f k a0_0 a1).map spec_SweepArena.e := by
  obtain ⟨i4, i11, i15, i21, i26, i33⟩ := spec_SweepArena.ok k
  rw [spec_SweepArena.f]; exact (spec_SweepArena.te _ k a0_0 a1).trans (cd (bn (fun t1 => (i4 _ _ _ _ _ _))) rfl)
theorem spec_SweepArena.con (k : Nat) (a0_0 : List S88) (a1 : List Int) (r) (h : spec_SweepArena.f k a0_0 a1 = some r) : Contract Try.prog kit 79 [.ag [.row 0 .t88 a0_0], .row 0 .t3 a1] [] (spec_SweepArena.e r).1 (spec_SweepArena.e r).2.1 (spec_SweepArena.e r).2.2 :=
  con_okG kitOk mix (fun k => (CtxOk.cons (spec_ArenaOk.xok k) (CtxOk.cons (spec_l11Root.xok k) (CtxOk.cons (spec_l11Copy.xok k) (CtxOk.cons (spec_l11Has.xok k) CtxOk.nil))))) (spec_SweepArena.oke k a0_0 a1) h (by kernel_rfl) (by kernel_rfl) (by kernel_rfl) rfl (by kernel_rfl) rfl rfl
noncomputable def spec_SweepArena.x (k : Nat) : X := fun ins bs κ => match ins, bs with
  | [.ag [.row 0 .t88 a0_0], .row 0 .t3 a1], [] => (spec_SweepArena.f k a0_0 a1).bind fun r => κ (spec_SweepArena.e r).1 (spec_SweepArena.e r).2.1 (spec_SweepArena.e r).2.2
  | _, _ => none
theorem spec_SweepArena.xok (k : Nat) : XOk 79 (spec_SweepArena.x k) := by
  intro ins bs κ res h
  unfold spec_SweepArena.x at h
  split at h
  · obtain ⟨r, hr, h⟩ := Option.bind_eq_some_iff.1 h
    exact ⟨_, _, _, spec_SweepArena.con k _ _ r hr, h⟩
  · cases h
end Go.Proofs.Yteideicglgpfiaa.M2

/- Plain runs of functions: each is a plain Lean function, and keeps its contract. Written by a program of this session. -/
namespace Go.Proofs.Yteideicglgpfiaa.M2
open Go Go.Proofs.Yteideicglgpfiaa.PK
set_option linter.unusedVariables false
set_option linter.unusedSimpArgs false
set_option maxHeartbeats 4000000
/-! ### spec_l12Roots: function 80 -/
noncomputable def spec_l12Roots.sp : Nat → Option (Spec Ty) := fun r => bif Nat.beq r 3 then some ⟨[(1, .box [.keep, .keep, .keep]), (3, .own .t3), (4, .keep)], []⟩ else none
noncomputable def spec_l12Roots.en : Option (Spec Ty) := some ⟨[(2, .own .t3)], []⟩
noncomputable def spec_l12Roots.s3 (x4 : Int) (h64_0 : List S53) (h64_1 : List S88) (h64_2 : Int) (h65 : List Int) : St Ty D := ⟨(Env.put (Env.put (Env.put E (some 1) (.pt 64 0 0)) (some 3) (.sl 65 none)) (some 4) (.sc (.int .i64 x4))), Heap.put H0 [(64, some (.box [.row 0 .t53 h64_0, .row 0 .t88 h64_1, .sc (.int .i64 h64_2)])), (65, some (.rowb .t3 h65 0))], 1000⟩
noncomputable def spec_l12Roots.ctx (k : Nat) : Ctx Ty D := (fun _ _ _ _ => none)
noncomputable def spec_l12Roots.c3 : Nat → Int → (List S53) → (List S88) → Int → (List Int) → Option ((List Int))
  | 0, _, _, _, _, _ => none
  | k + 1, x4, h64_0, h64_1, h64_2, h65 => (if x4 < (h64_0.length : Int) then (if 0 ≤ x4 then (if x4 < (h64_0.length : Int) then (if h65.length + ([(rd_T53 h64_0 x4).f1] : List Int).length ≤ 17592186044416 then (spec_l12Roots.c3 k (w64 (x4 + 1)) h64_0 h64_1 h64_2 (h65 ++ ([(rd_T53 h64_0 x4).f1] : List Int))) else none) else none) else none) else (some (h65)))
noncomputable def spec_l12Roots.f (k : Nat) (a0_0 : List S53) (a0_1 : List S88) (a0_2 : Int) : Option ((List Int)) := (spec_l12Roots.c3 k 0 a0_0 a0_1 a0_2 ([] : List Int))
noncomputable def spec_l12Roots.e (r : (List Int)) : Res Ty D := (.sl 0 none, [], [.rowb .t3 r 0])
noncomputable abbrev spec_l12Roots.g (rec : List Item → St Ty D → R) (k : Nat) := go1 Try.f80 (spec_l12Roots.ctx k) spec_l12Roots.sp 0 spec_l12Roots.en rec
set_option maxRecDepth 100000 in
theorem spec_l12Roots.t3 (rec : List Item → St Ty D → R) (k : Nat) (x4 : Int) (h64_0 : List S53) (h64_1 : List S88) (h64_2 : Int) (h65 : List Int) : spec_l12Roots.g rec k (td Try.f80 3) (spec_l12Roots.s3 x4 h64_0 h64_1 h64_2 h65) =
  bif decide (x4 < (h64_0.length : Int)) then bif decide (0 ≤ x4) then bif decide (x4 < (h64_0.length : Int)) then bif decide (h65.length + ([(rd_T53 h64_0 x4).f1] : List Int).length ≤ 17592186044416) then rec (td Try.f80 3) (spec_l12Roots.s3 (w64 (x4 + 1)) h64_0 h64_1 h64_2 (h65 ++ ([(rd_T53 h64_0 x4).f1] : List Int))) else none else none else none else some (spec_l12Roots.e (h65)) := by kernel_rfl
set_option maxRecDepth 100000 in
theorem spec_l12Roots.te (rec : List Item → St Ty D → R) (k : Nat) (a0_0 : List S53) (a0_1 : List S88) (a0_2 : Int) : spec_l12Roots.g rec k [.code (body Try.f80)] (startSt [.ag [.row 0 .t53 a0_0, .row 0 .t88 a0_1, .sc (.int .i64 a0_2)]] []) =
  rec (td Try.f80 3) (spec_l12Roots.s3 0 a0_0 a0_1 a0_2 ([] : List Int)) := by kernel_rfl
set_option maxRecDepth 100000 in
theorem spec_l12Roots.ok : ∀ k : Nat, (∀ (x4 : Int) (h64_0 : List S53) (h64_1 : List S88) (h64_2 : Int) (h65 : List Int), goF Try.f80 spec_l12Roots.ctx spec_l12Roots.sp 0 spec_l12Roots.en k (td Try.f80 3) (spec_l12Roots.s3 x4 h64_0 h64_1 h64_2 h65) = (spec_l12Roots.c3 k x4 h64_0 h64_1 h64_2 h65).map spec_l12Roots.e)
  | 0 => fun _ _ _ _ _ => rfl
  | k + 1 => by
    have ih := spec_l12Roots.ok k
    have i3 := ih
    intro x4 h64_0 h64_1 h64_2 h65; rw [spec_l12Roots.c3]; exact (spec_l12Roots.t3 _ k x4 h64_0 h64_1 h64_2 h65).trans (cd (cd (cd (cd (i3 _ _ _ _ _) rfl) rfl) rfl) rfl)
set_option maxRecDepth 100000 in
theorem spec_l12Roots.oke (k : Nat) (a0_0 : List S53) (a0_1 : List S88) (a0_2 : Int) : goF Try.f80 spec_l12Roots.ctx spec_l12Roots.sp 0 spec_l12Roots.en (k + 1) [.code (body Try.f80)] (startSt [.ag [.row 0 .t53 a0_0, .row 0 .t88 a0_1, .sc (.int .i64 a0_2)]] []) = (spec_l12Roots.f k a0_0 a0_1 a0_2).map spec_l12Roots.e := by
  have i3 := spec_l12Roots.ok k
  rw [spec_l12Roots.f]; exact (spec_l12Roots.te _ k a0_0 a0_1 a0_2).trans (i3 _ _ _ _ _)
theorem spec_l12Roots.con (k : Nat) (a0_0 : List S53) (a0_1 : List S88) (a0_2 : Int) (r) (h : spec_l12Roots.f k a0_0 a0_1 a0_2 = some r) : Contract Try.prog kit 80 [.ag [.row 0 .t53 a0_0, .row 0 .t88 a0_1, .sc (.int .i64 a0_2)]] [] (spec_l12Roots.e r).1 (spec_l12Roots.e r).2.1 (spec_l12Roots.e r).2.2 :=
  con_okG kitOk mix (fun k => CtxOk.nil) (spec_l12Roots.oke k a0_0 a0_1 a0_2) h (by kernel_rfl) (by kernel_rfl) (by kernel_rfl) rfl (by kernel_rfl) rfl rfl
noncomputable def spec_l12Roots.x (k : Nat) : X := fun ins bs κ => match ins, bs with
  | [.ag [.row 0 .t53 a0_0, .row 0 .t88 a0_1, .sc (.int .i64 a0_2)]], [] => (spec_l12Roots.f k a0_0 a0_1 a0_2).bind fun r => κ (spec_l12Roots.e r).1 (spec_l12Roots.e r).2.1 (spec_l12Roots.e r).2.2
  | _, _ => none
theorem spec_l12Roots.xok (k : Nat) : XOk 80 (spec_l12Roots.x k) := by
  intro ins bs κ res h
  unfold spec_l12Roots.x at h
  split at h
  · obtain ⟨r, hr, h⟩ := Option.bind_eq_some_iff.1 h
    exact ⟨_, _, _, spec_l12Roots.con k _ _ _ r hr, h⟩
  · cases h

/-! ### spec_StoreOk: function 36 -/
noncomputable def spec_StoreOk.sp : Nat → Option (Spec Ty) := fun r => bif Nat.beq r 4 then some ⟨[(1, .box [.own .t53, .own .t88, .keep]), (3, .keep)], [(1, none), (0, none)]⟩ else bif Nat.beq r 10 then some ⟨[(1, .box [.own .t53, .own .t88, .keep]), (3, .keep), (4, .box [.keep, .keep]), (5, .keep), (41, .keep), (42, .keep), (43, .keep), (54, .keep), (57, .box [.own .t53, .own .t88, .keep]), (58, .ag [.own .t88]), (59, .box [.keep, .keep]), (60, .keep), (61, .keep), (62, .keep)], [(1, none), (0, none)]⟩ else none
noncomputable def spec_StoreOk.en : Option (Spec Ty) := none
noncomputable def spec_StoreOk.s4 (x3 : Int) (h1 : List S88) (h0 : List S53) (h64_2 : Int) : St Ty D := ⟨(Env.put (Env.put E (some 1) (.pt 64 0 0)) (some 3) (.sc (.int .i64 x3))), Heap.put H0 [(1, some (.rowb .t88 h1 0)), (0, some (.rowb .t53 h0 0)), (64, some (.box [.sl 0 none, .sl 1 none, .sc (.int .i64 h64_2)]))], 1000⟩
noncomputable def spec_StoreOk.s10 (x3 : Int) (x5 : Int) (x41 : Int) (x42 : Bool) (x43 : Bool) (x54 : Bool) (x60 : Int) (x61 : Bool) (x62 : Bool) (h1 : List S88) (h0 : List S53) (h64_2 : Int) (h65_0 : Int) (h65_1 : Int) : St Ty D := ⟨(Env.put (Env.put (Env.put (Env.put (Env.put (Env.put (Env.put (Env.put (Env.put (Env.put (Env.put (Env.put (Env.put (Env.put E (some 1) (.pt 64 0 0)) (some 3) (.sc (.int .i64 x3))) (some 4) (.pt 65 0 0)) (some 5) (.sc (.int .i64 x5))) (some 41) (.sc (.int .i64 x41))) (some 42) (.sc (.bool x42))) (some 43) (.sc (.bool x43))) (some 54) (.sc (.bool x54))) (some 57) (.pt 64 0 1)) (some 58) (.ag [.sl 1 none])) (some 59) (.pt 65 0 1)) (some 60) (.sc (.int .i64 x60))) (some 61) (.sc (.bool x61))) (some 62) (.sc (.bool x62))), Heap.put H0 [(1, some (.rowb .t88 h1 0)), (0, some (.rowb .t53 h0 0)), (64, some (.box [.sl 0 none, .sl 1 none, .sc (.int .i64 h64_2)])), (65, some (.box [.sc (.int .i64 h65_0), .sc (.int .i64 h65_1)]))], 1000⟩
noncomputable def spec_StoreOk.ctx (k : Nat) : Ctx Ty D := (cons 75 (spec_ArenaOk.x k) (cons 76 (spec_l01In.x k) (cons 77 (spec_l11Root.x k) (cons 78 (spec_l11Get.x k) (cons 79 (spec_SweepArena.x k) (cons 80 (spec_l12Roots.x k) (fun _ _ _ _ => none)))))))
mutual
noncomputable def spec_StoreOk.c4 : Nat → Int → (List S88) → (List S53) → Int → Option (Bool × (List S53) × (List S88))
  | 0, _, _, _, _ => none
  | k + 1, x3, h1, h0, h64_2 => (if x3 < (h0.length : Int) then (if 0 ≤ x3 then (if x3 < (h0.length : Int) then ((spec_l01In.f k ((rd_T53 h0 x3).f0) 1 9).bind fun t3 => (if t3 = true then (if x3 > 0 then (if 0 ≤ (w64 (x3 - 1)) then (if (w64 (x3 - 1)) < (h0.length : Int) then (if ((rd_T53 h0 (w64 (x3 - 1))).f0) ≥ ((rd_T53 h0 x3).f0) then (some (false, h0, h1)) else ((spec_l11Root.f k h1 ((rd_T53 h0 x3).f1)).bind fun t4 => (if t4 = true then (spec_StoreOk.c10 k x3 0 x3 (decide (x3 > 0)) true (decide (((rd_T53 h0 (w64 (x3 - 1))).f0) ≥ ((rd_T53 h0 x3).f0))) ((rd_T53 h0 x3).f1) t4 (!t4) h1 h0 h64_2 ((rd_T53 h0 x3).f0) ((rd_T53 h0 x3).f1)) else (some (false, h0, h1))))) else none) else none) else ((spec_l11Root.f k h1 ((rd_T53 h0 x3).f1)).bind fun t5 => (if t5 = true then (spec_StoreOk.c10 k x3 0 x3 (decide (x3 > 0)) false false ((rd_T53 h0 x3).f1) t5 (!t5) h1 h0 h64_2 ((rd_T53 h0 x3).f0) ((rd_T53 h0 x3).f1)) else (some (false, h0, h1))))) else (some (false, h0, h1)))) else none) else none) else ((spec_l12Roots.f k h0 h1 h64_2).bind fun t6 => ((spec_SweepArena.f k h1 t6).bind fun t7 => (some ((decide ((t7.1.length : Int) = (h1.length : Int))), h0, h1)))))
noncomputable def spec_StoreOk.c10 : Nat → Int → Int → Int → Bool → Bool → Bool → Int → Bool → Bool → (List S88) → (List S53) → Int → Int → Int → Option (Bool × (List S53) × (List S88))
  | 0, _, _, _, _, _, _, _, _, _, _, _, _, _, _ => none
  | k + 1, x3, x5, x41, x42, x43, x54, x60, x61, x62, h1, h0, h64_2, h65_0, h65_1 => (if x5 < 16 then ((spec_l11Get.f k h1 h65_1 x5).bind fun t8 => (if t8 ≥ h64_2 then (some (false, h0, h1)) else (spec_StoreOk.c10 k x3 (w64 (x5 + 1)) x41 x42 x43 x54 x60 x61 x62 h1 h0 h64_2 h65_0 h65_1))) else (spec_StoreOk.c4 k (w64 (x3 + 1)) h1 h0 h64_2))
end
noncomputable def spec_StoreOk.f (k : Nat) (a0_2 : Int) (a0_0 : List S53) (a0_1 : List S88) : Option (Bool × (List S53) × (List S88)) := (if (a0_0.length : Int) > 3 then (some (false, a0_0, a0_1)) else ((spec_ArenaOk.f k a0_1).bind fun t1 => (if t1 = true then ((spec_l01In.f k a0_2 1 1000000000).bind fun t2 => (if t2 = true then (spec_StoreOk.c4 k 0 a0_1 a0_0 a0_2) else (some (false, a0_0, a0_1)))) else (some (false, a0_0, a0_1)))))
noncomputable def spec_StoreOk.e (r : Bool × (List S53) × (List S88)) : Res Ty D := (.sc (.bool r.1), [some (.rowb .t53 r.2.1 0), some (.rowb .t88 r.2.2 0)], [])
noncomputable abbrev spec_StoreOk.g (rec : List Item → St Ty D → R) (k : Nat) := go1 Try.f36 (spec_StoreOk.ctx k) spec_StoreOk.sp 2 spec_StoreOk.en rec
set_option maxRecDepth 100000 in
theorem spec_StoreOk.t4 (rec : List Item → St Ty D → R) (k : Nat) (x3 : Int) (h1 : List S88) (h0 : List S53) (h64_2 : Int) : spec_StoreOk.g rec k (td Try.f36 4) (spec_StoreOk.s4 x3 h1 h0 h64_2) =
  bif decide (x3 < (h0.length : Int)) then bif decide (0 ≤ x3) then bif decide (x3 < (h0.length : Int)) then (spec_l01In.f k ((rd_T53 h0 x3).f0) 1 9).bind fun t3 => bif !t3 then some (spec_StoreOk.e (false, h0, h1)) else bif decide (x3 > 0) then bif decide (0 ≤ (w64 (x3 - 1))) then bif decide ((w64 (x3 - 1)) < (h0.length : Int)) then bif decide (((rd_T53 h0 (w64 (x3 - 1))).f0) ≥ ((rd_T53 h0 x3).f0)) then some (spec_StoreOk.e (false, h0, h1)) else (spec_l11Root.f k h1 ((rd_T53 h0 x3).f1)).bind fun t4 => bif !t4 then some (spec_StoreOk.e (false, h0, h1)) else rec (td Try.f36 10) (spec_StoreOk.s10 x3 0 x3 (decide (x3 > 0)) true (decide (((rd_T53 h0 (w64 (x3 - 1))).f0) ≥ ((rd_T53 h0 x3).f0))) ((rd_T53 h0 x3).f1) t4 (!t4) h1 h0 h64_2 ((rd_T53 h0 x3).f0) ((rd_T53 h0 x3).f1)) else none else none else (spec_l11Root.f k h1 ((rd_T53 h0 x3).f1)).bind fun t5 => bif !t5 then some (spec_StoreOk.e (false, h0, h1)) else rec (td Try.f36 10) (spec_StoreOk.s10 x3 0 x3 (decide (x3 > 0)) false false ((rd_T53 h0 x3).f1) t5 (!t5) h1 h0 h64_2 ((rd_T53 h0 x3).f0) ((rd_T53 h0 x3).f1)) else none else none else (spec_l12Roots.f k h0 h1 h64_2).bind fun t6 => (spec_SweepArena.f k h1 t6).bind fun t7 => some (spec_StoreOk.e ((decide ((t7.1.length : Int) = (h1.length : Int))), h0, h1)) := by kernel_rfl
set_option maxRecDepth 100000 in
theorem spec_StoreOk.t10 (rec : List Item → St Ty D → R) (k : Nat) (x3 : Int) (x5 : Int) (x41 : Int) (x42 : Bool) (x43 : Bool) (x54 : Bool) (x60 : Int) (x61 : Bool) (x62 : Bool) (h1 : List S88) (h0 : List S53) (h64_2 : Int) (h65_0 : Int) (h65_1 : Int) : spec_StoreOk.g rec k (td Try.f36 10) (spec_StoreOk.s10 x3 x5 x41 x42 x43 x54 x60 x61 x62 h1 h0 h64_2 h65_0 h65_1) =
  bif decide (x5 < 16) then (spec_l11Get.f k h1 h65_1 x5).bind fun t8 => bif decide (t8 ≥ h64_2) then some (spec_StoreOk.e (false, h0, h1)) else rec (td Try.f36 10) (spec_StoreOk.s10 x3 (w64 (x5 + 1)) x41 x42 x43 x54 x60 x61 x62 h1 h0 h64_2 h65_0 h65_1) else rec (td Try.f36 4) (spec_StoreOk.s4 (w64 (x3 + 1)) h1 h0 h64_2) := by kernel_rfl
set_option maxRecDepth 100000 in
theorem spec_StoreOk.te (rec : List Item → St Ty D → R) (k : Nat) (a0_2 : Int) (a0_0 : List S53) (a0_1 : List S88) : spec_StoreOk.g rec k [.code (body Try.f36)] (startSt [.ag [.sl 0 none, .sl 1 none, .sc (.int .i64 a0_2)]] [.rowb .t53 a0_0 0, .rowb .t88 a0_1 0]) =
  bif decide ((a0_0.length : Int) > 3) then some (spec_StoreOk.e (false, a0_0, a0_1)) else (spec_ArenaOk.f k a0_1).bind fun t1 => bif !t1 then some (spec_StoreOk.e (false, a0_0, a0_1)) else (spec_l01In.f k a0_2 1 1000000000).bind fun t2 => bif !t2 then some (spec_StoreOk.e (false, a0_0, a0_1)) else rec (td Try.f36 4) (spec_StoreOk.s4 0 a0_1 a0_0 a0_2) := by kernel_rfl
set_option maxRecDepth 100000 in
theorem spec_StoreOk.ok : ∀ k : Nat, (∀ (x3 : Int) (h1 : List S88) (h0 : List S53) (h64_2 : Int), goF Try.f36 spec_StoreOk.ctx spec_StoreOk.sp 2 spec_StoreOk.en k (td Try.f36 4) (spec_StoreOk.s4 x3 h1 h0 h64_2) = (spec_StoreOk.c4 k x3 h1 h0 h64_2).map spec_StoreOk.e) ∧ (∀ (x3 : Int) (x5 : Int) (x41 : Int) (x42 : Bool) (x43 : Bool) (x54 : Bool) (x60 : Int) (x61 : Bool) (x62 : Bool) (h1 : List S88) (h0 : List S53) (h64_2 : Int) (h65_0 : Int) (h65_1 : Int), goF Try.f36 spec_StoreOk.ctx spec_StoreOk.sp 2 spec_StoreOk.en k (td Try.f36 10) (spec_StoreOk.s10 x3 x5 x41 x42 x43 x54 x60 x61 x62 h1 h0 h64_2 h65_0 h65_1) = (spec_StoreOk.c10 k x3 x5 x41 x42 x43 x54 x60 x61 x62 h1 h0 h64_2 h65_0 h65_1).map spec_StoreOk.e)
  | 0 => ⟨fun _ _ _ _ => rfl, fun _ _ _ _ _ _ _ _ _ _ _ _ _ _ => rfl⟩
  | k + 1 => by
    have ih := spec_StoreOk.ok k
    obtain ⟨i4, i10⟩ := ih
    refine ⟨?_, ?_⟩
    · intro x3 h1 h0 h64_2; rw [spec_StoreOk.c4]; exact (spec_StoreOk.t4 _ k x3 h1 h0 h64_2).trans (cd (cd (cd (bn (fun t3 => (nb rfl (cd (cd (cd (cd rfl (bn (fun t4 => (nb rfl (i10 _ _ _ _ _ _ _ _ _ _ _ _ _ _))))) rfl) rfl) (bn (fun t5 => (nb rfl (i10 _ _ _ _ _ _ _ _ _ _ _ _ _ _)))))))) rfl) rfl) (bn (fun t6 => (bn (fun t7 => rfl)))))
    · intro x3 x5 x41 x42 x43 x54 x60 x61 x62 h1 h0 h64_2 h65_0 h65_1; rw [spec_StoreOk.c10]; exact (spec_StoreOk.t10 _ k x3 x5 x41 x42 x43 x54 x60 x61 x62 h1 h0 h64_2 h65_0 h65_1).trans (cd (bn (fun t8 => (cd rfl (i10 _ _ _ _ _ _ _ _ _ _ _ _ _ _)))) (i4 _ _ _ _))
set_option maxRecDepth 100000 in
theorem spec_StoreOk.oke (k : Nat) (a0_2 : Int) (a0_0 : List S53) (a0_1 : List S88) : goF Try.f36 spec_StoreOk.ctx spec_StoreOk.sp 2 spec_StoreOk.en (k + 1) [.code (body Try.f36)] (startSt [.ag [.sl 0 none, .sl 1 none, .sc (.int .i64 a0_2)]] [.rowb .t53 a0_0 0, .rowb .t88 a0_1 0]) = (spec_StoreOk.f k a0_2 a0_0 a0_1).map spec_StoreOk.e := by
  obtain ⟨i4, i10⟩ := spec_StoreOk.ok k
  rw [spec_StoreOk.f]; exact (spec_StoreOk.te _ k a0_2 a0_0 a0_1).trans (cd rfl (bn (fun t1 => (nb rfl (bn (fun t2 => (nb rfl (i4 _ _ _ _))))))))
theorem spec_StoreOk.con (k : Nat) (a0_2 : Int) (a0_0 : List S53) (a0_1 : List S88) (r) (h : spec_StoreOk.f k a0_2 a0_0 a0_1 = some r) : Contract Try.prog kit 36 [.ag [.sl 0 none, .sl 1 none, .sc (.int .i64 a0_2)]] [.rowb .t53 a0_0 0, .rowb .t88 a0_1 0] (spec_StoreOk.e r).1 (spec_StoreOk.e r).2.1 (spec_StoreOk.e r).2.2 :=
  con_okG kitOk mix (fun k => (CtxOk.cons (spec_ArenaOk.xok k) (CtxOk.cons (spec_l01In.xok k) (CtxOk.cons (spec_l11Root.xok k) (CtxOk.cons (spec_l11Get.xok k) (CtxOk.cons (spec_SweepArena.xok k) (CtxOk.cons (spec_l12Roots.xok k) CtxOk.nil))))))) (spec_StoreOk.oke k a0_2 a0_0 a0_1) h (by kernel_rfl) (by kernel_rfl) (by kernel_rfl) rfl (by kernel_rfl) rfl rfl
noncomputable def spec_StoreOk.x (k : Nat) : X := fun ins bs κ => match ins, bs with
  | [.ag [.sl 0 none, .sl 1 none, .sc (.int .i64 a0_2)]], [.rowb .t53 a0_0 0, .rowb .t88 a0_1 0] => (spec_StoreOk.f k a0_2 a0_0 a0_1).bind fun r => κ (spec_StoreOk.e r).1 (spec_StoreOk.e r).2.1 (spec_StoreOk.e r).2.2
  | _, _ => none
theorem spec_StoreOk.xok (k : Nat) : XOk 36 (spec_StoreOk.x k) := by
  intro ins bs κ res h
  unfold spec_StoreOk.x at h
  split at h
  · obtain ⟨r, hr, h⟩ := Option.bind_eq_some_iff.1 h
    exact ⟨_, _, _, spec_StoreOk.con k _ _ _ r hr, h⟩
  · cases h

/-! ### spec_RecOk: function 37 -/
noncomputable def spec_RecOk.sp : Nat → Option (Spec Ty) := fun r => none
noncomputable def spec_RecOk.en : Option (Spec Ty) := none
noncomputable def spec_RecOk.ctx (k : Nat) : Ctx Ty D := (cons 76 (spec_l01In.x k) (fun _ _ _ _ => none))
noncomputable def spec_RecOk.f (k : Nat) (a0_0 : Int) (a0_1 : Int) (a0_2 : Int) (a0_3 : Int) : Option (Bool) := ((spec_l01In.f k a0_2 0 1000000000).bind fun t1 => (if t1 = true then (if a0_0 = 1 then (if a0_1 = 0 then (some ((decide (a0_3 = 0)))) else (some (false))) else ((spec_l01In.f k a0_0 2 5).bind fun t2 => (if t2 = true then ((spec_l01In.f k a0_1 1 9).bind fun t3 => (if t3 = true then (if a0_0 = 4 then (if a0_0 = 2 then (some ((decide (a0_2 ≤ 9)))) else (if a0_0 = 3 then (some ((decide (a0_2 = 0)))) else (if a0_0 = 4 then (if a0_2 < 16 then ((spec_l01In.f k a0_3 1 1000000000).bind fun t5 => (some (t5))) else (some (false))) else (some ((decide (a0_2 < 16))))))) else (if a0_3 = 0 then (if a0_0 = 2 then (some ((decide (a0_2 ≤ 9)))) else (if a0_0 = 3 then (some ((decide (a0_2 = 0)))) else (if a0_0 = 4 then (if a0_2 < 16 then ((spec_l01In.f k a0_3 1 1000000000).bind fun t4 => (some (t4))) else (some (false))) else (some ((decide (a0_2 < 16))))))) else (some (false)))) else (some (false)))) else (some (false))))) else (some (false))))
noncomputable def spec_RecOk.e (r : Bool) : Res Ty D := (.sc (.bool r), [], [])
noncomputable abbrev spec_RecOk.g (rec : List Item → St Ty D → R) (k : Nat) := go1 Try.f37 (spec_RecOk.ctx k) spec_RecOk.sp 0 spec_RecOk.en rec
set_option maxRecDepth 100000 in
theorem spec_RecOk.te (rec : List Item → St Ty D → R) (k : Nat) (a0_0 : Int) (a0_1 : Int) (a0_2 : Int) (a0_3 : Int) : spec_RecOk.g rec k [.code (body Try.f37)] (startSt [.ag [.sc (.int .i64 a0_0), .sc (.int .i64 a0_1), .sc (.int .i64 a0_2), .sc (.int .i64 a0_3)]] []) =
  (spec_l01In.f k a0_2 0 1000000000).bind fun t1 => bif !t1 then some (spec_RecOk.e (false)) else bif decide (a0_0 = 1) then bif decide (a0_1 = 0) then some (spec_RecOk.e ((decide (a0_3 = 0)))) else some (spec_RecOk.e (false)) else (spec_l01In.f k a0_0 2 5).bind fun t2 => bif !t2 then some (spec_RecOk.e (false)) else (spec_l01In.f k a0_1 1 9).bind fun t3 => bif !t3 then some (spec_RecOk.e (false)) else bif !decide (a0_0 = 4) then bif !decide (a0_3 = 0) then some (spec_RecOk.e (false)) else bif decide (a0_0 = 2) then some (spec_RecOk.e ((decide (a0_2 ≤ 9)))) else bif decide (a0_0 = 3) then some (spec_RecOk.e ((decide (a0_2 = 0)))) else bif decide (a0_0 = 4) then bif decide (a0_2 < 16) then (spec_l01In.f k a0_3 1 1000000000).bind fun t4 => some (spec_RecOk.e (t4)) else some (spec_RecOk.e (false)) else some (spec_RecOk.e ((decide (a0_2 < 16)))) else bif decide (a0_0 = 2) then some (spec_RecOk.e ((decide (a0_2 ≤ 9)))) else bif decide (a0_0 = 3) then some (spec_RecOk.e ((decide (a0_2 = 0)))) else bif decide (a0_0 = 4) then bif decide (a0_2 < 16) then (spec_l01In.f k a0_3 1 1000000000).bind fun t5 => some (spec_RecOk.e (t5)) else some (spec_RecOk.e (false)) else some (spec_RecOk.e ((decide (a0_2 < 16)))) := by kernel_rfl
set_option maxRecDepth 100000 in
theorem spec_RecOk.oke (k : Nat) (a0_0 : Int) (a0_1 : Int) (a0_2 : Int) (a0_3 : Int) : goF Try.f37 spec_RecOk.ctx spec_RecOk.sp 0 spec_RecOk.en (k + 1) [.code (body Try.f37)] (startSt [.ag [.sc (.int .i64 a0_0), .sc (.int .i64 a0_1), .sc (.int .i64 a0_2), .sc (.int .i64 a0_3)]] []) = (spec_RecOk.f k a0_0 a0_1 a0_2 a0_3).map spec_RecOk.e := by
  rw [spec_RecOk.f]; exact (spec_RecOk.te _ k a0_0 a0_1 a0_2 a0_3).trans (bn (fun t1 => (nb rfl (cd (cd rfl rfl) (bn (fun t2 => (nb rfl (bn (fun t3 => (nb rfl (nd (nd rfl (cd rfl (cd rfl (cd (cd (bn (fun t4 => rfl)) rfl) rfl)))) (cd rfl (cd rfl (cd (cd (bn (fun t5 => rfl)) rfl) rfl))))))))))))))
theorem spec_RecOk.con (k : Nat) (a0_0 : Int) (a0_1 : Int) (a0_2 : Int) (a0_3 : Int) (r) (h : spec_RecOk.f k a0_0 a0_1 a0_2 a0_3 = some r) : Contract Try.prog kit 37 [.ag [.sc (.int .i64 a0_0), .sc (.int .i64 a0_1), .sc (.int .i64 a0_2), .sc (.int .i64 a0_3)]] [] (spec_RecOk.e r).1 (spec_RecOk.e r).2.1 (spec_RecOk.e r).2.2 :=
  con_okG kitOk mix (fun k => (CtxOk.cons (spec_l01In.xok k) CtxOk.nil)) (spec_RecOk.oke k a0_0 a0_1 a0_2 a0_3) h (by kernel_rfl) (by kernel_rfl) (by kernel_rfl) rfl (by kernel_rfl) rfl rfl
noncomputable def spec_RecOk.x (k : Nat) : X := fun ins bs κ => match ins, bs with
  | [.ag [.sc (.int .i64 a0_0), .sc (.int .i64 a0_1), .sc (.int .i64 a0_2), .sc (.int .i64 a0_3)]], [] => (spec_RecOk.f k a0_0 a0_1 a0_2 a0_3).bind fun r => κ (spec_RecOk.e r).1 (spec_RecOk.e r).2.1 (spec_RecOk.e r).2.2
  | _, _ => none
theorem spec_RecOk.xok (k : Nat) : XOk 37 (spec_RecOk.x k) := by
  intro ins bs κ res h
  unfold spec_RecOk.x at h
  split at h
  · obtain ⟨r, hr, h⟩ := Option.bind_eq_some_iff.1 h
    exact ⟨_, _, _, spec_RecOk.con k _ _ _ _ r hr, h⟩
  · cases h

/-! ### spec_l12Copy: function 38 -/
noncomputable def spec_l12Copy.sp : Nat → Option (Spec Ty) := fun r => none
noncomputable def spec_l12Copy.en : Option (Spec Ty) := some ⟨[(2, .box [.own .t53, .own .t88, .keep])], []⟩
noncomputable def spec_l12Copy.ctx (k : Nat) : Ctx Ty D := (cons 81 (spec_l11Copy.x k) (fun _ _ _ _ => none))
noncomputable def spec_l12Copy.f (k : Nat) (a0_0 : List S53) (a0_1 : List S88) (a0_2 : Int) : Option ((List S53) × (List S88) × Int) := (if ([] : List S53).length + a0_0.length ≤ 8796093022208 then ((spec_l11Copy.f k a0_1).bind fun t1 => (some ((([] : List S53) ++ a0_0), t1, a0_2))) else none)
noncomputable def spec_l12Copy.e (r : (List S53) × (List S88) × Int) : Res Ty D := (.ag [.sl 0 none, .sl 1 none, .sc (.int .i64 r.2.2)], [], [.rowb .t53 r.1 0, .rowb .t88 r.2.1 0])
noncomputable abbrev spec_l12Copy.g (rec : List Item → St Ty D → R) (k : Nat) := go1 Try.f38 (spec_l12Copy.ctx k) spec_l12Copy.sp 0 spec_l12Copy.en rec
set_option maxRecDepth 100000 in
theorem spec_l12Copy.te (rec : List Item → St Ty D → R) (k : Nat) (a0_0 : List S53) (a0_1 : List S88) (a0_2 : Int) : spec_l12Copy.g rec k [.code (body Try.f38)] (startSt [.ag [.row 0 .t53 a0_0, .row 0 .t88 a0_1, .sc (.int .i64 a0_2)]] []) =
  bif decide (([] : List S53).length + a0_0.length ≤ 8796093022208) then (spec_l11Copy.f k a0_1).bind fun t1 => some (spec_l12Copy.e ((([] : List S53) ++ a0_0), t1, a0_2)) else none := by kernel_rfl
set_option maxRecDepth 100000 in
theorem spec_l12Copy.oke (k : Nat) (a0_0 : List S53) (a0_1 : List S88) (a0_2 : Int) : goF Try.f38 spec_l12Copy.ctx spec_l12Copy.sp 0 spec_l12Copy.en (k + 1) [.code (body Try.f38)] (startSt [.ag [.row 0 .t53 a0_0, .row 0 .t88 a0_1, .sc (.int .i64 a0_2)]] []) = (spec_l12Copy.f k a0_0 a0_1 a0_2).map spec_l12Copy.e := by
  rw [spec_l12Copy.f]; exact (spec_l12Copy.te _ k a0_0 a0_1 a0_2).trans (cd (bn (fun t1 => rfl)) rfl)
theorem spec_l12Copy.con (k : Nat) (a0_0 : List S53) (a0_1 : List S88) (a0_2 : Int) (r) (h : spec_l12Copy.f k a0_0 a0_1 a0_2 = some r) : Contract Try.prog kit 38 [.ag [.row 0 .t53 a0_0, .row 0 .t88 a0_1, .sc (.int .i64 a0_2)]] [] (spec_l12Copy.e r).1 (spec_l12Copy.e r).2.1 (spec_l12Copy.e r).2.2 :=
  con_okG kitOk mix (fun k => (CtxOk.cons (spec_l11Copy.xok k) CtxOk.nil)) (spec_l12Copy.oke k a0_0 a0_1 a0_2) h (by kernel_rfl) (by kernel_rfl) (by kernel_rfl) rfl (by kernel_rfl) rfl rfl
noncomputable def spec_l12Copy.x (k : Nat) : X := fun ins bs κ => match ins, bs with
  | [.ag [.row 0 .t53 a0_0, .row 0 .t88 a0_1, .sc (.int .i64 a0_2)]], [] => (spec_l12Copy.f k a0_0 a0_1 a0_2).bind fun r => κ (spec_l12Copy.e r).1 (spec_l12Copy.e r).2.1 (spec_l12Copy.e r).2.2
  | _, _ => none
theorem spec_l12Copy.xok (k : Nat) : XOk 38 (spec_l12Copy.x k) := by
  intro ins bs κ res h
  unfold spec_l12Copy.x at h
  split at h
  · obtain ⟨r, hr, h⟩ := Option.bind_eq_some_iff.1 h
    exact ⟨_, _, _, spec_l12Copy.con k _ _ _ r hr, h⟩
  · cases h

/-! ### spec_l12At: function 40 -/
noncomputable def spec_l12At.sp : Nat → Option (Spec Ty) := fun r => bif Nat.beq r 2 then some ⟨[(1, .keep), (2, .box [.keep, .keep, .keep]), (5, .keep)], []⟩ else none
noncomputable def spec_l12At.en : Option (Spec Ty) := none
noncomputable def spec_l12At.s2 (x1 : Int) (x5 : Int) (h64_0 : List S53) (h64_1 : List S88) (h64_2 : Int) : St Ty D := ⟨(Env.put (Env.put (Env.put E (some 1) (.sc (.int .i64 x1))) (some 2) (.pt 64 0 0)) (some 5) (.sc (.int .i64 x5))), Heap.put H0 [(64, some (.box [.row 0 .t53 h64_0, .row 0 .t88 h64_1, .sc (.int .i64 h64_2)]))], 1000⟩
noncomputable def spec_l12At.ctx (k : Nat) : Ctx Ty D := (fun _ _ _ _ => none)
noncomputable def spec_l12At.c2 : Nat → Int → Int → (List S53) → (List S88) → Int → Option (Int)
  | 0, _, _, _, _, _ => none
  | k + 1, x1, x5, h64_0, h64_1, h64_2 => (if x5 < (h64_0.length : Int) then (if 0 ≤ x5 then (if x5 < (h64_0.length : Int) then (if ((rd_T53 h64_0 x5).f0) = x1 then (some (x5)) else (spec_l12At.c2 k x1 (w64 (x5 + 1)) h64_0 h64_1 h64_2)) else none) else none) else (some ((-1))))
noncomputable def spec_l12At.f (k : Nat) (a0_0 : List S53) (a0_1 : List S88) (a0_2 : Int) (a1 : Int) : Option (Int) := (spec_l12At.c2 k a1 0 a0_0 a0_1 a0_2)
noncomputable def spec_l12At.e (r : Int) : Res Ty D := (.sc (.int .i64 r), [], [])
noncomputable abbrev spec_l12At.g (rec : List Item → St Ty D → R) (k : Nat) := go1 Try.f40 (spec_l12At.ctx k) spec_l12At.sp 0 spec_l12At.en rec
set_option maxRecDepth 100000 in
theorem spec_l12At.t2 (rec : List Item → St Ty D → R) (k : Nat) (x1 : Int) (x5 : Int) (h64_0 : List S53) (h64_1 : List S88) (h64_2 : Int) : spec_l12At.g rec k (td Try.f40 2) (spec_l12At.s2 x1 x5 h64_0 h64_1 h64_2) =
  bif decide (x5 < (h64_0.length : Int)) then bif decide (0 ≤ x5) then bif decide (x5 < (h64_0.length : Int)) then bif decide (((rd_T53 h64_0 x5).f0) = x1) then some (spec_l12At.e (x5)) else rec (td Try.f40 2) (spec_l12At.s2 x1 (w64 (x5 + 1)) h64_0 h64_1 h64_2) else none else none else some (spec_l12At.e ((-1))) := by kernel_rfl
set_option maxRecDepth 100000 in
theorem spec_l12At.te (rec : List Item → St Ty D → R) (k : Nat) (a0_0 : List S53) (a0_1 : List S88) (a0_2 : Int) (a1 : Int) : spec_l12At.g rec k [.code (body Try.f40)] (startSt [.ag [.row 0 .t53 a0_0, .row 0 .t88 a0_1, .sc (.int .i64 a0_2)], .sc (.int .i64 a1)] []) =
  rec (td Try.f40 2) (spec_l12At.s2 a1 0 a0_0 a0_1 a0_2) := by kernel_rfl
set_option maxRecDepth 100000 in
theorem spec_l12At.ok : ∀ k : Nat, (∀ (x1 : Int) (x5 : Int) (h64_0 : List S53) (h64_1 : List S88) (h64_2 : Int), goF Try.f40 spec_l12At.ctx spec_l12At.sp 0 spec_l12At.en k (td Try.f40 2) (spec_l12At.s2 x1 x5 h64_0 h64_1 h64_2) = (spec_l12At.c2 k x1 x5 h64_0 h64_1 h64_2).map spec_l12At.e)
  | 0 => fun _ _ _ _ _ => rfl
  | k + 1 => by
    have ih := spec_l12At.ok k
    have i2 := ih
    intro x1 x5 h64_0 h64_1 h64_2; rw [spec_l12At.c2]; exact (spec_l12At.t2 _ k x1 x5 h64_0 h64_1 h64_2).trans (cd (cd (cd (cd rfl (i2 _ _ _ _ _)) rfl) rfl) rfl)
set_option maxRecDepth 100000 in
theorem spec_l12At.oke (k : Nat) (a0_0 : List S53) (a0_1 : List S88) (a0_2 : Int) (a1 : Int) : goF Try.f40 spec_l12At.ctx spec_l12At.sp 0 spec_l12At.en (k + 1) [.code (body Try.f40)] (startSt [.ag [.row 0 .t53 a0_0, .row 0 .t88 a0_1, .sc (.int .i64 a0_2)], .sc (.int .i64 a1)] []) = (spec_l12At.f k a0_0 a0_1 a0_2 a1).map spec_l12At.e := by
  have i2 := spec_l12At.ok k
  rw [spec_l12At.f]; exact (spec_l12At.te _ k a0_0 a0_1 a0_2 a1).trans (i2 _ _ _ _ _)
theorem spec_l12At.con (k : Nat) (a0_0 : List S53) (a0_1 : List S88) (a0_2 : Int) (a1 : Int) (r) (h : spec_l12At.f k a0_0 a0_1 a0_2 a1 = some r) : Contract Try.prog kit 40 [.ag [.row 0 .t53 a0_0, .row 0 .t88 a0_1, .sc (.int .i64 a0_2)], .sc (.int .i64 a1)] [] (spec_l12At.e r).1 (spec_l12At.e r).2.1 (spec_l12At.e r).2.2 :=
  con_okG kitOk mix (fun k => CtxOk.nil) (spec_l12At.oke k a0_0 a0_1 a0_2 a1) h (by kernel_rfl) (by kernel_rfl) (by kernel_rfl) rfl (by kernel_rfl) rfl rfl
noncomputable def spec_l12At.x (k : Nat) : X := fun ins bs κ => match ins, bs with
  | [.ag [.row 0 .t53 a0_0, .row 0 .t88 a0_1, .sc (.int .i64 a0_2)], .sc (.int .i64 a1)], [] => (spec_l12At.f k a0_0 a0_1 a0_2 a1).bind fun r => κ (spec_l12At.e r).1 (spec_l12At.e r).2.1 (spec_l12At.e r).2.2
  | _, _ => none
theorem spec_l12At.xok (k : Nat) : XOk 40 (spec_l12At.x k) := by
  intro ins bs κ res h
  unfold spec_l12At.x at h
  split at h
  · obtain ⟨r, hr, h⟩ := Option.bind_eq_some_iff.1 h
    exact ⟨_, _, _, spec_l12At.con k _ _ _ _ r hr, h⟩
  · cases h

/-! ### spec_l12Vol: function 39 -/
noncomputable def spec_l12Vol.sp : Nat → Option (Spec Ty) := fun r => bif Nat.beq r 12 then some ⟨[(2, .box [.keep, .keep, .keep]), (3, .box [.keep, .keep, .keep, .keep]), (4, .box [.own .t53, .own .t88, .keep]), (6, .keep), (8, .box [.own .t53, .own .t88, .keep]), (9, .own .t53), (10, .keep)], []⟩ else bif Nat.beq r 18 then some ⟨[(2, .box [.keep, .keep, .keep]), (3, .box [.keep, .keep, .keep, .keep]), (4, .box [.own .t53, .own .t88, .keep]), (8, .box [.own .t53, .own .t88, .keep]), (9, .own .t53), (11, .keep)], []⟩ else none
noncomputable def spec_l12Vol.en : Option (Spec Ty) := some ⟨[(4, .box [.own .t53, .own .t88, .keep]), (5, .keep)], []⟩
noncomputable def spec_l12Vol.s12 (x6 : Int) (x10 : Int) (h64_0 : List S53) (h64_1 : List S88) (h64_2 : Int) (h65_0 : Int) (h65_1 : Int) (h65_2 : Int) (h65_3 : Int) (h67 : List S53) (h68 : List S88) (h66_2 : Int) (h70 : List S53) (h71 : List S88) (h69_2 : Int) (h72 : List S53) : St Ty D := ⟨(Env.put (Env.put (Env.put (Env.put (Env.put (Env.put (Env.put E (some 2) (.pt 64 0 0)) (some 3) (.pt 65 0 0)) (some 4) (.pt 66 0 0)) (some 6) (.sc (.int .i64 x6))) (some 8) (.pt 69 0 0)) (some 9) (.sl 72 none)) (some 10) (.sc (.int .i64 x10))), Heap.put H0 [(64, some (.box [.row 0 .t53 h64_0, .row 0 .t88 h64_1, .sc (.int .i64 h64_2)])), (65, some (.box [.sc (.int .i64 h65_0), .sc (.int .i64 h65_1), .sc (.int .i64 h65_2), .sc (.int .i64 h65_3)])), (67, some (.rowb .t53 h67 0)), (68, some (.rowb .t88 h68 0)), (66, some (.box [.sl 67 none, .sl 68 none, .sc (.int .i64 h66_2)])), (70, some (.rowb .t53 h70 0)), (71, some (.rowb .t88 h71 0)), (69, some (.box [.sl 70 none, .sl 71 none, .sc (.int .i64 h69_2)])), (72, some (.rowb .t53 h72 0))], 1000⟩
noncomputable def spec_l12Vol.s18 (x11 : Int) (h64_0 : List S53) (h64_1 : List S88) (h64_2 : Int) (h65_0 : Int) (h65_1 : Int) (h65_2 : Int) (h65_3 : Int) (h67 : List S53) (h68 : List S88) (h66_2 : Int) (h70 : List S53) (h71 : List S88) (h69_2 : Int) (h72 : List S53) : St Ty D := ⟨(Env.put (Env.put (Env.put (Env.put (Env.put (Env.put E (some 2) (.pt 64 0 0)) (some 3) (.pt 65 0 0)) (some 4) (.pt 66 0 0)) (some 8) (.pt 69 0 0)) (some 9) (.sl 72 none)) (some 11) (.sc (.int .i64 x11))), Heap.put H0 [(64, some (.box [.row 0 .t53 h64_0, .row 0 .t88 h64_1, .sc (.int .i64 h64_2)])), (65, some (.box [.sc (.int .i64 h65_0), .sc (.int .i64 h65_1), .sc (.int .i64 h65_2), .sc (.int .i64 h65_3)])), (67, some (.rowb .t53 h67 0)), (68, some (.rowb .t88 h68 0)), (66, some (.box [.sl 67 none, .sl 68 none, .sc (.int .i64 h66_2)])), (70, some (.rowb .t53 h70 0)), (71, some (.rowb .t88 h71 0)), (69, some (.box [.sl 70 none, .sl 71 none, .sc (.int .i64 h69_2)])), (72, some (.rowb .t53 h72 0))], 1000⟩
noncomputable def spec_l12Vol.ctx (k : Nat) : Ctx Ty D := (cons 38 (spec_l12Copy.x k) (cons 40 (spec_l12At.x k) (fun _ _ _ _ => none)))
mutual
noncomputable def spec_l12Vol.c12 : Nat → Int → Int → (List S53) → (List S88) → Int → Int → Int → Int → Int → (List S53) → (List S88) → Int → (List S53) → (List S88) → Int → (List S53) → Option ((List S53) × (List S88) × Int × Bool)
  | 0, _, _, _, _, _, _, _, _, _, _, _, _, _, _, _, _ => none
  | k + 1, x6, x10, h64_0, h64_1, h64_2, h65_0, h65_1, h65_2, h65_3, h67, h68, h66_2, h70, h71, h69_2, h72 => (if x10 < (h64_0.length : Int) then (if 0 ≤ x10 then (if x10 < (h64_0.length : Int) then (if ((rd_T53 h64_0 x10).f0) < h65_1 then (if 0 ≤ x10 then (if x10 < (h64_0.length : Int) then (if h72.length + ([(S53.mk ((rd_T53 h64_0 x10).f0) ((rd_T53 h64_0 x10).f1))] : List S53).length ≤ 8796093022208 then (spec_l12Vol.c12 k x6 (w64 (x10 + 1)) h64_0 h64_1 h64_2 h65_0 h65_1 h65_2 h65_3 h67 h68 h66_2 h70 h71 h69_2 (h72 ++ ([(S53.mk ((rd_T53 h64_0 x10).f0) ((rd_T53 h64_0 x10).f1))] : List S53))) else none) else none) else none) else (spec_l12Vol.c12 k x6 (w64 (x10 + 1)) h64_0 h64_1 h64_2 h65_0 h65_1 h65_2 h65_3 h67 h68 h66_2 h70 h71 h69_2 h72)) else none) else none) else (if h72.length + ([(S53.mk h65_1 x6)] : List S53).length ≤ 8796093022208 then (spec_l12Vol.c18 k 0 h64_0 h64_1 h64_2 h65_0 h65_1 h65_2 h65_3 h67 h68 h66_2 h70 h71 h69_2 (h72 ++ ([(S53.mk h65_1 x6)] : List S53))) else none))
noncomputable def spec_l12Vol.c18 : Nat → Int → (List S53) → (List S88) → Int → Int → Int → Int → Int → (List S53) → (List S88) → Int → (List S53) → (List S88) → Int → (List S53) → Option ((List S53) × (List S88) × Int × Bool)
  | 0, _, _, _, _, _, _, _, _, _, _, _, _, _, _, _ => none
  | k + 1, x11, h64_0, h64_1, h64_2, h65_0, h65_1, h65_2, h65_3, h67, h68, h66_2, h70, h71, h69_2, h72 => (if x11 < (h64_0.length : Int) then (if 0 ≤ x11 then (if x11 < (h64_0.length : Int) then (if ((rd_T53 h64_0 x11).f0) > h65_1 then (if 0 ≤ x11 then (if x11 < (h64_0.length : Int) then (if h72.length + ([(S53.mk ((rd_T53 h64_0 x11).f0) ((rd_T53 h64_0 x11).f1))] : List S53).length ≤ 8796093022208 then (spec_l12Vol.c18 k (w64 (x11 + 1)) h64_0 h64_1 h64_2 h65_0 h65_1 h65_2 h65_3 h67 h68 h66_2 h70 h71 h69_2 (h72 ++ ([(S53.mk ((rd_T53 h64_0 x11).f0) ((rd_T53 h64_0 x11).f1))] : List S53))) else none) else none) else none) else (spec_l12Vol.c18 k (w64 (x11 + 1)) h64_0 h64_1 h64_2 h65_0 h65_1 h65_2 h65_3 h67 h68 h66_2 h70 h71 h69_2 h72)) else none) else none) else (some (h72, h71, h69_2, true)))
end
noncomputable def spec_l12Vol.f (k : Nat) (a0_0 : List S53) (a0_1 : List S88) (a0_2 : Int) (a1_0 : Int) (a1_1 : Int) (a1_2 : Int) (a1_3 : Int) : Option ((List S53) × (List S88) × Int × Bool) := (if a1_2 > 0 then ((spec_l12At.f k a0_0 a0_1 a0_2 a1_2).bind fun t1 => (if t1 < 0 then ((spec_l12Copy.f k a0_0 a0_1 a0_2).bind fun t2 => (some (t2.1, t2.2.1, t2.2.2, false))) else (if 0 ≤ t1 then (if t1 < (a0_0.length : Int) then ((spec_l12At.f k a0_0 a0_1 a0_2 a1_1).bind fun t3 => (if t3 ≥ 0 then ((spec_l12Copy.f k a0_0 a0_1 a0_2).bind fun t4 => (some (t4.1, t4.2.1, t4.2.2, false))) else (if (a0_0.length : Int) = 3 then ((spec_l12Copy.f k a0_0 a0_1 a0_2).bind fun t5 => (some (t5.1, t5.2.1, t5.2.2, false))) else ((spec_l12Copy.f k a0_0 a0_1 a0_2).bind fun t6 => (spec_l12Vol.c12 k ((rd_T53 a0_0 t1).f1) 0 a0_0 a0_1 a0_2 a1_0 a1_1 a1_2 a1_3 ([] : List S53) ([] : List S88) 0 t6.1 t6.2.1 t6.2.2 ([] : List S53)))))) else none) else none))) else ((spec_l12At.f k a0_0 a0_1 a0_2 a1_1).bind fun t7 => (if t7 ≥ 0 then ((spec_l12Copy.f k a0_0 a0_1 a0_2).bind fun t8 => (some (t8.1, t8.2.1, t8.2.2, false))) else (if (a0_0.length : Int) = 3 then ((spec_l12Copy.f k a0_0 a0_1 a0_2).bind fun t9 => (some (t9.1, t9.2.1, t9.2.2, false))) else ((spec_l12Copy.f k a0_0 a0_1 a0_2).bind fun t10 => (spec_l12Vol.c12 k (-1) 0 a0_0 a0_1 a0_2 a1_0 a1_1 a1_2 a1_3 ([] : List S53) ([] : List S88) 0 t10.1 t10.2.1 t10.2.2 ([] : List S53)))))))
noncomputable def spec_l12Vol.e (r : (List S53) × (List S88) × Int × Bool) : Res Ty D := (.tu [.ag [.sl 0 none, .sl 1 none, .sc (.int .i64 r.2.2.1)], .sc (.bool r.2.2.2)], [], [.rowb .t53 r.1 0, .rowb .t88 r.2.1 0])
noncomputable abbrev spec_l12Vol.g (rec : List Item → St Ty D → R) (k : Nat) := go1 Try.f39 (spec_l12Vol.ctx k) spec_l12Vol.sp 0 spec_l12Vol.en rec
set_option maxRecDepth 100000 in
theorem spec_l12Vol.t12 (rec : List Item → St Ty D → R) (k : Nat) (x6 : Int) (x10 : Int) (h64_0 : List S53) (h64_1 : List S88) (h64_2 : Int) (h65_0 : Int) (h65_1 : Int) (h65_2 : Int) (h65_3 : Int) (h67 : List S53) (h68 : List S88) (h66_2 : Int) (h70 : List S53) (h71 : List S88) (h69_2 : Int) (h72 : List S53) : spec_l12Vol.g rec k (td Try.f39 12) (spec_l12Vol.s12 x6 x10 h64_0 h64_1 h64_2 h65_0 h65_1 h65_2 h65_3 h67 h68 h66_2 h70 h71 h69_2 h72) =
  bif decide (x10 < (h64_0.length : Int)) then bif decide (0 ≤ x10) then bif decide (x10 < (h64_0.length : Int)) then bif decide (((rd_T53 h64_0 x10).f0) < h65_1) then bif decide (0 ≤ x10) then bif decide (x10 < (h64_0.length : Int)) then bif decide (h72.length + ([(S53.mk ((rd_T53 h64_0 x10).f0) ((rd_T53 h64_0 x10).f1))] : List S53).length ≤ 8796093022208) then rec (td Try.f39 12) (spec_l12Vol.s12 x6 (w64 (x10 + 1)) h64_0 h64_1 h64_2 h65_0 h65_1 h65_2 h65_3 h67 h68 h66_2 h70 h71 h69_2 (h72 ++ ([(S53.mk ((rd_T53 h64_0 x10).f0) ((rd_T53 h64_0 x10).f1))] : List S53))) else none else none else none else rec (td Try.f39 12) (spec_l12Vol.s12 x6 (w64 (x10 + 1)) h64_0 h64_1 h64_2 h65_0 h65_1 h65_2 h65_3 h67 h68 h66_2 h70 h71 h69_2 h72) else none else none else bif decide (h72.length + ([(S53.mk h65_1 x6)] : List S53).length ≤ 8796093022208) then rec (td Try.f39 18) (spec_l12Vol.s18 0 h64_0 h64_1 h64_2 h65_0 h65_1 h65_2 h65_3 h67 h68 h66_2 h70 h71 h69_2 (h72 ++ ([(S53.mk h65_1 x6)] : List S53))) else none := by kernel_rfl
set_option maxRecDepth 100000 in
theorem spec_l12Vol.t18 (rec : List Item → St Ty D → R) (k : Nat) (x11 : Int) (h64_0 : List S53) (h64_1 : List S88) (h64_2 : Int) (h65_0 : Int) (h65_1 : Int) (h65_2 : Int) (h65_3 : Int) (h67 : List S53) (h68 : List S88) (h66_2 : Int) (h70 : List S53) (h71 : List S88) (h69_2 : Int) (h72 : List S53) : spec_l12Vol.g rec k (td Try.f39 18) (spec_l12Vol.s18 x11 h64_0 h64_1 h64_2 h65_0 h65_1 h65_2 h65_3 h67 h68 h66_2 h70 h71 h69_2 h72) =
  bif decide (x11 < (h64_0.length : Int)) then bif decide (0 ≤ x11) then bif decide (x11 < (h64_0.length : Int)) then bif decide (((rd_T53 h64_0 x11).f0) > h65_1) then bif decide (0 ≤ x11) then bif decide (x11 < (h64_0.length : Int)) then bif decide (h72.length + ([(S53.mk ((rd_T53 h64_0 x11).f0) ((rd_T53 h64_0 x11).f1))] : List S53).length ≤ 8796093022208) then rec (td Try.f39 18) (spec_l12Vol.s18 (w64 (x11 + 1)) h64_0 h64_1 h64_2 h65_0 h65_1 h65_2 h65_3 h67 h68 h66_2 h70 h71 h69_2 (h72 ++ ([(S53.mk ((rd_T53 h64_0 x11).f0) ((rd_T53 h64_0 x11).f1))] : List S53))) else none else none else none else rec (td Try.f39 18) (spec_l12Vol.s18 (w64 (x11 + 1)) h64_0 h64_1 h64_2 h65_0 h65_1 h65_2 h65_3 h67 h68 h66_2 h70 h71 h69_2 h72) else none else none else some (spec_l12Vol.e (h72, h71, h69_2, true)) := by kernel_rfl
set_option maxRecDepth 100000 in
theorem spec_l12Vol.te (rec : List Item → St Ty D → R) (k : Nat) (a0_0 : List S53) (a0_1 : List S88) (a0_2 : Int) (a1_0 : Int) (a1_1 : Int) (a1_2 : Int) (a1_3 : Int) : spec_l12Vol.g rec k [.code (body Try.f39)] (startSt [.ag [.row 0 .t53 a0_0, .row 0 .t88 a0_1, .sc (.int .i64 a0_2)], .ag [.sc (.int .i64 a1_0), .sc (.int .i64 a1_1), .sc (.int .i64 a1_2), .sc (.int .i64 a1_3)]] []) =
  bif decide (a1_2 > 0) then (spec_l12At.f k a0_0 a0_1 a0_2 a1_2).bind fun t1 => bif decide (t1 < 0) then (spec_l12Copy.f k a0_0 a0_1 a0_2).bind fun t2 => some (spec_l12Vol.e (t2.1, t2.2.1, t2.2.2, false)) else bif decide (0 ≤ t1) then bif decide (t1 < (a0_0.length : Int)) then (spec_l12At.f k a0_0 a0_1 a0_2 a1_1).bind fun t3 => bif decide (t3 ≥ 0) then (spec_l12Copy.f k a0_0 a0_1 a0_2).bind fun t4 => some (spec_l12Vol.e (t4.1, t4.2.1, t4.2.2, false)) else bif decide ((a0_0.length : Int) = 3) then (spec_l12Copy.f k a0_0 a0_1 a0_2).bind fun t5 => some (spec_l12Vol.e (t5.1, t5.2.1, t5.2.2, false)) else (spec_l12Copy.f k a0_0 a0_1 a0_2).bind fun t6 => rec (td Try.f39 12) (spec_l12Vol.s12 ((rd_T53 a0_0 t1).f1) 0 a0_0 a0_1 a0_2 a1_0 a1_1 a1_2 a1_3 ([] : List S53) ([] : List S88) 0 t6.1 t6.2.1 t6.2.2 ([] : List S53)) else none else none else (spec_l12At.f k a0_0 a0_1 a0_2 a1_1).bind fun t7 => bif decide (t7 ≥ 0) then (spec_l12Copy.f k a0_0 a0_1 a0_2).bind fun t8 => some (spec_l12Vol.e (t8.1, t8.2.1, t8.2.2, false)) else bif decide ((a0_0.length : Int) = 3) then (spec_l12Copy.f k a0_0 a0_1 a0_2).bind fun t9 => some (spec_l12Vol.e (t9.1, t9.2.1, t9.2.2, false)) else (spec_l12Copy.f k a0_0 a0_1 a0_2).bind fun t10 => rec (td Try.f39 12) (spec_l12Vol.s12 (-1) 0 a0_0 a0_1 a0_2 a1_0 a1_1 a1_2 a1_3 ([] : List S53) ([] : List S88) 0 t10.1 t10.2.1 t10.2.2 ([] : List S53)) := by kernel_rfl
set_option maxRecDepth 100000 in
theorem spec_l12Vol.ok : ∀ k : Nat, (∀ (x6 : Int) (x10 : Int) (h64_0 : List S53) (h64_1 : List S88) (h64_2 : Int) (h65_0 : Int) (h65_1 : Int) (h65_2 : Int) (h65_3 : Int) (h67 : List S53) (h68 : List S88) (h66_2 : Int) (h70 : List S53) (h71 : List S88) (h69_2 : Int) (h72 : List S53), goF Try.f39 spec_l12Vol.ctx spec_l12Vol.sp 0 spec_l12Vol.en k (td Try.f39 12) (spec_l12Vol.s12 x6 x10 h64_0 h64_1 h64_2 h65_0 h65_1 h65_2 h65_3 h67 h68 h66_2 h70 h71 h69_2 h72) = (spec_l12Vol.c12 k x6 x10 h64_0 h64_1 h64_2 h65_0 h65_1 h65_2 h65_3 h67 h68 h66_2 h70 h71 h69_2 h72).map spec_l12Vol.e) ∧ (∀ (x11 : Int) (h64_0 : List S53) (h64_1 : List S88) (h64_2 : Int) (h65_0 : Int) (h65_1 : Int) (h65_2 : Int) (h65_3 : Int) (h67 : List S53) (h68 : List S88) (h66_2 : Int) (h70 : List S53) (h71 : List S88) (h69_2 : Int) (h72 : List S53), goF Try.f39 spec_l12Vol.ctx spec_l12Vol.sp 0 spec_l12Vol.en k (td Try.f39 18) (spec_l12Vol.s18 x11 h64_0 h64_1 h64_2 h65_0 h65_1 h65_2 h65_3 h67 h68 h66_2 h70 h71 h69_2 h72) = (spec_l12Vol.c18 k x11 h64_0 h64_1 h64_2 h65_0 h65_1 h65_2 h65_3 h67 h68 h66_2 h70 h71 h69_2 h72).map spec_l12Vol.e)
  | 0 => ⟨fun _ _ _ _ _ _ _ _ _ _ _ _ _ _ _ _ => rfl, fun _ _ _ _ _ _ _ _ _ _ _ _ _ _ _ => rfl⟩
  | k + 1 => by
    have ih := spec_l12Vol.ok k
    obtain ⟨i12, i18⟩ := ih
    refine ⟨?_, ?_⟩
    · intro x6 x10 h64_0 h64_1 h64_2 h65_0 h65_1 h65_2 h65_3 h67 h68 h66_2 h70 h71 h69_2 h72; rw [spec_l12Vol.c12]; exact (spec_l12Vol.t12 _ k x6 x10 h64_0 h64_1 h64_2 h65_0 h65_1 h65_2 h65_3 h67 h68 h66_2 h70 h71 h69_2 h72).trans (cd (cd (cd (cd (cd (cd (cd (i12 _ _ _ _ _ _ _ _ _ _ _ _ _ _ _ _) rfl) rfl) rfl) (i12 _ _ _ _ _ _ _ _ _ _ _ _ _ _ _ _)) rfl) rfl) (cd (i18 _ _ _ _ _ _ _ _ _ _ _ _ _ _ _) rfl))
    · intro x11 h64_0 h64_1 h64_2 h65_0 h65_1 h65_2 h65_3 h67 h68 h66_2 h70 h71 h69_2 h72; rw [spec_l12Vol.c18]; exact (spec_l12Vol.t18 _ k x11 h64_0 h64_1 h64_2 h65_0 h65_1 h65_2 h65_3 h67 h68 h66_2 h70 h71 h69_2 h72).trans (cd (cd (cd (cd (cd (cd (cd (i18 _ _ _ _ _ _ _ _ _ _ _ _ _ _ _) rfl) rfl) rfl) (i18 _ _ _ _ _ _ _ _ _ _ _ _ _ _ _)) rfl) rfl) rfl)
set_option maxRecDepth 100000 in
theorem spec_l12Vol.oke (k : Nat) (a0_0 : List S53) (a0_1 : List S88) (a0_2 : Int) (a1_0 : Int) (a1_1 : Int) (a1_2 : Int) (a1_3 : Int) : goF Try.f39 spec_l12Vol.ctx spec_l12Vol.sp 0 spec_l12Vol.en (k + 1) [.code (body Try.f39)] (startSt [.ag [.row 0 .t53 a0_0, .row 0 .t88 a0_1, .sc (.int .i64 a0_2)], .ag [.sc (.int .i64 a1_0), .sc (.int .i64 a1_1), .sc (.int .i64 a1_2), .sc (.int .i64 a1_3)]] []) = (spec_l12Vol.f k a0_0 a0_1 a0_2 a1_0 a1_1 a1_2 a1_3).map spec_l12Vol.e := by
  obtain ⟨i12, i18⟩ := spec_l12Vol.ok k
  rw [spec_l12Vol.f]; exact (spec_l12Vol.te _ k a0_0 a0_1 a0_2 a1_0 a1_1 a1_2 a1_3).trans (cd (bn (fun t1 => (cd (bn (fun t2 => rfl)) (cd (cd (bn (fun t3 => (cd (bn (fun t4 => rfl)) (cd (bn (fun t5 => rfl)) (bn (fun t6 => (i12 _ _ _ _ _ _ _ _ _ _ _ _ _ _ _ _))))))) rfl) rfl)))) (bn (fun t7 => (cd (bn (fun t8 => rfl)) (cd (bn (fun t9 => rfl)) (bn (fun t10 => (i12 _ _ _ _ _ _ _ _ _ _ _ _ _ _ _ _))))))))
theorem spec_l12Vol.con (k : Nat) (a0_0 : List S53) (a0_1 : List S88) (a0_2 : Int) (a1_0 : Int) (a1_1 : Int) (a1_2 : Int) (a1_3 : Int) (r) (h : spec_l12Vol.f k a0_0 a0_1 a0_2 a1_0 a1_1 a1_2 a1_3 = some r) : Contract Try.prog kit 39 [.ag [.row 0 .t53 a0_0, .row 0 .t88 a0_1, .sc (.int .i64 a0_2)], .ag [.sc (.int .i64 a1_0), .sc (.int .i64 a1_1), .sc (.int .i64 a1_2), .sc (.int .i64 a1_3)]] [] (spec_l12Vol.e r).1 (spec_l12Vol.e r).2.1 (spec_l12Vol.e r).2.2 :=
  con_okG kitOk mix (fun k => (CtxOk.cons (spec_l12Copy.xok k) (CtxOk.cons (spec_l12At.xok k) CtxOk.nil))) (spec_l12Vol.oke k a0_0 a0_1 a0_2 a1_0 a1_1 a1_2 a1_3) h (by kernel_rfl) (by kernel_rfl) (by kernel_rfl) rfl (by kernel_rfl) rfl rfl
noncomputable def spec_l12Vol.x (k : Nat) : X := fun ins bs κ => match ins, bs with
  | [.ag [.row 0 .t53 a0_0, .row 0 .t88 a0_1, .sc (.int .i64 a0_2)], .ag [.sc (.int .i64 a1_0), .sc (.int .i64 a1_1), .sc (.int .i64 a1_2), .sc (.int .i64 a1_3)]], [] => (spec_l12Vol.f k a0_0 a0_1 a0_2 a1_0 a1_1 a1_2 a1_3).bind fun r => κ (spec_l12Vol.e r).1 (spec_l12Vol.e r).2.1 (spec_l12Vol.e r).2.2
  | _, _ => none
theorem spec_l12Vol.xok (k : Nat) : XOk 39 (spec_l12Vol.x k) := by
  intro ins bs κ res h
  unfold spec_l12Vol.x at h
  split at h
  · obtain ⟨r, hr, h⟩ := Option.bind_eq_some_iff.1 h
    exact ⟨_, _, _, spec_l12Vol.con k _ _ _ _ _ _ _ r hr, h⟩
  · cases h
end Go.Proofs.Yteideicglgpfiaa.M2

/- Plain runs of functions: each is a plain Lean function, and keeps its contract. Written by a program of this session. -/
namespace Go.Proofs.Yteideicglgpfiaa.M2
open Go Go.Proofs.Yteideicglgpfiaa.PK
set_option linter.unusedVariables false
set_option linter.unusedSimpArgs false
set_option maxHeartbeats 4000000
/-! ### spec_l12Swept: function 41 -/
noncomputable def spec_l12Swept.sp : Nat → Option (Spec Ty) := fun r => bif Nat.beq r 4 then some ⟨[(2, .box [.own .t53, .own .t88, .keep]), (4, .own .t3), (5, .box [.own .t53, .own .t88, .keep]), (6, .keep)], []⟩ else none
noncomputable def spec_l12Swept.en : Option (Spec Ty) := some ⟨[(2, .box [.own .t53, .own .t88, .keep])], []⟩
noncomputable def spec_l12Swept.s4 (x6 : Int) (h65 : List S53) (h66 : List S88) (h64_2 : Int) (h67 : List Int) (h69 : List S53) (h70 : List S88) (h68_2 : Int) : St Ty D := ⟨(Env.put (Env.put (Env.put (Env.put E (some 2) (.pt 64 0 0)) (some 4) (.sl 67 none)) (some 5) (.pt 68 0 0)) (some 6) (.sc (.int .i64 x6))), Heap.put H0 [(65, some (.rowb .t53 h65 0)), (66, some (.rowb .t88 h66 0)), (64, some (.box [.sl 65 none, .sl 66 none, .sc (.int .i64 h64_2)])), (67, some (.rowb .t3 h67 0)), (69, some (.rowb .t53 h69 0)), (70, some (.rowb .t88 h70 0)), (68, some (.box [.sl 69 none, .sl 70 none, .sc (.int .i64 h68_2)]))], 1000⟩
noncomputable def spec_l12Swept.ctx (k : Nat) : Ctx Ty D := (cons 79 (spec_SweepArena.x k) (cons 80 (spec_l12Roots.x k) (fun _ _ _ _ => none)))
noncomputable def spec_l12Swept.c4 : Nat → Int → (List S53) → (List S88) → Int → (List Int) → (List S53) → (List S88) → Int → Option ((List S53) × (List S88) × Int)
  | 0, _, _, _, _, _, _, _, _ => none
  | k + 1, x6, h65, h66, h64_2, h67, h69, h70, h68_2 => (if x6 < (h69.length : Int) then (if 0 ≤ x6 then (if x6 < (h67.length : Int) then (if 0 ≤ x6 then (if x6 < (h69.length : Int) then (spec_l12Swept.c4 k (w64 (x6 + 1)) h65 h66 h64_2 h67 (h69.set x6.toNat (S53.mk ((rd_T53 h69 x6).f0) (rd_T3 h67 x6))) h70 h68_2) else none) else none) else none) else none) else (some (h69, h70, h68_2)))
noncomputable def spec_l12Swept.f (k : Nat) (a0_0 : List S53) (a0_1 : List S88) (a0_2 : Int) : Option ((List S53) × (List S88) × Int) := ((spec_l12Roots.f k a0_0 a0_1 a0_2).bind fun t1 => ((spec_SweepArena.f k a0_1 t1).bind fun t2 => (if ([] : List S53).length + a0_0.length ≤ 8796093022208 then (spec_l12Swept.c4 k 0 ([] : List S53) ([] : List S88) 0 t2.2 (([] : List S53) ++ a0_0) t2.1 a0_2) else none)))
noncomputable def spec_l12Swept.e (r : (List S53) × (List S88) × Int) : Res Ty D := (.ag [.sl 0 none, .sl 1 none, .sc (.int .i64 r.2.2)], [], [.rowb .t53 r.1 0, .rowb .t88 r.2.1 0])
noncomputable abbrev spec_l12Swept.g (rec : List Item → St Ty D → R) (k : Nat) := go1 Try.f41 (spec_l12Swept.ctx k) spec_l12Swept.sp 0 spec_l12Swept.en rec
set_option maxRecDepth 100000 in
theorem spec_l12Swept.t4 (rec : List Item → St Ty D → R) (k : Nat) (x6 : Int) (h65 : List S53) (h66 : List S88) (h64_2 : Int) (h67 : List Int) (h69 : List S53) (h70 : List S88) (h68_2 : Int) : spec_l12Swept.g rec k (td Try.f41 4) (spec_l12Swept.s4 x6 h65 h66 h64_2 h67 h69 h70 h68_2) =
  bif decide (x6 < (h69.length : Int)) then bif decide (0 ≤ x6) then bif decide (x6 < (h67.length : Int)) then bif decide (0 ≤ x6) then bif decide (x6 < (h69.length : Int)) then rec (td Try.f41 4) (spec_l12Swept.s4 (w64 (x6 + 1)) h65 h66 h64_2 h67 (h69.set x6.toNat (S53.mk ((rd_T53 h69 x6).f0) (rd_T3 h67 x6))) h70 h68_2) else none else none else none else none else some (spec_l12Swept.e (h69, h70, h68_2)) := by kernel_rfl
set_option maxRecDepth 100000 in
theorem spec_l12Swept.te (rec : List Item → St Ty D → R) (k : Nat) (a0_0 : List S53) (a0_1 : List S88) (a0_2 : Int) : spec_l12Swept.g rec k [.code (body Try.f41)] (startSt [.ag [.row 0 .t53 a0_0, .row 0 .t88 a0_1, .sc (.int .i64 a0_2)]] []) =
  (spec_l12Roots.f k a0_0 a0_1 a0_2).bind fun t1 => (spec_SweepArena.f k a0_1 t1).bind fun t2 => bif decide (([] : List S53).length + a0_0.length ≤ 8796093022208) then rec (td Try.f41 4) (spec_l12Swept.s4 0 ([] : List S53) ([] : List S88) 0 t2.2 (([] : List S53) ++ a0_0) t2.1 a0_2) else none := by kernel_rfl
set_option maxRecDepth 100000 in
theorem spec_l12Swept.ok : ∀ k : Nat, (∀ (x6 : Int) (h65 : List S53) (h66 : List S88) (h64_2 : Int) (h67 : List Int) (h69 : List S53) (h70 : List S88) (h68_2 : Int), goF Try.f41 spec_l12Swept.ctx spec_l12Swept.sp 0 spec_l12Swept.en k (td Try.f41 4) (spec_l12Swept.s4 x6 h65 h66 h64_2 h67 h69 h70 h68_2) = (spec_l12Swept.c4 k x6 h65 h66 h64_2 h67 h69 h70 h68_2).map spec_l12Swept.e)
  | 0 => fun _ _ _ _ _ _ _ _ => rfl
  | k + 1 => by
    have ih := spec_l12Swept.ok k
    have i4 := ih
    intro x6 h65 h66 h64_2 h67 h69 h70 h68_2; rw [spec_l12Swept.c4]; exact (spec_l12Swept.t4 _ k x6 h65 h66 h64_2 h67 h69 h70 h68_2).trans (cd (cd (cd (cd (cd (i4 _ _ _ _ _ _ _ _) rfl) rfl) rfl) rfl) rfl)
set_option maxRecDepth 100000 in
theorem spec_l12Swept.oke (k : Nat) (a0_0 : List S53) (a0_1 : List S88) (a0_2 : Int) : goF Try.f41 spec_l12Swept.ctx spec_l12Swept.sp 0 spec_l12Swept.en (k + 1) [.code (body Try.f41)] (startSt [.ag [.row 0 .t53 a0_0, .row 0 .t88 a0_1, .sc (.int .i64 a0_2)]] []) = (spec_l12Swept.f k a0_0 a0_1 a0_2).map spec_l12Swept.e := by
  have i4 := spec_l12Swept.ok k
  rw [spec_l12Swept.f]; exact (spec_l12Swept.te _ k a0_0 a0_1 a0_2).trans (bn (fun t1 => (bn (fun t2 => (cd (i4 _ _ _ _ _ _ _ _) rfl)))))
theorem spec_l12Swept.con (k : Nat) (a0_0 : List S53) (a0_1 : List S88) (a0_2 : Int) (r) (h : spec_l12Swept.f k a0_0 a0_1 a0_2 = some r) : Contract Try.prog kit 41 [.ag [.row 0 .t53 a0_0, .row 0 .t88 a0_1, .sc (.int .i64 a0_2)]] [] (spec_l12Swept.e r).1 (spec_l12Swept.e r).2.1 (spec_l12Swept.e r).2.2 :=
  con_okG kitOk mix (fun k => (CtxOk.cons (spec_SweepArena.xok k) (CtxOk.cons (spec_l12Roots.xok k) CtxOk.nil))) (spec_l12Swept.oke k a0_0 a0_1 a0_2) h (by kernel_rfl) (by kernel_rfl) (by kernel_rfl) rfl (by kernel_rfl) rfl rfl
noncomputable def spec_l12Swept.x (k : Nat) : X := fun ins bs κ => match ins, bs with
  | [.ag [.row 0 .t53 a0_0, .row 0 .t88 a0_1, .sc (.int .i64 a0_2)]], [] => (spec_l12Swept.f k a0_0 a0_1 a0_2).bind fun r => κ (spec_l12Swept.e r).1 (spec_l12Swept.e r).2.1 (spec_l12Swept.e r).2.2
  | _, _ => none
theorem spec_l12Swept.xok (k : Nat) : XOk 41 (spec_l12Swept.x k) := by
  intro ins bs κ res h
  unfold spec_l12Swept.x at h
  split at h
  · obtain ⟨r, hr, h⟩ := Option.bind_eq_some_iff.1 h
    exact ⟨_, _, _, spec_l12Swept.con k _ _ _ r hr, h⟩
  · cases h

/-! ### spec_PutAt: function 42 -/
noncomputable def spec_PutAt.sp : Nat → Option (Spec Ty) := fun r => none
noncomputable def spec_PutAt.en : Option (Spec Ty) := some ⟨[(8, .box [.own .t88]), (9, .keep)], []⟩
noncomputable def spec_PutAt.ctx (k : Nat) : Ctx Ty D := (cons 75 (spec_ArenaOk.x k) (cons 76 (spec_l01In.x k) (cons 77 (spec_l11Root.x k) (cons 81 (spec_l11Copy.x k) (fun _ _ _ _ => none)))))
noncomputable def spec_PutAt.f (k : Nat) (a0_0 : List S88) (a1 : Int) (a2 : Int) (a3 : Int) : Option ((List S88) × Int) := ((spec_l11Copy.f k a0_0).bind fun t1 => ((spec_ArenaOk.f k a0_0).bind fun t2 => (if t2 = true then ((spec_l11Root.f k a0_0 a1).bind fun t3 => (if t3 = true then ((spec_l01In.f k a2 0 15).bind fun t4 => (if t4 = true then (if a3 < 0 then (some (t1, a1)) else (if a1 ≥ 0 then (if 0 ≤ a1 then (if a1 < (a0_0.length : Int) then (if ([] : List Int).length + ((rd_T88 a0_0 a1).f1).length ≤ 17592186044416 then (if 0 ≤ (w64 (Int.tdiv a2 4)) then (if (w64 (Int.tdiv a2 4)) < ((([] : List Int) ++ ((rd_T88 a0_0 a1).f1)).length : Int) then (if (rd_T3 (([] : List Int) ++ ((rd_T88 a0_0 a1).f1)) (w64 (Int.tdiv a2 4))) ≥ 0 then (if 0 ≤ (rd_T3 (([] : List Int) ++ ((rd_T88 a0_0 a1).f1)) (w64 (Int.tdiv a2 4))) then (if (rd_T3 (([] : List Int) ++ ((rd_T88 a0_0 a1).f1)) (w64 (Int.tdiv a2 4))) < (a0_0.length : Int) then (if ([] : List Int).length + ((rd_T88 a0_0 (rd_T3 (([] : List Int) ++ ((rd_T88 a0_0 a1).f1)) (w64 (Int.tdiv a2 4)))).f1).length ≤ 17592186044416 then (if 0 ≤ (Int.tmod a2 4) then (if (Int.tmod a2 4) < ((([] : List Int) ++ ((rd_T88 a0_0 (rd_T3 (([] : List Int) ++ ((rd_T88 a0_0 a1).f1)) (w64 (Int.tdiv a2 4)))).f1)).length : Int) then (if 0 ≤ (w64 (Int.tdiv a2 4)) then (if (w64 (Int.tdiv a2 4)) < ((([] : List Int) ++ ((rd_T88 a0_0 a1).f1)).length : Int) then (if t1.length + ([(S88.mk true ((([] : List Int) ++ ((rd_T88 a0_0 (rd_T3 (([] : List Int) ++ ((rd_T88 a0_0 a1).f1)) (w64 (Int.tdiv a2 4)))).f1)).set ((Int.tmod a2 4).toNat) a3)), (S88.mk false ((([] : List Int) ++ ((rd_T88 a0_0 a1).f1)).set ((w64 (Int.tdiv a2 4)).toNat) (t1.length : Int)))] : List S88).length ≤ 4398046511104 then (some ((t1 ++ ([(S88.mk true ((([] : List Int) ++ ((rd_T88 a0_0 (rd_T3 (([] : List Int) ++ ((rd_T88 a0_0 a1).f1)) (w64 (Int.tdiv a2 4)))).f1)).set ((Int.tmod a2 4).toNat) a3)), (S88.mk false ((([] : List Int) ++ ((rd_T88 a0_0 a1).f1)).set ((w64 (Int.tdiv a2 4)).toNat) (t1.length : Int)))] : List S88)), (w64 (((t1 ++ ([(S88.mk true ((([] : List Int) ++ ((rd_T88 a0_0 (rd_T3 (([] : List Int) ++ ((rd_T88 a0_0 a1).f1)) (w64 (Int.tdiv a2 4)))).f1)).set ((Int.tmod a2 4).toNat) a3)), (S88.mk false ((([] : List Int) ++ ((rd_T88 a0_0 a1).f1)).set ((w64 (Int.tdiv a2 4)).toNat) (t1.length : Int)))] : List S88)).length : Int) - 1)))) else none) else none) else none) else none) else none) else none) else none) else none) else (if 0 ≤ (Int.tmod a2 4) then (if (Int.tmod a2 4) < ((List.replicate 4 z3).length : Int) then (if 0 ≤ (w64 (Int.tdiv a2 4)) then (if (w64 (Int.tdiv a2 4)) < ((([] : List Int) ++ ((rd_T88 a0_0 a1).f1)).length : Int) then (if t1.length + ([(S88.mk true ((List.replicate 4 z3).set ((Int.tmod a2 4).toNat) a3)), (S88.mk false ((([] : List Int) ++ ((rd_T88 a0_0 a1).f1)).set ((w64 (Int.tdiv a2 4)).toNat) (t1.length : Int)))] : List S88).length ≤ 4398046511104 then (some ((t1 ++ ([(S88.mk true ((List.replicate 4 z3).set ((Int.tmod a2 4).toNat) a3)), (S88.mk false ((([] : List Int) ++ ((rd_T88 a0_0 a1).f1)).set ((w64 (Int.tdiv a2 4)).toNat) (t1.length : Int)))] : List S88)), (w64 (((t1 ++ ([(S88.mk true ((List.replicate 4 z3).set ((Int.tmod a2 4).toNat) a3)), (S88.mk false ((([] : List Int) ++ ((rd_T88 a0_0 a1).f1)).set ((w64 (Int.tdiv a2 4)).toNat) (t1.length : Int)))] : List S88)).length : Int) - 1)))) else none) else none) else none) else none) else none)) else none) else none) else none) else none) else none) else (if 0 ≤ (Int.tmod a2 4) then (if (Int.tmod a2 4) < ((List.replicate 4 z3).length : Int) then (if 0 ≤ (w64 (Int.tdiv a2 4)) then (if (w64 (Int.tdiv a2 4)) < (([(-1), (-1), (-1), (-1)] : List Int).length : Int) then (if t1.length + ([(S88.mk true ((List.replicate 4 z3).set ((Int.tmod a2 4).toNat) a3)), (S88.mk false (([(-1), (-1), (-1), (-1)] : List Int).set ((w64 (Int.tdiv a2 4)).toNat) (t1.length : Int)))] : List S88).length ≤ 4398046511104 then (some ((t1 ++ ([(S88.mk true ((List.replicate 4 z3).set ((Int.tmod a2 4).toNat) a3)), (S88.mk false (([(-1), (-1), (-1), (-1)] : List Int).set ((w64 (Int.tdiv a2 4)).toNat) (t1.length : Int)))] : List S88)), (w64 (((t1 ++ ([(S88.mk true ((List.replicate 4 z3).set ((Int.tmod a2 4).toNat) a3)), (S88.mk false (([(-1), (-1), (-1), (-1)] : List Int).set ((w64 (Int.tdiv a2 4)).toNat) (t1.length : Int)))] : List S88)).length : Int) - 1)))) else none) else none) else none) else none) else none))) else (some (t1, a1)))) else (some (t1, a1)))) else (some (t1, a1)))))
noncomputable def spec_PutAt.e (r : (List S88) × Int) : Res Ty D := (.tu [.ag [.sl 0 none], .sc (.int .i64 r.2)], [], [.rowb .t88 r.1 0])
noncomputable abbrev spec_PutAt.g (rec : List Item → St Ty D → R) (k : Nat) := go1 Try.f42 (spec_PutAt.ctx k) spec_PutAt.sp 0 spec_PutAt.en rec
set_option maxRecDepth 100000 in
theorem spec_PutAt.te (rec : List Item → St Ty D → R) (k : Nat) (a0_0 : List S88) (a1 : Int) (a2 : Int) (a3 : Int) : spec_PutAt.g rec k [.code (body Try.f42)] (startSt [.ag [.row 0 .t88 a0_0], .sc (.int .i64 a1), .sc (.int .i64 a2), .sc (.int .i64 a3)] []) =
  (spec_l11Copy.f k a0_0).bind fun t1 => (spec_ArenaOk.f k a0_0).bind fun t2 => bif !t2 then some (spec_PutAt.e (t1, a1)) else (spec_l11Root.f k a0_0 a1).bind fun t3 => bif !t3 then some (spec_PutAt.e (t1, a1)) else (spec_l01In.f k a2 0 15).bind fun t4 => bif !t4 then some (spec_PutAt.e (t1, a1)) else bif decide (a3 < 0) then some (spec_PutAt.e (t1, a1)) else bif decide (a1 ≥ 0) then bif decide (0 ≤ a1) then bif decide (a1 < (a0_0.length : Int)) then bif decide (([] : List Int).length + ((rd_T88 a0_0 a1).f1).length ≤ 17592186044416) then bif decide (0 ≤ (w64 (Int.tdiv a2 4))) then bif decide ((w64 (Int.tdiv a2 4)) < ((([] : List Int) ++ ((rd_T88 a0_0 a1).f1)).length : Int)) then bif decide ((rd_T3 (([] : List Int) ++ ((rd_T88 a0_0 a1).f1)) (w64 (Int.tdiv a2 4))) ≥ 0) then bif decide (0 ≤ (rd_T3 (([] : List Int) ++ ((rd_T88 a0_0 a1).f1)) (w64 (Int.tdiv a2 4)))) then bif decide ((rd_T3 (([] : List Int) ++ ((rd_T88 a0_0 a1).f1)) (w64 (Int.tdiv a2 4))) < (a0_0.length : Int)) then bif decide (([] : List Int).length + ((rd_T88 a0_0 (rd_T3 (([] : List Int) ++ ((rd_T88 a0_0 a1).f1)) (w64 (Int.tdiv a2 4)))).f1).length ≤ 17592186044416) then bif decide (0 ≤ (Int.tmod a2 4)) then bif decide ((Int.tmod a2 4) < ((([] : List Int) ++ ((rd_T88 a0_0 (rd_T3 (([] : List Int) ++ ((rd_T88 a0_0 a1).f1)) (w64 (Int.tdiv a2 4)))).f1)).length : Int)) then bif decide (0 ≤ (w64 (Int.tdiv a2 4))) then bif decide ((w64 (Int.tdiv a2 4)) < ((([] : List Int) ++ ((rd_T88 a0_0 a1).f1)).length : Int)) then bif decide (t1.length + ([(S88.mk true ((([] : List Int) ++ ((rd_T88 a0_0 (rd_T3 (([] : List Int) ++ ((rd_T88 a0_0 a1).f1)) (w64 (Int.tdiv a2 4)))).f1)).set ((Int.tmod a2 4).toNat) a3)), (S88.mk false ((([] : List Int) ++ ((rd_T88 a0_0 a1).f1)).set ((w64 (Int.tdiv a2 4)).toNat) (t1.length : Int)))] : List S88).length ≤ 4398046511104) then some (spec_PutAt.e ((t1 ++ ([(S88.mk true ((([] : List Int) ++ ((rd_T88 a0_0 (rd_T3 (([] : List Int) ++ ((rd_T88 a0_0 a1).f1)) (w64 (Int.tdiv a2 4)))).f1)).set ((Int.tmod a2 4).toNat) a3)), (S88.mk false ((([] : List Int) ++ ((rd_T88 a0_0 a1).f1)).set ((w64 (Int.tdiv a2 4)).toNat) (t1.length : Int)))] : List S88)), (w64 (((t1 ++ ([(S88.mk true ((([] : List Int) ++ ((rd_T88 a0_0 (rd_T3 (([] : List Int) ++ ((rd_T88 a0_0 a1).f1)) (w64 (Int.tdiv a2 4)))).f1)).set ((Int.tmod a2 4).toNat) a3)), (S88.mk false ((([] : List Int) ++ ((rd_T88 a0_0 a1).f1)).set ((w64 (Int.tdiv a2 4)).toNat) (t1.length : Int)))] : List S88)).length : Int) - 1)))) else none else none else none else none else none else none else none else none else bif decide (0 ≤ (Int.tmod a2 4)) then bif decide ((Int.tmod a2 4) < ((List.replicate 4 z3).length : Int)) then bif decide (0 ≤ (w64 (Int.tdiv a2 4))) then bif decide ((w64 (Int.tdiv a2 4)) < ((([] : List Int) ++ ((rd_T88 a0_0 a1).f1)).length : Int)) then bif decide (t1.length + ([(S88.mk true ((List.replicate 4 z3).set ((Int.tmod a2 4).toNat) a3)), (S88.mk false ((([] : List Int) ++ ((rd_T88 a0_0 a1).f1)).set ((w64 (Int.tdiv a2 4)).toNat) (t1.length : Int)))] : List S88).length ≤ 4398046511104) then some (spec_PutAt.e ((t1 ++ ([(S88.mk true ((List.replicate 4 z3).set ((Int.tmod a2 4).toNat) a3)), (S88.mk false ((([] : List Int) ++ ((rd_T88 a0_0 a1).f1)).set ((w64 (Int.tdiv a2 4)).toNat) (t1.length : Int)))] : List S88)), (w64 (((t1 ++ ([(S88.mk true ((List.replicate 4 z3).set ((Int.tmod a2 4).toNat) a3)), (S88.mk false ((([] : List Int) ++ ((rd_T88 a0_0 a1).f1)).set ((w64 (Int.tdiv a2 4)).toNat) (t1.length : Int)))] : List S88)).length : Int) - 1)))) else none else none else none else none else none else none else none else none else none else none else bif decide (0 ≤ (Int.tmod a2 4)) then bif decide ((Int.tmod a2 4) < ((List.replicate 4 z3).length : Int)) then bif decide (0 ≤ (w64 (Int.tdiv a2 4))) then bif decide ((w64 (Int.tdiv a2 4)) < (([(-1), (-1), (-1), (-1)] : List Int).length : Int)) then bif decide (t1.length + ([(S88.mk true ((List.replicate 4 z3).set ((Int.tmod a2 4).toNat) a3)), (S88.mk false (([(-1), (-1), (-1), (-1)] : List Int).set ((w64 (Int.tdiv a2 4)).toNat) (t1.length : Int)))] : List S88).length ≤ 4398046511104) then some (spec_PutAt.e ((t1 ++ ([(S88.mk true ((List.replicate 4 z3).set ((Int.tmod a2 4).toNat) a3)), (S88.mk false (([(-1), (-1), (-1), (-1)] : List Int).set ((w64 (Int.tdiv a2 4)).toNat) (t1.length : Int)))] : List S88)), (w64 (((t1 ++ ([(S88.mk true ((List.replicate 4 z3).set ((Int.tmod a2 4).toNat) a3)), (S88.mk false (([(-1), (-1), (-1), (-1)] : List Int).set ((w64 (Int.tdiv a2 4)).toNat) (t1.length : Int)))] : List S88)).length : Int) - 1)))) else none else none else none else none else none := by kernel_rfl
set_option maxRecDepth 100000 in
theorem spec_PutAt.oke (k : Nat) (a0_0 : List S88) (a1 : Int) (a2 : Int) (a3 : Int) : goF Try.f42 spec_PutAt.ctx spec_PutAt.sp 0 spec_PutAt.en (k + 1) [.code (body Try.f42)] (startSt [.ag [.row 0 .t88 a0_0], .sc (.int .i64 a1), .sc (.int .i64 a2), .sc (.int .i64 a3)] []) = (spec_PutAt.f k a0_0 a1 a2 a3).map spec_PutAt.e := by
  rw [spec_PutAt.f]; exact (spec_PutAt.te _ k a0_0 a1 a2 a3).trans (bn (fun t1 => (bn (fun t2 => (nb rfl (bn (fun t3 => (nb rfl (bn (fun t4 => (nb rfl (cd rfl (cd (cd (cd (cd (cd (cd (cd (cd (cd (cd (cd (cd (cd (cd (cd rfl rfl) rfl) rfl) rfl) rfl) rfl) rfl) rfl) (cd (cd (cd (cd (cd rfl rfl) rfl) rfl) rfl) rfl)) rfl) rfl) rfl) rfl) rfl) (cd (cd (cd (cd (cd rfl rfl) rfl) rfl) rfl) rfl))))))))))))))
theorem spec_PutAt.con (k : Nat) (a0_0 : List S88) (a1 : Int) (a2 : Int) (a3 : Int) (r) (h : spec_PutAt.f k a0_0 a1 a2 a3 = some r) : Contract Try.prog kit 42 [.ag [.row 0 .t88 a0_0], .sc (.int .i64 a1), .sc (.int .i64 a2), .sc (.int .i64 a3)] [] (spec_PutAt.e r).1 (spec_PutAt.e r).2.1 (spec_PutAt.e r).2.2 :=
  con_okG kitOk mix (fun k => (CtxOk.cons (spec_ArenaOk.xok k) (CtxOk.cons (spec_l01In.xok k) (CtxOk.cons (spec_l11Root.xok k) (CtxOk.cons (spec_l11Copy.xok k) CtxOk.nil))))) (spec_PutAt.oke k a0_0 a1 a2 a3) h (by kernel_rfl) (by kernel_rfl) (by kernel_rfl) rfl (by kernel_rfl) rfl rfl
noncomputable def spec_PutAt.x (k : Nat) : X := fun ins bs κ => match ins, bs with
  | [.ag [.row 0 .t88 a0_0], .sc (.int .i64 a1), .sc (.int .i64 a2), .sc (.int .i64 a3)], [] => (spec_PutAt.f k a0_0 a1 a2 a3).bind fun r => κ (spec_PutAt.e r).1 (spec_PutAt.e r).2.1 (spec_PutAt.e r).2.2
  | _, _ => none
theorem spec_PutAt.xok (k : Nat) : XOk 42 (spec_PutAt.x k) := by
  intro ins bs κ res h
  unfold spec_PutAt.x at h
  split at h
  · obtain ⟨r, hr, h⟩ := Option.bind_eq_some_iff.1 h
    exact ⟨_, _, _, spec_PutAt.con k _ _ _ _ r hr, h⟩
  · cases h

/-! ### spec_Enter: function 10 -/
noncomputable def spec_Enter.sp : Nat → Option (Spec Ty) := fun r => none
noncomputable def spec_Enter.en : Option (Spec Ty) := some ⟨[(4, .box [.own .t53, .own .t88, .keep]), (5, .keep)], [(1, none), (0, none)]⟩
noncomputable def spec_Enter.ctx (k : Nat) : Ctx Ty D := (cons 36 (spec_StoreOk.x k) (cons 37 (spec_RecOk.x k) (cons 38 (spec_l12Copy.x k) (cons 39 (spec_l12Vol.x k) (cons 40 (spec_l12At.x k) (cons 41 (spec_l12Swept.x k) (cons 42 (spec_PutAt.x k) (fun _ _ _ _ => none))))))))
noncomputable def spec_Enter.f (k : Nat) (a0_2 : Int) (a1_0 : Int) (a1_1 : Int) (a1_2 : Int) (a1_3 : Int) (a0_0 : List S53) (a0_1 : List S88) : Option ((List S53) × (List S88) × Int × Bool × (List S53) × (List S88)) := ((spec_StoreOk.f k a0_2 a0_0 a0_1).bind fun t1 => (if t1.1 = true then ((spec_RecOk.f k a1_0 a1_1 a1_2 a1_3).bind fun t3 => (if t3 = true then (if a1_0 = 1 then (if a1_2 = 0 then (some (([] : List S53), ([] : List S88), 1, true, t1.2.1, t1.2.2)) else (some (([] : List S53), ([] : List S88), a1_2, true, t1.2.1, t1.2.2))) else (if a1_0 = 2 then ((spec_l12Vol.f k t1.2.1 t1.2.2 a0_2 a1_0 a1_1 a1_2 a1_3).bind fun t5 => (some (t5.1, t5.2.1, t5.2.2.1, t5.2.2.2, t1.2.1, t1.2.2))) else ((spec_l12At.f k t1.2.1 t1.2.2 a0_2 a1_1).bind fun t6 => (if t6 < 0 then ((spec_l12Copy.f k t1.2.1 t1.2.2 a0_2).bind fun t7 => (some (t7.1, t7.2.1, t7.2.2, false, t1.2.1, t1.2.2))) else (if a1_3 = 1000000000 then ((spec_l12Copy.f k t1.2.1 t1.2.2 a0_2).bind fun t8 => (some (t8.1, t8.2.1, t8.2.2, false, t1.2.1, t1.2.2))) else ((spec_l12Copy.f k t1.2.1 t1.2.2 a0_2).bind fun t9 => (if a1_0 = 3 then (if 0 ≤ t6 then (if t6 ≤ (t1.2.1.length : Int) then (if ([] : List S53).length + ((t1.2.1.drop 0).take (t6.toNat - 0)).length ≤ 8796093022208 then (if 0 ≤ (w64 (t6 + 1)) then (if (w64 (t6 + 1)) ≤ (t1.2.1.length : Int) then (if (([] : List S53) ++ ((t1.2.1.drop 0).take (t6.toNat - 0))).length + ((t1.2.1.drop ((w64 (t6 + 1)).toNat)).take (t1.2.1.length - (w64 (t6 + 1)).toNat)).length ≤ 8796093022208 then ((spec_l12Swept.f k ((([] : List S53) ++ ((t1.2.1.drop 0).take (t6.toNat - 0))) ++ ((t1.2.1.drop ((w64 (t6 + 1)).toNat)).take (t1.2.1.length - (w64 (t6 + 1)).toNat))) t9.2.1 t9.2.2).bind fun t10 => (some (t10.1, t10.2.1, t10.2.2, true, t1.2.1, t1.2.2))) else none) else none) else none) else none) else none) else none) else (if 0 ≤ t6 then (if t6 < (t1.2.1.length : Int) then ((spec_PutAt.f k t1.2.2 ((rd_T53 t1.2.1 t6).f1) a1_2 a1_3).bind fun t11 => (if 0 ≤ t6 then (if t6 < (t9.1.length : Int) then (if a1_3 ≥ t9.2.2 then ((spec_l12Swept.f k (t9.1.set t6.toNat (S53.mk ((rd_T53 t9.1 t6).f0) t11.2)) t11.1 (w64 (a1_3 + 1))).bind fun t12 => (some (t12.1, t12.2.1, t12.2.2, true, t1.2.1, t1.2.2))) else ((spec_l12Swept.f k (t9.1.set t6.toNat (S53.mk ((rd_T53 t9.1 t6).f0) t11.2)) t11.1 t9.2.2).bind fun t13 => (some (t13.1, t13.2.1, t13.2.2, true, t1.2.1, t1.2.2)))) else none) else none)) else none) else none)))))))) else ((spec_l12Copy.f k t1.2.1 t1.2.2 a0_2).bind fun t4 => (some (t4.1, t4.2.1, t4.2.2, false, t1.2.1, t1.2.2))))) else ((spec_l12Copy.f k t1.2.1 t1.2.2 a0_2).bind fun t2 => (some (t2.1, t2.2.1, t2.2.2, false, t1.2.1, t1.2.2)))))
noncomputable def spec_Enter.e (r : (List S53) × (List S88) × Int × Bool × (List S53) × (List S88)) : Res Ty D := (.tu [.ag [.sl 2 none, .sl 3 none, .sc (.int .i64 r.2.2.1)], .sc (.bool r.2.2.2.1)], [some (.rowb .t53 r.2.2.2.2.1 0), some (.rowb .t88 r.2.2.2.2.2 0)], [.rowb .t53 r.1 0, .rowb .t88 r.2.1 0])
noncomputable abbrev spec_Enter.g (rec : List Item → St Ty D → R) (k : Nat) := go1 Try.f10 (spec_Enter.ctx k) spec_Enter.sp 2 spec_Enter.en rec
set_option maxRecDepth 100000 in
theorem spec_Enter.te (rec : List Item → St Ty D → R) (k : Nat) (a0_2 : Int) (a1_0 : Int) (a1_1 : Int) (a1_2 : Int) (a1_3 : Int) (a0_0 : List S53) (a0_1 : List S88) : spec_Enter.g rec k [.code (body Try.f10)] (startSt [.ag [.sl 0 none, .sl 1 none, .sc (.int .i64 a0_2)], .ag [.sc (.int .i64 a1_0), .sc (.int .i64 a1_1), .sc (.int .i64 a1_2), .sc (.int .i64 a1_3)]] [.rowb .t53 a0_0 0, .rowb .t88 a0_1 0]) =
  (spec_StoreOk.f k a0_2 a0_0 a0_1).bind fun t1 => bif !t1.1 then (spec_l12Copy.f k t1.2.1 t1.2.2 a0_2).bind fun t2 => some (spec_Enter.e (t2.1, t2.2.1, t2.2.2, false, t1.2.1, t1.2.2)) else (spec_RecOk.f k a1_0 a1_1 a1_2 a1_3).bind fun t3 => bif !t3 then (spec_l12Copy.f k t1.2.1 t1.2.2 a0_2).bind fun t4 => some (spec_Enter.e (t4.1, t4.2.1, t4.2.2, false, t1.2.1, t1.2.2)) else bif decide (a1_0 = 1) then bif decide (a1_2 = 0) then some (spec_Enter.e (([] : List S53), ([] : List S88), 1, true, t1.2.1, t1.2.2)) else some (spec_Enter.e (([] : List S53), ([] : List S88), a1_2, true, t1.2.1, t1.2.2)) else bif decide (a1_0 = 2) then (spec_l12Vol.f k t1.2.1 t1.2.2 a0_2 a1_0 a1_1 a1_2 a1_3).bind fun t5 => some (spec_Enter.e (t5.1, t5.2.1, t5.2.2.1, t5.2.2.2, t1.2.1, t1.2.2)) else (spec_l12At.f k t1.2.1 t1.2.2 a0_2 a1_1).bind fun t6 => bif decide (t6 < 0) then (spec_l12Copy.f k t1.2.1 t1.2.2 a0_2).bind fun t7 => some (spec_Enter.e (t7.1, t7.2.1, t7.2.2, false, t1.2.1, t1.2.2)) else bif decide (a1_3 = 1000000000) then (spec_l12Copy.f k t1.2.1 t1.2.2 a0_2).bind fun t8 => some (spec_Enter.e (t8.1, t8.2.1, t8.2.2, false, t1.2.1, t1.2.2)) else (spec_l12Copy.f k t1.2.1 t1.2.2 a0_2).bind fun t9 => bif decide (a1_0 = 3) then bif decide (0 ≤ t6) then bif decide (t6 ≤ (t1.2.1.length : Int)) then bif decide (([] : List S53).length + ((t1.2.1.drop 0).take (t6.toNat - 0)).length ≤ 8796093022208) then bif decide (0 ≤ (w64 (t6 + 1))) then bif decide ((w64 (t6 + 1)) ≤ (t1.2.1.length : Int)) then bif decide ((([] : List S53) ++ ((t1.2.1.drop 0).take (t6.toNat - 0))).length + ((t1.2.1.drop ((w64 (t6 + 1)).toNat)).take (t1.2.1.length - (w64 (t6 + 1)).toNat)).length ≤ 8796093022208) then (spec_l12Swept.f k ((([] : List S53) ++ ((t1.2.1.drop 0).take (t6.toNat - 0))) ++ ((t1.2.1.drop ((w64 (t6 + 1)).toNat)).take (t1.2.1.length - (w64 (t6 + 1)).toNat))) t9.2.1 t9.2.2).bind fun t10 => some (spec_Enter.e (t10.1, t10.2.1, t10.2.2, true, t1.2.1, t1.2.2)) else none else none else none else none else none else none else bif decide (0 ≤ t6) then bif decide (t6 < (t1.2.1.length : Int)) then (spec_PutAt.f k t1.2.2 ((rd_T53 t1.2.1 t6).f1) a1_2 a1_3).bind fun t11 => bif decide (0 ≤ t6) then bif decide (t6 < (t9.1.length : Int)) then bif decide (a1_3 ≥ t9.2.2) then (spec_l12Swept.f k (t9.1.set t6.toNat (S53.mk ((rd_T53 t9.1 t6).f0) t11.2)) t11.1 (w64 (a1_3 + 1))).bind fun t12 => some (spec_Enter.e (t12.1, t12.2.1, t12.2.2, true, t1.2.1, t1.2.2)) else (spec_l12Swept.f k (t9.1.set t6.toNat (S53.mk ((rd_T53 t9.1 t6).f0) t11.2)) t11.1 t9.2.2).bind fun t13 => some (spec_Enter.e (t13.1, t13.2.1, t13.2.2, true, t1.2.1, t1.2.2)) else none else none else none else none := by kernel_rfl
set_option maxRecDepth 100000 in
theorem spec_Enter.oke (k : Nat) (a0_2 : Int) (a1_0 : Int) (a1_1 : Int) (a1_2 : Int) (a1_3 : Int) (a0_0 : List S53) (a0_1 : List S88) : goF Try.f10 spec_Enter.ctx spec_Enter.sp 2 spec_Enter.en (k + 1) [.code (body Try.f10)] (startSt [.ag [.sl 0 none, .sl 1 none, .sc (.int .i64 a0_2)], .ag [.sc (.int .i64 a1_0), .sc (.int .i64 a1_1), .sc (.int .i64 a1_2), .sc (.int .i64 a1_3)]] [.rowb .t53 a0_0 0, .rowb .t88 a0_1 0]) = (spec_Enter.f k a0_2 a1_0 a1_1 a1_2 a1_3 a0_0 a0_1).map spec_Enter.e := by
  rw [spec_Enter.f]; exact (spec_Enter.te _ k a0_2 a1_0 a1_1 a1_2 a1_3 a0_0 a0_1).trans (bn (fun t1 => (nb (bn (fun t2 => rfl)) (bn (fun t3 => (nb (bn (fun t4 => rfl)) (cd (cd rfl rfl) (cd (bn (fun t5 => rfl)) (bn (fun t6 => (cd (bn (fun t7 => rfl)) (cd (bn (fun t8 => rfl)) (bn (fun t9 => (cd (cd (cd (cd (cd (cd (cd (bn (fun t10 => rfl)) rfl) rfl) rfl) rfl) rfl) rfl) (cd (cd (bn (fun t11 => (cd (cd (cd (bn (fun t12 => rfl)) (bn (fun t13 => rfl))) rfl) rfl))) rfl) rfl))))))))))))))))
theorem spec_Enter.con (k : Nat) (a0_2 : Int) (a1_0 : Int) (a1_1 : Int) (a1_2 : Int) (a1_3 : Int) (a0_0 : List S53) (a0_1 : List S88) (r) (h : spec_Enter.f k a0_2 a1_0 a1_1 a1_2 a1_3 a0_0 a0_1 = some r) : Contract Try.prog kit 10 [.ag [.sl 0 none, .sl 1 none, .sc (.int .i64 a0_2)], .ag [.sc (.int .i64 a1_0), .sc (.int .i64 a1_1), .sc (.int .i64 a1_2), .sc (.int .i64 a1_3)]] [.rowb .t53 a0_0 0, .rowb .t88 a0_1 0] (spec_Enter.e r).1 (spec_Enter.e r).2.1 (spec_Enter.e r).2.2 :=
  con_okG kitOk mix (fun k => (CtxOk.cons (spec_StoreOk.xok k) (CtxOk.cons (spec_RecOk.xok k) (CtxOk.cons (spec_l12Copy.xok k) (CtxOk.cons (spec_l12Vol.xok k) (CtxOk.cons (spec_l12At.xok k) (CtxOk.cons (spec_l12Swept.xok k) (CtxOk.cons (spec_PutAt.xok k) CtxOk.nil)))))))) (spec_Enter.oke k a0_2 a1_0 a1_1 a1_2 a1_3 a0_0 a0_1) h (by kernel_rfl) (by kernel_rfl) (by kernel_rfl) rfl (by kernel_rfl) rfl rfl
noncomputable def spec_Enter.x (k : Nat) : X := fun ins bs κ => match ins, bs with
  | [.ag [.sl 0 none, .sl 1 none, .sc (.int .i64 a0_2)], .ag [.sc (.int .i64 a1_0), .sc (.int .i64 a1_1), .sc (.int .i64 a1_2), .sc (.int .i64 a1_3)]], [.rowb .t53 a0_0 0, .rowb .t88 a0_1 0] => (spec_Enter.f k a0_2 a1_0 a1_1 a1_2 a1_3 a0_0 a0_1).bind fun r => κ (spec_Enter.e r).1 (spec_Enter.e r).2.1 (spec_Enter.e r).2.2
  | _, _ => none
theorem spec_Enter.xok (k : Nat) : XOk 10 (spec_Enter.x k) := by
  intro ins bs κ res h
  unfold spec_Enter.x at h
  split at h
  · obtain ⟨r, hr, h⟩ := Option.bind_eq_some_iff.1 h
    exact ⟨_, _, _, spec_Enter.con k _ _ _ _ _ _ _ r hr, h⟩
  · cases h

/-! ### spec_l01Byte: function 72 -/
noncomputable def spec_l01Byte.sp : Nat → Option (Spec Ty) := fun r => none
noncomputable def spec_l01Byte.en : Option (Spec Ty) := none
noncomputable def spec_l01Byte.ctx (k : Nat) : Ctx Ty D := (fun _ _ _ _ => none)
noncomputable def spec_l01Byte.f (k : Nat) (a0_0 : List Int) (a0_1 : Int) (a0_2 : Int) : Option (Int × (List Int) × Int × Int) := (if a0_1 < (a0_0.length : Int) then (if 0 ≤ a0_1 then (if a0_1 < (a0_0.length : Int) then (some ((Go.bits .and .i64 (w64 ((Go.bits .and .i64 (Go.bits .xor .i64 (Int.fdiv (w64 ((w64 (a0_2 * 6364136223846793005)) + 1442695040888963407)) 8589934592) (Int.fdiv (w64 ((w64 (a0_2 * 6364136223846793005)) + 1442695040888963407)) 35184372088832)) 255) + (w64 ((rd_T5 a0_0 a0_1))))) 255), a0_0, (w64 (a0_1 + 1)), (w64 ((w64 (a0_2 * 6364136223846793005)) + 1442695040888963407)))) else none) else none) else (some ((Go.bits .and .i64 (Go.bits .xor .i64 (Int.fdiv (w64 ((w64 (a0_2 * 6364136223846793005)) + 1442695040888963407)) 8589934592) (Int.fdiv (w64 ((w64 (a0_2 * 6364136223846793005)) + 1442695040888963407)) 35184372088832)) 255), a0_0, a0_1, (w64 ((w64 (a0_2 * 6364136223846793005)) + 1442695040888963407)))))
noncomputable def spec_l01Byte.e (r : Int × (List Int) × Int × Int) : Res Ty D := (.sc (.int .i64 r.1), [some (.box [.row 1 .t5 r.2.1, .sc (.int .i64 r.2.2.1), .sc (.int .i64 r.2.2.2)])], [])
noncomputable abbrev spec_l01Byte.g (rec : List Item → St Ty D → R) (k : Nat) := go1 Try.f72 (spec_l01Byte.ctx k) spec_l01Byte.sp 1 spec_l01Byte.en rec
set_option maxRecDepth 100000 in
theorem spec_l01Byte.te (rec : List Item → St Ty D → R) (k : Nat) (a0_0 : List Int) (a0_1 : Int) (a0_2 : Int) : spec_l01Byte.g rec k [.code (body Try.f72)] (startSt [.pt 0 0 0] [.box [.row 1 .t5 a0_0, .sc (.int .i64 a0_1), .sc (.int .i64 a0_2)]]) =
  bif decide (a0_1 < (a0_0.length : Int)) then bif decide (0 ≤ a0_1) then bif decide (a0_1 < (a0_0.length : Int)) then some (spec_l01Byte.e ((Go.bits .and .i64 (w64 ((Go.bits .and .i64 (Go.bits .xor .i64 (Int.fdiv (w64 ((w64 (a0_2 * 6364136223846793005)) + 1442695040888963407)) 8589934592) (Int.fdiv (w64 ((w64 (a0_2 * 6364136223846793005)) + 1442695040888963407)) 35184372088832)) 255) + (w64 ((rd_T5 a0_0 a0_1))))) 255), a0_0, (w64 (a0_1 + 1)), (w64 ((w64 (a0_2 * 6364136223846793005)) + 1442695040888963407)))) else none else none else some (spec_l01Byte.e ((Go.bits .and .i64 (Go.bits .xor .i64 (Int.fdiv (w64 ((w64 (a0_2 * 6364136223846793005)) + 1442695040888963407)) 8589934592) (Int.fdiv (w64 ((w64 (a0_2 * 6364136223846793005)) + 1442695040888963407)) 35184372088832)) 255), a0_0, a0_1, (w64 ((w64 (a0_2 * 6364136223846793005)) + 1442695040888963407)))) := by kernel_rfl
set_option maxRecDepth 100000 in
theorem spec_l01Byte.oke (k : Nat) (a0_0 : List Int) (a0_1 : Int) (a0_2 : Int) : goF Try.f72 spec_l01Byte.ctx spec_l01Byte.sp 1 spec_l01Byte.en (k + 1) [.code (body Try.f72)] (startSt [.pt 0 0 0] [.box [.row 1 .t5 a0_0, .sc (.int .i64 a0_1), .sc (.int .i64 a0_2)]]) = (spec_l01Byte.f k a0_0 a0_1 a0_2).map spec_l01Byte.e := by
  rw [spec_l01Byte.f]; exact (spec_l01Byte.te _ k a0_0 a0_1 a0_2).trans (cd (cd (cd rfl rfl) rfl) rfl)
theorem spec_l01Byte.con (k : Nat) (a0_0 : List Int) (a0_1 : Int) (a0_2 : Int) (r) (h : spec_l01Byte.f k a0_0 a0_1 a0_2 = some r) : Contract Try.prog kit 72 [.pt 0 0 0] [.box [.row 1 .t5 a0_0, .sc (.int .i64 a0_1), .sc (.int .i64 a0_2)]] (spec_l01Byte.e r).1 (spec_l01Byte.e r).2.1 (spec_l01Byte.e r).2.2 :=
  con_okG kitOk mix (fun k => CtxOk.nil) (spec_l01Byte.oke k a0_0 a0_1 a0_2) h (by kernel_rfl) (by kernel_rfl) (by kernel_rfl) rfl (by kernel_rfl) rfl rfl
noncomputable def spec_l01Byte.x (k : Nat) : X := fun ins bs κ => match ins, bs with
  | [.pt 0 0 0], [.box [.row 1 .t5 a0_0, .sc (.int .i64 a0_1), .sc (.int .i64 a0_2)]] => (spec_l01Byte.f k a0_0 a0_1 a0_2).bind fun r => κ (spec_l01Byte.e r).1 (spec_l01Byte.e r).2.1 (spec_l01Byte.e r).2.2
  | _, _ => none
theorem spec_l01Byte.xok (k : Nat) : XOk 72 (spec_l01Byte.x k) := by
  intro ins bs κ res h
  unfold spec_l01Byte.x at h
  split at h
  · obtain ⟨r, hr, h⟩ := Option.bind_eq_some_iff.1 h
    exact ⟨_, _, _, spec_l01Byte.con k _ _ _ r hr, h⟩
  · cases h

/-! ### spec_l01Below: function 59 -/
noncomputable def spec_l01Below.sp : Nat → Option (Spec Ty) := fun r => none
noncomputable def spec_l01Below.en : Option (Spec Ty) := none
noncomputable def spec_l01Below.ctx (k : Nat) : Ctx Ty D := (cons 72 (spec_l01Byte.x k) (fun _ _ _ _ => none))
noncomputable def spec_l01Below.f (k : Nat) (a1 : Int) (a0_0 : List Int) (a0_1 : Int) (a0_2 : Int) : Option (Int × (List Int) × Int × Int) := (if a1 ≤ 0 then (some (0, a0_0, a0_1, a0_2)) else (if a1 ≤ 256 then ((spec_l01Byte.f k a0_0 a0_1 a0_2).bind fun t1 => (if a1 = 0 then none else (some ((Int.tmod t1.1 a1), t1.2.1, t1.2.2.1, t1.2.2.2)))) else ((spec_l01Byte.f k a0_0 a0_1 a0_2).bind fun t2 => ((spec_l01Byte.f k t2.2.1 t2.2.2.1 t2.2.2.2).bind fun t3 => ((spec_l01Byte.f k t3.2.1 t3.2.2.1 t3.2.2.2).bind fun t4 => ((spec_l01Byte.f k t4.2.1 t4.2.2.1 t4.2.2.2).bind fun t5 => (if a1 = 0 then none else (some ((Int.tmod (w64 ((w64 ((w64 ((w64 (t2.1 * 16777216)) + (w64 (t3.1 * 65536)))) + (w64 (t4.1 * 256)))) + t5.1)) a1), t5.2.1, t5.2.2.1, t5.2.2.2)))))))))
noncomputable def spec_l01Below.e (r : Int × (List Int) × Int × Int) : Res Ty D := (.sc (.int .i64 r.1), [some (.box [.row 1 .t5 r.2.1, .sc (.int .i64 r.2.2.1), .sc (.int .i64 r.2.2.2)])], [])
noncomputable abbrev spec_l01Below.g (rec : List Item → St Ty D → R) (k : Nat) := go1 Try.f59 (spec_l01Below.ctx k) spec_l01Below.sp 1 spec_l01Below.en rec
set_option maxRecDepth 100000 in
theorem spec_l01Below.te (rec : List Item → St Ty D → R) (k : Nat) (a1 : Int) (a0_0 : List Int) (a0_1 : Int) (a0_2 : Int) : spec_l01Below.g rec k [.code (body Try.f59)] (startSt [.pt 0 0 0, .sc (.int .i64 a1)] [.box [.row 1 .t5 a0_0, .sc (.int .i64 a0_1), .sc (.int .i64 a0_2)]]) =
  bif decide (a1 ≤ 0) then some (spec_l01Below.e (0, a0_0, a0_1, a0_2)) else bif decide (a1 ≤ 256) then (spec_l01Byte.f k a0_0 a0_1 a0_2).bind fun t1 => bif !decide (a1 = 0) then some (spec_l01Below.e ((Int.tmod t1.1 a1), t1.2.1, t1.2.2.1, t1.2.2.2)) else none else (spec_l01Byte.f k a0_0 a0_1 a0_2).bind fun t2 => (spec_l01Byte.f k t2.2.1 t2.2.2.1 t2.2.2.2).bind fun t3 => (spec_l01Byte.f k t3.2.1 t3.2.2.1 t3.2.2.2).bind fun t4 => (spec_l01Byte.f k t4.2.1 t4.2.2.1 t4.2.2.2).bind fun t5 => bif !decide (a1 = 0) then some (spec_l01Below.e ((Int.tmod (w64 ((w64 ((w64 ((w64 (t2.1 * 16777216)) + (w64 (t3.1 * 65536)))) + (w64 (t4.1 * 256)))) + t5.1)) a1), t5.2.1, t5.2.2.1, t5.2.2.2)) else none := by kernel_rfl
set_option maxRecDepth 100000 in
theorem spec_l01Below.oke (k : Nat) (a1 : Int) (a0_0 : List Int) (a0_1 : Int) (a0_2 : Int) : goF Try.f59 spec_l01Below.ctx spec_l01Below.sp 1 spec_l01Below.en (k + 1) [.code (body Try.f59)] (startSt [.pt 0 0 0, .sc (.int .i64 a1)] [.box [.row 1 .t5 a0_0, .sc (.int .i64 a0_1), .sc (.int .i64 a0_2)]]) = (spec_l01Below.f k a1 a0_0 a0_1 a0_2).map spec_l01Below.e := by
  rw [spec_l01Below.f]; exact (spec_l01Below.te _ k a1 a0_0 a0_1 a0_2).trans (cd rfl (cd (bn (fun t1 => (nd rfl rfl))) (bn (fun t2 => (bn (fun t3 => (bn (fun t4 => (bn (fun t5 => (nd rfl rfl)))))))))))
theorem spec_l01Below.con (k : Nat) (a1 : Int) (a0_0 : List Int) (a0_1 : Int) (a0_2 : Int) (r) (h : spec_l01Below.f k a1 a0_0 a0_1 a0_2 = some r) : Contract Try.prog kit 59 [.pt 0 0 0, .sc (.int .i64 a1)] [.box [.row 1 .t5 a0_0, .sc (.int .i64 a0_1), .sc (.int .i64 a0_2)]] (spec_l01Below.e r).1 (spec_l01Below.e r).2.1 (spec_l01Below.e r).2.2 :=
  con_okG kitOk mix (fun k => (CtxOk.cons (spec_l01Byte.xok k) CtxOk.nil)) (spec_l01Below.oke k a1 a0_0 a0_1 a0_2) h (by kernel_rfl) (by kernel_rfl) (by kernel_rfl) rfl (by kernel_rfl) rfl rfl
noncomputable def spec_l01Below.x (k : Nat) : X := fun ins bs κ => match ins, bs with
  | [.pt 0 0 0, .sc (.int .i64 a1)], [.box [.row 1 .t5 a0_0, .sc (.int .i64 a0_1), .sc (.int .i64 a0_2)]] => (spec_l01Below.f k a1 a0_0 a0_1 a0_2).bind fun r => κ (spec_l01Below.e r).1 (spec_l01Below.e r).2.1 (spec_l01Below.e r).2.2
  | _, _ => none
theorem spec_l01Below.xok (k : Nat) : XOk 59 (spec_l01Below.x k) := by
  intro ins bs κ res h
  unfold spec_l01Below.x at h
  split at h
  · obtain ⟨r, hr, h⟩ := Option.bind_eq_some_iff.1 h
    exact ⟨_, _, _, spec_l01Below.con k _ _ _ _ r hr, h⟩
  · cases h

/-! ### spec_l01PickInt: function 93 -/
noncomputable def spec_l01PickInt.sp : Nat → Option (Spec Ty) := fun r => none
noncomputable def spec_l01PickInt.en : Option (Spec Ty) := none
noncomputable def spec_l01PickInt.ctx (k : Nat) : Ctx Ty D := (cons 59 (spec_l01Below.x k) (fun _ _ _ _ => none))
noncomputable def spec_l01PickInt.f (k : Nat) (a1 : List Int) (a0_0 : List Int) (a0_1 : Int) (a0_2 : Int) : Option (Int × (List Int) × Int × Int) := ((spec_l01Below.f k (a1.length : Int) a0_0 a0_1 a0_2).bind fun t1 => (if 0 ≤ t1.1 then (if t1.1 < (a1.length : Int) then (some ((rd_T3 a1 t1.1), t1.2.1, t1.2.2.1, t1.2.2.2)) else none) else none))
noncomputable def spec_l01PickInt.e (r : Int × (List Int) × Int × Int) : Res Ty D := (.sc (.int .i64 r.1), [some (.box [.row 1 .t5 r.2.1, .sc (.int .i64 r.2.2.1), .sc (.int .i64 r.2.2.2)])], [])
noncomputable abbrev spec_l01PickInt.g (rec : List Item → St Ty D → R) (k : Nat) := go1 Try.f93 (spec_l01PickInt.ctx k) spec_l01PickInt.sp 1 spec_l01PickInt.en rec
set_option maxRecDepth 100000 in
theorem spec_l01PickInt.te (rec : List Item → St Ty D → R) (k : Nat) (a1 : List Int) (a0_0 : List Int) (a0_1 : Int) (a0_2 : Int) : spec_l01PickInt.g rec k [.code (body Try.f93)] (startSt [.pt 0 0 0, .row 0 .t3 a1] [.box [.row 1 .t5 a0_0, .sc (.int .i64 a0_1), .sc (.int .i64 a0_2)]]) =
  (spec_l01Below.f k (a1.length : Int) a0_0 a0_1 a0_2).bind fun t1 => bif decide (0 ≤ t1.1) then bif decide (t1.1 < (a1.length : Int)) then some (spec_l01PickInt.e ((rd_T3 a1 t1.1), t1.2.1, t1.2.2.1, t1.2.2.2)) else none else none := by kernel_rfl
set_option maxRecDepth 100000 in
theorem spec_l01PickInt.oke (k : Nat) (a1 : List Int) (a0_0 : List Int) (a0_1 : Int) (a0_2 : Int) : goF Try.f93 spec_l01PickInt.ctx spec_l01PickInt.sp 1 spec_l01PickInt.en (k + 1) [.code (body Try.f93)] (startSt [.pt 0 0 0, .row 0 .t3 a1] [.box [.row 1 .t5 a0_0, .sc (.int .i64 a0_1), .sc (.int .i64 a0_2)]]) = (spec_l01PickInt.f k a1 a0_0 a0_1 a0_2).map spec_l01PickInt.e := by
  rw [spec_l01PickInt.f]; exact (spec_l01PickInt.te _ k a1 a0_0 a0_1 a0_2).trans (bn (fun t1 => (cd (cd rfl rfl) rfl)))
theorem spec_l01PickInt.con (k : Nat) (a1 : List Int) (a0_0 : List Int) (a0_1 : Int) (a0_2 : Int) (r) (h : spec_l01PickInt.f k a1 a0_0 a0_1 a0_2 = some r) : Contract Try.prog kit 93 [.pt 0 0 0, .row 0 .t3 a1] [.box [.row 1 .t5 a0_0, .sc (.int .i64 a0_1), .sc (.int .i64 a0_2)]] (spec_l01PickInt.e r).1 (spec_l01PickInt.e r).2.1 (spec_l01PickInt.e r).2.2 :=
  con_okG kitOk mix (fun k => (CtxOk.cons (spec_l01Below.xok k) CtxOk.nil)) (spec_l01PickInt.oke k a1 a0_0 a0_1 a0_2) h (by kernel_rfl) (by kernel_rfl) (by kernel_rfl) rfl (by kernel_rfl) rfl rfl
noncomputable def spec_l01PickInt.x (k : Nat) : X := fun ins bs κ => match ins, bs with
  | [.pt 0 0 0, .row 0 .t3 a1], [.box [.row 1 .t5 a0_0, .sc (.int .i64 a0_1), .sc (.int .i64 a0_2)]] => (spec_l01PickInt.f k a1 a0_0 a0_1 a0_2).bind fun r => κ (spec_l01PickInt.e r).1 (spec_l01PickInt.e r).2.1 (spec_l01PickInt.e r).2.2
  | _, _ => none
theorem spec_l01PickInt.xok (k : Nat) : XOk 93 (spec_l01PickInt.x k) := by
  intro ins bs κ res h
  unfold spec_l01PickInt.x at h
  split at h
  · obtain ⟨r, hr, h⟩ := Option.bind_eq_some_iff.1 h
    exact ⟨_, _, _, spec_l01PickInt.con k _ _ _ _ r hr, h⟩
  · cases h

/-! ### spec_l09Rec: function 57 -/
noncomputable def spec_l09Rec.sp : Nat → Option (Spec Ty) := fun r => none
noncomputable def spec_l09Rec.en : Option (Spec Ty) := none
noncomputable def spec_l09Rec.ctx (k : Nat) : Ctx Ty D := (cons 59 (spec_l01Below.x k) (cons 93 (spec_l01PickInt.x k) (fun _ _ _ _ => none)))
noncomputable def spec_l09Rec.f (k : Nat) (a0_0 : List Int) (a0_1 : Int) (a0_2 : Int) : Option (Int × Int × Int × Int × (List Int) × Int × Int) := ((spec_l01PickInt.f k ([2, 2, 3, 4, 4, 4, 4, 4, 5] : List Int) a0_0 a0_1 a0_2).bind fun t1 => ((spec_l01Below.f k 3 t1.2.1 t1.2.2.1 t1.2.2.2).bind fun t2 => (if t1.1 = 2 then ((spec_l01PickInt.f k ([0, 0, 1, 2] : List Int) t2.2.1 t2.2.2.1 t2.2.2.2).bind fun t3 => (some (t1.1, (w64 (1 + t2.1)), t3.1, 0, t3.2.1, t3.2.2.1, t3.2.2.2))) else (if t1.1 = 4 then ((spec_l01Below.f k 16 t2.2.1 t2.2.2.1 t2.2.2.2).bind fun t4 => ((spec_l01Below.f k 9 t4.2.1 t4.2.2.1 t4.2.2.2).bind fun t5 => (some (t1.1, (w64 (1 + t2.1)), t4.1, (w64 (1 + t5.1)), t5.2.1, t5.2.2.1, t5.2.2.2)))) else (if t1.1 = 5 then ((spec_l01Below.f k 16 t2.2.1 t2.2.2.1 t2.2.2.2).bind fun t6 => (some (t1.1, (w64 (1 + t2.1)), t6.1, 0, t6.2.1, t6.2.2.1, t6.2.2.2))) else (some (t1.1, (w64 (1 + t2.1)), 0, 0, t2.2.1, t2.2.2.1, t2.2.2.2)))))))
noncomputable def spec_l09Rec.e (r : Int × Int × Int × Int × (List Int) × Int × Int) : Res Ty D := (.ag [.sc (.int .i64 r.1), .sc (.int .i64 r.2.1), .sc (.int .i64 r.2.2.1), .sc (.int .i64 r.2.2.2.1)], [some (.box [.row 1 .t5 r.2.2.2.2.1, .sc (.int .i64 r.2.2.2.2.2.1), .sc (.int .i64 r.2.2.2.2.2.2)])], [])
noncomputable abbrev spec_l09Rec.g (rec : List Item → St Ty D → R) (k : Nat) := go1 Try.f57 (spec_l09Rec.ctx k) spec_l09Rec.sp 1 spec_l09Rec.en rec
set_option maxRecDepth 100000 in
theorem spec_l09Rec.te (rec : List Item → St Ty D → R) (k : Nat) (a0_0 : List Int) (a0_1 : Int) (a0_2 : Int) : spec_l09Rec.g rec k [.code (body Try.f57)] (startSt [.pt 0 0 0] [.box [.row 1 .t5 a0_0, .sc (.int .i64 a0_1), .sc (.int .i64 a0_2)]]) =
  (spec_l01PickInt.f k ([2, 2, 3, 4, 4, 4, 4, 4, 5] : List Int) a0_0 a0_1 a0_2).bind fun t1 => (spec_l01Below.f k 3 t1.2.1 t1.2.2.1 t1.2.2.2).bind fun t2 => bif decide (t1.1 = 2) then (spec_l01PickInt.f k ([0, 0, 1, 2] : List Int) t2.2.1 t2.2.2.1 t2.2.2.2).bind fun t3 => some (spec_l09Rec.e (t1.1, (w64 (1 + t2.1)), t3.1, 0, t3.2.1, t3.2.2.1, t3.2.2.2)) else bif decide (t1.1 = 4) then (spec_l01Below.f k 16 t2.2.1 t2.2.2.1 t2.2.2.2).bind fun t4 => (spec_l01Below.f k 9 t4.2.1 t4.2.2.1 t4.2.2.2).bind fun t5 => some (spec_l09Rec.e (t1.1, (w64 (1 + t2.1)), t4.1, (w64 (1 + t5.1)), t5.2.1, t5.2.2.1, t5.2.2.2)) else bif decide (t1.1 = 5) then (spec_l01Below.f k 16 t2.2.1 t2.2.2.1 t2.2.2.2).bind fun t6 => some (spec_l09Rec.e (t1.1, (w64 (1 + t2.1)), t6.1, 0, t6.2.1, t6.2.2.1, t6.2.2.2)) else some (spec_l09Rec.e (t1.1, (w64 (1 + t2.1)), 0, 0, t2.2.1, t2.2.2.1, t2.2.2.2)) := by kernel_rfl
set_option maxRecDepth 100000 in
theorem spec_l09Rec.oke (k : Nat) (a0_0 : List Int) (a0_1 : Int) (a0_2 : Int) : goF Try.f57 spec_l09Rec.ctx spec_l09Rec.sp 1 spec_l09Rec.en (k + 1) [.code (body Try.f57)] (startSt [.pt 0 0 0] [.box [.row 1 .t5 a0_0, .sc (.int .i64 a0_1), .sc (.int .i64 a0_2)]]) = (spec_l09Rec.f k a0_0 a0_1 a0_2).map spec_l09Rec.e := by
  rw [spec_l09Rec.f]; exact (spec_l09Rec.te _ k a0_0 a0_1 a0_2).trans (bn (fun t1 => (bn (fun t2 => (cd (bn (fun t3 => rfl)) (cd (bn (fun t4 => (bn (fun t5 => rfl)))) (cd (bn (fun t6 => rfl)) rfl)))))))
theorem spec_l09Rec.con (k : Nat) (a0_0 : List Int) (a0_1 : Int) (a0_2 : Int) (r) (h : spec_l09Rec.f k a0_0 a0_1 a0_2 = some r) : Contract Try.prog kit 57 [.pt 0 0 0] [.box [.row 1 .t5 a0_0, .sc (.int .i64 a0_1), .sc (.int .i64 a0_2)]] (spec_l09Rec.e r).1 (spec_l09Rec.e r).2.1 (spec_l09Rec.e r).2.2 :=
  con_okG kitOk mix (fun k => (CtxOk.cons (spec_l01Below.xok k) (CtxOk.cons (spec_l01PickInt.xok k) CtxOk.nil))) (spec_l09Rec.oke k a0_0 a0_1 a0_2) h (by kernel_rfl) (by kernel_rfl) (by kernel_rfl) rfl (by kernel_rfl) rfl rfl
noncomputable def spec_l09Rec.x (k : Nat) : X := fun ins bs κ => match ins, bs with
  | [.pt 0 0 0], [.box [.row 1 .t5 a0_0, .sc (.int .i64 a0_1), .sc (.int .i64 a0_2)]] => (spec_l09Rec.f k a0_0 a0_1 a0_2).bind fun r => κ (spec_l09Rec.e r).1 (spec_l09Rec.e r).2.1 (spec_l09Rec.e r).2.2
  | _, _ => none
theorem spec_l09Rec.xok (k : Nat) : XOk 57 (spec_l09Rec.x k) := by
  intro ins bs κ res h
  unfold spec_l09Rec.x at h
  split at h
  · obtain ⟨r, hr, h⟩ := Option.bind_eq_some_iff.1 h
    exact ⟨_, _, _, spec_l09Rec.con k _ _ _ r hr, h⟩
  · cases h
end Go.Proofs.Yteideicglgpfiaa.M2
