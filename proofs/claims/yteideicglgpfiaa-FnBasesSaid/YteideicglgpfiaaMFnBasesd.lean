/- FnBases: functions of the translation as Lean functions with what their calls come to, plain lemmas on them, and, at the end, the row. Parts of one proof, merged by a program of this session; each part's own sentence stands at its head. -/
import Derived.IntWalk
import Derived.KernelRfl
import Derived.Test.YteideicglgpfiaaMFnBasesc
/- Plain runs of functions: each is a plain Lean function, and keeps its contract. Written by a program of this session. -/
namespace Go.Proofs.Yteideicglgpfiaa.M2
open Go Go.Proofs.Yteideicglgpfiaa.PK
set_option linter.unusedVariables false
set_option linter.unusedSimpArgs false
set_option maxHeartbeats 4000000
/-! ### impl_copyInts: function 99 -/
noncomputable def impl_copyInts.sp : Nat → Option (Spec Ty) := fun r => none
noncomputable def impl_copyInts.en : Option (Spec Ty) := some ⟨[(2, .own .t3)], []⟩
noncomputable def impl_copyInts.ctx (k : Nat) : Ctx Ty D := (fun _ _ _ _ => none)
noncomputable def impl_copyInts.f (k : Nat) (a0 : List Int) : Option ((List Int)) := (if ([] : List Int).length + a0.length ≤ 17592186044416 then (some ((([] : List Int) ++ a0))) else none)
noncomputable def impl_copyInts.e (r : (List Int)) : Res Ty D := (.sl 0 none, [], [.rowb .t3 r 0])
noncomputable abbrev impl_copyInts.g (rec : List Item → St Ty D → R) (k : Nat) := go1 Try.f99 (impl_copyInts.ctx k) impl_copyInts.sp 0 impl_copyInts.en rec
set_option maxRecDepth 100000 in
theorem impl_copyInts.te (rec : List Item → St Ty D → R) (k : Nat) (a0 : List Int) : impl_copyInts.g rec k [.code (body Try.f99)] (startSt [.row 0 .t3 a0] []) =
  bif decide (([] : List Int).length + a0.length ≤ 17592186044416) then some (impl_copyInts.e ((([] : List Int) ++ a0))) else none := by kernel_rfl
set_option maxRecDepth 100000 in
theorem impl_copyInts.oke (k : Nat) (a0 : List Int) : goF Try.f99 impl_copyInts.ctx impl_copyInts.sp 0 impl_copyInts.en (k + 1) [.code (body Try.f99)] (startSt [.row 0 .t3 a0] []) = (impl_copyInts.f k a0).map impl_copyInts.e := by
  rw [impl_copyInts.f]; exact (impl_copyInts.te _ k a0).trans (cd rfl rfl)
theorem impl_copyInts.con (k : Nat) (a0 : List Int) (r) (h : impl_copyInts.f k a0 = some r) : Contract Try.prog kit 99 [.row 0 .t3 a0] [] (impl_copyInts.e r).1 (impl_copyInts.e r).2.1 (impl_copyInts.e r).2.2 :=
  con_okG kitOk mix (fun k => CtxOk.nil) (impl_copyInts.oke k a0) h (by kernel_rfl) (by kernel_rfl) (by kernel_rfl) rfl (by kernel_rfl) rfl rfl
noncomputable def impl_copyInts.x (k : Nat) : X := fun ins bs κ => match ins, bs with
  | [.row 0 .t3 a0], [] => (impl_copyInts.f k a0).bind fun r => κ (impl_copyInts.e r).1 (impl_copyInts.e r).2.1 (impl_copyInts.e r).2.2
  | _, _ => none
theorem impl_copyInts.xok (k : Nat) : XOk 99 (impl_copyInts.x k) := by
  intro ins bs κ res h
  unfold impl_copyInts.x at h
  split at h
  · obtain ⟨r, hr, h⟩ := Option.bind_eq_some_iff.1 h
    exact ⟨_, _, _, impl_copyInts.con k _ r hr, h⟩
  · cases h

/-! ### impl_copyArena: function 84 -/
noncomputable def impl_copyArena.sp : Nat → Option (Spec Ty) := fun r => bif Nat.beq r 3 then some ⟨[(2, .box [.own .t88]), (3, .box [.own .t88]), (7, .keep), (8, .keep), (9, .keep)], []⟩ else none
noncomputable def impl_copyArena.en : Option (Spec Ty) := some ⟨[(2, .box [.own .t88])], []⟩
noncomputable def impl_copyArena.s3 (x7 : List S88) (x8 : Int) (x9 : Int) (h65 : List S88) (h67 : List S88) : St Ty D := ⟨(Env.put (Env.put (Env.put (Env.put (Env.put E (some 2) (.pt 64 0 0)) (some 3) (.pt 66 0 0)) (some 7) (.row 0 .t88 x7)) (some 8) (.sc (.int .i64 x8))) (some 9) (.sc (.int .i64 x9))), Heap.put H0 [(65, some (.rowb .t88 h65 0)), (64, some (.box [.sl 65 none])), (67, some (.rowb .t88 h67 0)), (66, some (.box [.sl 67 none]))], 1000⟩
noncomputable def impl_copyArena.ctx (k : Nat) : Ctx Ty D := (cons 99 (impl_copyInts.x k) (fun _ _ _ _ => none))
noncomputable def impl_copyArena.c3 : Nat → (List S88) → Int → Int → (List S88) → (List S88) → Option ((List S88))
  | 0, _, _, _, _, _ => none
  | k + 1, x7, x8, x9, h65, h67 => (if x9 < x8 then (if 0 ≤ x9 then (if x9 < (x7.length : Int) then ((impl_copyInts.f k ((rd_T88 x7 x9).f1)).bind fun t1 => (if h67.length + ([(S88.mk ((rd_T88 x7 x9).f0) t1)] : List S88).length ≤ 4398046511104 then (impl_copyArena.c3 k x7 x8 (w64 (x9 + 1)) h65 (h67 ++ ([(S88.mk ((rd_T88 x7 x9).f0) t1)] : List S88))) else none)) else none) else none) else (some (h67)))
noncomputable def impl_copyArena.f (k : Nat) (a0_0 : List S88) : Option ((List S88)) := (impl_copyArena.c3 k a0_0 (a0_0.length : Int) 0 ([] : List S88) ([] : List S88))
noncomputable def impl_copyArena.e (r : (List S88)) : Res Ty D := (.ag [.sl 0 none], [], [.rowb .t88 r 0])
noncomputable abbrev impl_copyArena.g (rec : List Item → St Ty D → R) (k : Nat) := go1 Try.f84 (impl_copyArena.ctx k) impl_copyArena.sp 0 impl_copyArena.en rec
set_option maxRecDepth 100000 in
theorem impl_copyArena.t3 (rec : List Item → St Ty D → R) (k : Nat) (x7 : List S88) (x8 : Int) (x9 : Int) (h65 : List S88) (h67 : List S88) : impl_copyArena.g rec k (td Try.f84 3) (impl_copyArena.s3 x7 x8 x9 h65 h67) =
  bif decide (x9 < x8) then bif decide (0 ≤ x9) then bif decide (x9 < (x7.length : Int)) then (impl_copyInts.f k ((rd_T88 x7 x9).f1)).bind fun t1 => bif decide (h67.length + ([(S88.mk ((rd_T88 x7 x9).f0) t1)] : List S88).length ≤ 4398046511104) then rec (td Try.f84 3) (impl_copyArena.s3 x7 x8 (w64 (x9 + 1)) h65 (h67 ++ ([(S88.mk ((rd_T88 x7 x9).f0) t1)] : List S88))) else none else none else none else some (impl_copyArena.e (h67)) := by kernel_rfl
set_option maxRecDepth 100000 in
theorem impl_copyArena.te (rec : List Item → St Ty D → R) (k : Nat) (a0_0 : List S88) : impl_copyArena.g rec k [.code (body Try.f84)] (startSt [.ag [.row 0 .t88 a0_0]] []) =
  rec (td Try.f84 3) (impl_copyArena.s3 a0_0 (a0_0.length : Int) 0 ([] : List S88) ([] : List S88)) := by kernel_rfl
set_option maxRecDepth 100000 in
theorem impl_copyArena.ok : ∀ k : Nat, (∀ (x7 : List S88) (x8 : Int) (x9 : Int) (h65 : List S88) (h67 : List S88), goF Try.f84 impl_copyArena.ctx impl_copyArena.sp 0 impl_copyArena.en k (td Try.f84 3) (impl_copyArena.s3 x7 x8 x9 h65 h67) = (impl_copyArena.c3 k x7 x8 x9 h65 h67).map impl_copyArena.e)
  | 0 => fun _ _ _ _ _ => rfl
  | k + 1 => by
    have ih := impl_copyArena.ok k
    have i3 := ih
    intro x7 x8 x9 h65 h67; rw [impl_copyArena.c3]; exact (impl_copyArena.t3 _ k x7 x8 x9 h65 h67).trans (cd (cd (cd (bn (fun t1 => (cd (i3 _ _ _ _ _) rfl))) rfl) rfl) rfl)
set_option maxRecDepth 100000 in
theorem impl_copyArena.oke (k : Nat) (a0_0 : List S88) : goF Try.f84 impl_copyArena.ctx impl_copyArena.sp 0 impl_copyArena.en (k + 1) [.code (body Try.f84)] (startSt [.ag [.row 0 .t88 a0_0]] []) = (impl_copyArena.f k a0_0).map impl_copyArena.e := by
  have i3 := impl_copyArena.ok k
  rw [impl_copyArena.f]; exact (impl_copyArena.te _ k a0_0).trans (i3 _ _ _ _ _)
theorem impl_copyArena.con (k : Nat) (a0_0 : List S88) (r) (h : impl_copyArena.f k a0_0 = some r) : Contract Try.prog kit 84 [.ag [.row 0 .t88 a0_0]] [] (impl_copyArena.e r).1 (impl_copyArena.e r).2.1 (impl_copyArena.e r).2.2 :=
  con_okG kitOk mix (fun k => (CtxOk.cons (impl_copyInts.xok k) CtxOk.nil)) (impl_copyArena.oke k a0_0) h (by kernel_rfl) (by kernel_rfl) (by kernel_rfl) rfl (by kernel_rfl) rfl rfl
noncomputable def impl_copyArena.x (k : Nat) : X := fun ins bs κ => match ins, bs with
  | [.ag [.row 0 .t88 a0_0]], [] => (impl_copyArena.f k a0_0).bind fun r => κ (impl_copyArena.e r).1 (impl_copyArena.e r).2.1 (impl_copyArena.e r).2.2
  | _, _ => none
theorem impl_copyArena.xok (k : Nat) : XOk 84 (impl_copyArena.x k) := by
  intro ins bs κ res h
  unfold impl_copyArena.x at h
  split at h
  · obtain ⟨r, hr, h⟩ := Option.bind_eq_some_iff.1 h
    exact ⟨_, _, _, impl_copyArena.con k _ r hr, h⟩
  · cases h

/-! ### impl_copyStore: function 45 -/
noncomputable def impl_copyStore.sp : Nat → Option (Spec Ty) := fun r => none
noncomputable def impl_copyStore.en : Option (Spec Ty) := some ⟨[(2, .box [.own .t53, .own .t88, .keep])], []⟩
noncomputable def impl_copyStore.ctx (k : Nat) : Ctx Ty D := (cons 84 (impl_copyArena.x k) (fun _ _ _ _ => none))
noncomputable def impl_copyStore.f (k : Nat) (a0_0 : List S53) (a0_1 : List S88) (a0_2 : Int) : Option ((List S53) × (List S88) × Int) := (if ([] : List S53).length + a0_0.length ≤ 8796093022208 then ((impl_copyArena.f k a0_1).bind fun t1 => (some ((([] : List S53) ++ a0_0), t1, a0_2))) else none)
noncomputable def impl_copyStore.e (r : (List S53) × (List S88) × Int) : Res Ty D := (.ag [.sl 0 none, .sl 1 none, .sc (.int .i64 r.2.2)], [], [.rowb .t53 r.1 0, .rowb .t88 r.2.1 0])
noncomputable abbrev impl_copyStore.g (rec : List Item → St Ty D → R) (k : Nat) := go1 Try.f45 (impl_copyStore.ctx k) impl_copyStore.sp 0 impl_copyStore.en rec
set_option maxRecDepth 100000 in
theorem impl_copyStore.te (rec : List Item → St Ty D → R) (k : Nat) (a0_0 : List S53) (a0_1 : List S88) (a0_2 : Int) : impl_copyStore.g rec k [.code (body Try.f45)] (startSt [.ag [.row 0 .t53 a0_0, .row 0 .t88 a0_1, .sc (.int .i64 a0_2)]] []) =
  bif decide (([] : List S53).length + a0_0.length ≤ 8796093022208) then (impl_copyArena.f k a0_1).bind fun t1 => some (impl_copyStore.e ((([] : List S53) ++ a0_0), t1, a0_2)) else none := by kernel_rfl
set_option maxRecDepth 100000 in
theorem impl_copyStore.oke (k : Nat) (a0_0 : List S53) (a0_1 : List S88) (a0_2 : Int) : goF Try.f45 impl_copyStore.ctx impl_copyStore.sp 0 impl_copyStore.en (k + 1) [.code (body Try.f45)] (startSt [.ag [.row 0 .t53 a0_0, .row 0 .t88 a0_1, .sc (.int .i64 a0_2)]] []) = (impl_copyStore.f k a0_0 a0_1 a0_2).map impl_copyStore.e := by
  rw [impl_copyStore.f]; exact (impl_copyStore.te _ k a0_0 a0_1 a0_2).trans (cd (bn (fun t1 => rfl)) rfl)
theorem impl_copyStore.con (k : Nat) (a0_0 : List S53) (a0_1 : List S88) (a0_2 : Int) (r) (h : impl_copyStore.f k a0_0 a0_1 a0_2 = some r) : Contract Try.prog kit 45 [.ag [.row 0 .t53 a0_0, .row 0 .t88 a0_1, .sc (.int .i64 a0_2)]] [] (impl_copyStore.e r).1 (impl_copyStore.e r).2.1 (impl_copyStore.e r).2.2 :=
  con_okG kitOk mix (fun k => (CtxOk.cons (impl_copyArena.xok k) CtxOk.nil)) (impl_copyStore.oke k a0_0 a0_1 a0_2) h (by kernel_rfl) (by kernel_rfl) (by kernel_rfl) rfl (by kernel_rfl) rfl rfl
noncomputable def impl_copyStore.x (k : Nat) : X := fun ins bs κ => match ins, bs with
  | [.ag [.row 0 .t53 a0_0, .row 0 .t88 a0_1, .sc (.int .i64 a0_2)]], [] => (impl_copyStore.f k a0_0 a0_1 a0_2).bind fun r => κ (impl_copyStore.e r).1 (impl_copyStore.e r).2.1 (impl_copyStore.e r).2.2
  | _, _ => none
theorem impl_copyStore.xok (k : Nat) : XOk 45 (impl_copyStore.x k) := by
  intro ins bs κ res h
  unfold impl_copyStore.x at h
  split at h
  · obtain ⟨r, hr, h⟩ := Option.bind_eq_some_iff.1 h
    exact ⟨_, _, _, impl_copyStore.con k _ _ _ r hr, h⟩
  · cases h

/-! ### impl_RecOk: function 46 -/
noncomputable def impl_RecOk.sp : Nat → Option (Spec Ty) := fun r => none
noncomputable def impl_RecOk.en : Option (Spec Ty) := none
noncomputable def impl_RecOk.ctx (k : Nat) : Ctx Ty D := (cons 68 (impl_in.x k) (fun _ _ _ _ => none))
noncomputable def impl_RecOk.f (k : Nat) (a0_0 : Int) (a0_1 : Int) (a0_2 : Int) (a0_3 : Int) : Option (Bool) := (if a0_0 = 1 then (if a0_1 = 0 then ((impl_in.f k a0_2 0 1000000000).bind fun t1 => (if t1 = true then (some ((decide (a0_3 = 0)))) else (some (false)))) else (some (false))) else ((impl_in.f k a0_1 1 9).bind fun t2 => (if t2 = true then (if a0_0 = 4 then (if a0_0 = 2 then ((impl_in.f k a0_2 0 9).bind fun t7 => (some (t7))) else (if a0_0 = 3 then (some ((decide (a0_2 = 0)))) else (if a0_0 = 4 then ((impl_in.f k a0_2 0 15).bind fun t8 => (if t8 = true then ((impl_in.f k a0_3 1 1000000000).bind fun t9 => (some (t9))) else (some (false)))) else (if a0_0 = 5 then ((impl_in.f k a0_2 0 15).bind fun t10 => (some (t10))) else (some (false)))))) else (if a0_3 = 0 then (if a0_0 = 2 then ((impl_in.f k a0_2 0 9).bind fun t3 => (some (t3))) else (if a0_0 = 3 then (some ((decide (a0_2 = 0)))) else (if a0_0 = 4 then ((impl_in.f k a0_2 0 15).bind fun t4 => (if t4 = true then ((impl_in.f k a0_3 1 1000000000).bind fun t5 => (some (t5))) else (some (false)))) else (if a0_0 = 5 then ((impl_in.f k a0_2 0 15).bind fun t6 => (some (t6))) else (some (false)))))) else (some (false)))) else (some (false)))))
noncomputable def impl_RecOk.e (r : Bool) : Res Ty D := (.sc (.bool r), [], [])
noncomputable abbrev impl_RecOk.g (rec : List Item → St Ty D → R) (k : Nat) := go1 Try.f46 (impl_RecOk.ctx k) impl_RecOk.sp 0 impl_RecOk.en rec
set_option maxRecDepth 100000 in
theorem impl_RecOk.te (rec : List Item → St Ty D → R) (k : Nat) (a0_0 : Int) (a0_1 : Int) (a0_2 : Int) (a0_3 : Int) : impl_RecOk.g rec k [.code (body Try.f46)] (startSt [.ag [.sc (.int .i64 a0_0), .sc (.int .i64 a0_1), .sc (.int .i64 a0_2), .sc (.int .i64 a0_3)]] []) =
  bif decide (a0_0 = 1) then bif decide (a0_1 = 0) then (impl_in.f k a0_2 0 1000000000).bind fun t1 => bif t1 then some (impl_RecOk.e ((decide (a0_3 = 0)))) else some (impl_RecOk.e (false)) else some (impl_RecOk.e (false)) else (impl_in.f k a0_1 1 9).bind fun t2 => bif !t2 then some (impl_RecOk.e (false)) else bif !decide (a0_0 = 4) then bif !decide (a0_3 = 0) then some (impl_RecOk.e (false)) else bif decide (a0_0 = 2) then (impl_in.f k a0_2 0 9).bind fun t3 => some (impl_RecOk.e (t3)) else bif decide (a0_0 = 3) then some (impl_RecOk.e ((decide (a0_2 = 0)))) else bif decide (a0_0 = 4) then (impl_in.f k a0_2 0 15).bind fun t4 => bif t4 then (impl_in.f k a0_3 1 1000000000).bind fun t5 => some (impl_RecOk.e (t5)) else some (impl_RecOk.e (false)) else bif decide (a0_0 = 5) then (impl_in.f k a0_2 0 15).bind fun t6 => some (impl_RecOk.e (t6)) else some (impl_RecOk.e (false)) else bif decide (a0_0 = 2) then (impl_in.f k a0_2 0 9).bind fun t7 => some (impl_RecOk.e (t7)) else bif decide (a0_0 = 3) then some (impl_RecOk.e ((decide (a0_2 = 0)))) else bif decide (a0_0 = 4) then (impl_in.f k a0_2 0 15).bind fun t8 => bif t8 then (impl_in.f k a0_3 1 1000000000).bind fun t9 => some (impl_RecOk.e (t9)) else some (impl_RecOk.e (false)) else bif decide (a0_0 = 5) then (impl_in.f k a0_2 0 15).bind fun t10 => some (impl_RecOk.e (t10)) else some (impl_RecOk.e (false)) := by kernel_rfl
set_option maxRecDepth 100000 in
theorem impl_RecOk.oke (k : Nat) (a0_0 : Int) (a0_1 : Int) (a0_2 : Int) (a0_3 : Int) : goF Try.f46 impl_RecOk.ctx impl_RecOk.sp 0 impl_RecOk.en (k + 1) [.code (body Try.f46)] (startSt [.ag [.sc (.int .i64 a0_0), .sc (.int .i64 a0_1), .sc (.int .i64 a0_2), .sc (.int .i64 a0_3)]] []) = (impl_RecOk.f k a0_0 a0_1 a0_2 a0_3).map impl_RecOk.e := by
  rw [impl_RecOk.f]; exact (impl_RecOk.te _ k a0_0 a0_1 a0_2 a0_3).trans (cd (cd (bn (fun t1 => (cb rfl rfl))) rfl) (bn (fun t2 => (nb rfl (nd (nd rfl (cd (bn (fun t3 => rfl)) (cd rfl (cd (bn (fun t4 => (cb (bn (fun t5 => rfl)) rfl))) (cd (bn (fun t6 => rfl)) rfl))))) (cd (bn (fun t7 => rfl)) (cd rfl (cd (bn (fun t8 => (cb (bn (fun t9 => rfl)) rfl))) (cd (bn (fun t10 => rfl)) rfl)))))))))
theorem impl_RecOk.con (k : Nat) (a0_0 : Int) (a0_1 : Int) (a0_2 : Int) (a0_3 : Int) (r) (h : impl_RecOk.f k a0_0 a0_1 a0_2 a0_3 = some r) : Contract Try.prog kit 46 [.ag [.sc (.int .i64 a0_0), .sc (.int .i64 a0_1), .sc (.int .i64 a0_2), .sc (.int .i64 a0_3)]] [] (impl_RecOk.e r).1 (impl_RecOk.e r).2.1 (impl_RecOk.e r).2.2 :=
  con_okG kitOk mix (fun k => (CtxOk.cons (impl_in.xok k) CtxOk.nil)) (impl_RecOk.oke k a0_0 a0_1 a0_2 a0_3) h (by kernel_rfl) (by kernel_rfl) (by kernel_rfl) rfl (by kernel_rfl) rfl rfl
noncomputable def impl_RecOk.x (k : Nat) : X := fun ins bs κ => match ins, bs with
  | [.ag [.sc (.int .i64 a0_0), .sc (.int .i64 a0_1), .sc (.int .i64 a0_2), .sc (.int .i64 a0_3)]], [] => (impl_RecOk.f k a0_0 a0_1 a0_2 a0_3).bind fun r => κ (impl_RecOk.e r).1 (impl_RecOk.e r).2.1 (impl_RecOk.e r).2.2
  | _, _ => none
theorem impl_RecOk.xok (k : Nat) : XOk 46 (impl_RecOk.x k) := by
  intro ins bs κ res h
  unfold impl_RecOk.x at h
  split at h
  · obtain ⟨r, hr, h⟩ := Option.bind_eq_some_iff.1 h
    exact ⟨_, _, _, impl_RecOk.con k _ _ _ _ r hr, h⟩
  · cases h

/-! ### impl_volAt: function 63 -/
noncomputable def impl_volAt.sp : Nat → Option (Spec Ty) := fun r => bif Nat.beq r 2 then some ⟨[(1, .keep), (8, .keep), (9, .keep), (10, .keep)], []⟩ else none
noncomputable def impl_volAt.en : Option (Spec Ty) := none
noncomputable def impl_volAt.s2 (x1 : Int) (x8 : List S53) (x9 : Int) (x10 : Int) : St Ty D := ⟨(Env.put (Env.put (Env.put (Env.put E (some 1) (.sc (.int .i64 x1))) (some 8) (.row 0 .t53 x8)) (some 9) (.sc (.int .i64 x9))) (some 10) (.sc (.int .i64 x10))), H0, 1000⟩
noncomputable def impl_volAt.ctx (k : Nat) : Ctx Ty D := (fun _ _ _ _ => none)
noncomputable def impl_volAt.c2 : Nat → Int → (List S53) → Int → Int → Option (Int)
  | 0, _, _, _, _ => none
  | k + 1, x1, x8, x9, x10 => (if x10 < x9 then (if 0 ≤ x10 then (if x10 < (x8.length : Int) then (if ((rd_T53 x8 x10).f0) = x1 then (some (x10)) else (impl_volAt.c2 k x1 x8 x9 (w64 (x10 + 1)))) else none) else none) else (some ((-1))))
noncomputable def impl_volAt.f (k : Nat) (a0_0 : List S53) (a0_1 : List S88) (a0_2 : Int) (a1 : Int) : Option (Int) := (impl_volAt.c2 k a1 a0_0 (a0_0.length : Int) 0)
noncomputable def impl_volAt.e (r : Int) : Res Ty D := (.sc (.int .i64 r), [], [])
noncomputable abbrev impl_volAt.g (rec : List Item → St Ty D → R) (k : Nat) := go1 Try.f63 (impl_volAt.ctx k) impl_volAt.sp 0 impl_volAt.en rec
set_option maxRecDepth 100000 in
theorem impl_volAt.t2 (rec : List Item → St Ty D → R) (k : Nat) (x1 : Int) (x8 : List S53) (x9 : Int) (x10 : Int) : impl_volAt.g rec k (td Try.f63 2) (impl_volAt.s2 x1 x8 x9 x10) =
  bif decide (x10 < x9) then bif decide (0 ≤ x10) then bif decide (x10 < (x8.length : Int)) then bif decide (((rd_T53 x8 x10).f0) = x1) then some (impl_volAt.e (x10)) else rec (td Try.f63 2) (impl_volAt.s2 x1 x8 x9 (w64 (x10 + 1))) else none else none else some (impl_volAt.e ((-1))) := by kernel_rfl
set_option maxRecDepth 100000 in
theorem impl_volAt.te (rec : List Item → St Ty D → R) (k : Nat) (a0_0 : List S53) (a0_1 : List S88) (a0_2 : Int) (a1 : Int) : impl_volAt.g rec k [.code (body Try.f63)] (startSt [.ag [.row 0 .t53 a0_0, .row 0 .t88 a0_1, .sc (.int .i64 a0_2)], .sc (.int .i64 a1)] []) =
  rec (td Try.f63 2) (impl_volAt.s2 a1 a0_0 (a0_0.length : Int) 0) := by kernel_rfl
set_option maxRecDepth 100000 in
theorem impl_volAt.ok : ∀ k : Nat, (∀ (x1 : Int) (x8 : List S53) (x9 : Int) (x10 : Int), goF Try.f63 impl_volAt.ctx impl_volAt.sp 0 impl_volAt.en k (td Try.f63 2) (impl_volAt.s2 x1 x8 x9 x10) = (impl_volAt.c2 k x1 x8 x9 x10).map impl_volAt.e)
  | 0 => fun _ _ _ _ => rfl
  | k + 1 => by
    have ih := impl_volAt.ok k
    have i2 := ih
    intro x1 x8 x9 x10; rw [impl_volAt.c2]; exact (impl_volAt.t2 _ k x1 x8 x9 x10).trans (cd (cd (cd (cd rfl (i2 _ _ _ _)) rfl) rfl) rfl)
set_option maxRecDepth 100000 in
theorem impl_volAt.oke (k : Nat) (a0_0 : List S53) (a0_1 : List S88) (a0_2 : Int) (a1 : Int) : goF Try.f63 impl_volAt.ctx impl_volAt.sp 0 impl_volAt.en (k + 1) [.code (body Try.f63)] (startSt [.ag [.row 0 .t53 a0_0, .row 0 .t88 a0_1, .sc (.int .i64 a0_2)], .sc (.int .i64 a1)] []) = (impl_volAt.f k a0_0 a0_1 a0_2 a1).map impl_volAt.e := by
  have i2 := impl_volAt.ok k
  rw [impl_volAt.f]; exact (impl_volAt.te _ k a0_0 a0_1 a0_2 a1).trans (i2 _ _ _ _)
theorem impl_volAt.con (k : Nat) (a0_0 : List S53) (a0_1 : List S88) (a0_2 : Int) (a1 : Int) (r) (h : impl_volAt.f k a0_0 a0_1 a0_2 a1 = some r) : Contract Try.prog kit 63 [.ag [.row 0 .t53 a0_0, .row 0 .t88 a0_1, .sc (.int .i64 a0_2)], .sc (.int .i64 a1)] [] (impl_volAt.e r).1 (impl_volAt.e r).2.1 (impl_volAt.e r).2.2 :=
  con_okG kitOk mix (fun k => CtxOk.nil) (impl_volAt.oke k a0_0 a0_1 a0_2 a1) h (by kernel_rfl) (by kernel_rfl) (by kernel_rfl) rfl (by kernel_rfl) rfl rfl
noncomputable def impl_volAt.x (k : Nat) : X := fun ins bs κ => match ins, bs with
  | [.ag [.row 0 .t53 a0_0, .row 0 .t88 a0_1, .sc (.int .i64 a0_2)], .sc (.int .i64 a1)], [] => (impl_volAt.f k a0_0 a0_1 a0_2 a1).bind fun r => κ (impl_volAt.e r).1 (impl_volAt.e r).2.1 (impl_volAt.e r).2.2
  | _, _ => none
theorem impl_volAt.xok (k : Nat) : XOk 63 (impl_volAt.x k) := by
  intro ins bs κ res h
  unfold impl_volAt.x at h
  split at h
  · obtain ⟨r, hr, h⟩ := Option.bind_eq_some_iff.1 h
    exact ⟨_, _, _, impl_volAt.con k _ _ _ _ r hr, h⟩
  · cases h

/-! ### sort_xorshift_Next: function 150 -/
noncomputable def sort_xorshift_Next.sp : Nat → Option (Spec Ty) := fun r => none
noncomputable def sort_xorshift_Next.en : Option (Spec Ty) := none
noncomputable def sort_xorshift_Next.ctx (k : Nat) : Ctx Ty D := (fun _ _ _ _ => none)
noncomputable def sort_xorshift_Next.f (k : Nat) (a0_0 : Int) : Option (Int × Int) := (some ((Go.bits .xor .u64 (Go.bits .xor .u64 (Go.bits .xor .u64 a0_0 (Go.IntKind.wrap .u64 (a0_0 * 8192))) (Int.fdiv (Go.bits .xor .u64 a0_0 (Go.IntKind.wrap .u64 (a0_0 * 8192))) 128)) (Go.IntKind.wrap .u64 ((Go.bits .xor .u64 (Go.bits .xor .u64 a0_0 (Go.IntKind.wrap .u64 (a0_0 * 8192))) (Int.fdiv (Go.bits .xor .u64 a0_0 (Go.IntKind.wrap .u64 (a0_0 * 8192))) 128)) * 131072))), (Go.bits .xor .u64 (Go.bits .xor .u64 (Go.bits .xor .u64 a0_0 (Go.IntKind.wrap .u64 (a0_0 * 8192))) (Int.fdiv (Go.bits .xor .u64 a0_0 (Go.IntKind.wrap .u64 (a0_0 * 8192))) 128)) (Go.IntKind.wrap .u64 ((Go.bits .xor .u64 (Go.bits .xor .u64 a0_0 (Go.IntKind.wrap .u64 (a0_0 * 8192))) (Int.fdiv (Go.bits .xor .u64 a0_0 (Go.IntKind.wrap .u64 (a0_0 * 8192))) 128)) * 131072)))))
noncomputable def sort_xorshift_Next.e (r : Int × Int) : Res Ty D := (.sc (.int .u64 r.1), [some (.box [.sc (.int .u64 r.2)])], [])
noncomputable abbrev sort_xorshift_Next.g (rec : List Item → St Ty D → R) (k : Nat) := go1 Try.f150 (sort_xorshift_Next.ctx k) sort_xorshift_Next.sp 1 sort_xorshift_Next.en rec
set_option maxRecDepth 100000 in
theorem sort_xorshift_Next.te (rec : List Item → St Ty D → R) (k : Nat) (a0_0 : Int) : sort_xorshift_Next.g rec k [.code (body Try.f150)] (startSt [.pt 0 0 0] [.box [.sc (.int .u64 a0_0)]]) =
  some (sort_xorshift_Next.e ((Go.bits .xor .u64 (Go.bits .xor .u64 (Go.bits .xor .u64 a0_0 (Go.IntKind.wrap .u64 (a0_0 * 8192))) (Int.fdiv (Go.bits .xor .u64 a0_0 (Go.IntKind.wrap .u64 (a0_0 * 8192))) 128)) (Go.IntKind.wrap .u64 ((Go.bits .xor .u64 (Go.bits .xor .u64 a0_0 (Go.IntKind.wrap .u64 (a0_0 * 8192))) (Int.fdiv (Go.bits .xor .u64 a0_0 (Go.IntKind.wrap .u64 (a0_0 * 8192))) 128)) * 131072))), (Go.bits .xor .u64 (Go.bits .xor .u64 (Go.bits .xor .u64 a0_0 (Go.IntKind.wrap .u64 (a0_0 * 8192))) (Int.fdiv (Go.bits .xor .u64 a0_0 (Go.IntKind.wrap .u64 (a0_0 * 8192))) 128)) (Go.IntKind.wrap .u64 ((Go.bits .xor .u64 (Go.bits .xor .u64 a0_0 (Go.IntKind.wrap .u64 (a0_0 * 8192))) (Int.fdiv (Go.bits .xor .u64 a0_0 (Go.IntKind.wrap .u64 (a0_0 * 8192))) 128)) * 131072))))) := by kernel_rfl
set_option maxRecDepth 100000 in
theorem sort_xorshift_Next.oke (k : Nat) (a0_0 : Int) : goF Try.f150 sort_xorshift_Next.ctx sort_xorshift_Next.sp 1 sort_xorshift_Next.en (k + 1) [.code (body Try.f150)] (startSt [.pt 0 0 0] [.box [.sc (.int .u64 a0_0)]]) = (sort_xorshift_Next.f k a0_0).map sort_xorshift_Next.e := by
  rw [sort_xorshift_Next.f]; exact (sort_xorshift_Next.te _ k a0_0).trans rfl
theorem sort_xorshift_Next.con (k : Nat) (a0_0 : Int) (r) (h : sort_xorshift_Next.f k a0_0 = some r) : Contract Try.prog kit 150 [.pt 0 0 0] [.box [.sc (.int .u64 a0_0)]] (sort_xorshift_Next.e r).1 (sort_xorshift_Next.e r).2.1 (sort_xorshift_Next.e r).2.2 :=
  con_okG kitOk mix (fun k => CtxOk.nil) (sort_xorshift_Next.oke k a0_0) h (by kernel_rfl) (by kernel_rfl) (by kernel_rfl) rfl (by kernel_rfl) rfl rfl
noncomputable def sort_xorshift_Next.x (k : Nat) : X := fun ins bs κ => match ins, bs with
  | [.pt 0 0 0], [.box [.sc (.int .u64 a0_0)]] => (sort_xorshift_Next.f k a0_0).bind fun r => κ (sort_xorshift_Next.e r).1 (sort_xorshift_Next.e r).2.1 (sort_xorshift_Next.e r).2.2
  | _, _ => none
theorem sort_xorshift_Next.xok (k : Nat) : XOk 150 (sort_xorshift_Next.x k) := by
  intro ins bs κ res h
  unfold sort_xorshift_Next.x at h
  split at h
  · obtain ⟨r, hr, h⟩ := Option.bind_eq_some_iff.1 h
    exact ⟨_, _, _, sort_xorshift_Next.con k _ r hr, h⟩
  · cases h

/-! ### impl_Store_create: function 85 -/
noncomputable def impl_Store_create.sp : Nat → Option (Spec Ty) := fun r => none
noncomputable def impl_Store_create.en : Option (Spec Ty) := none
noncomputable def impl_Store_create.ctx (k : Nat) : Ctx Ty D := (cons 63 (impl_volAt.x k) (fun _ _ _ _ => none))
noncomputable def impl_Store_create.f (k : Nat) (a1 : Int) (a2 : Int) (a0_2 : Int) (h0_0 : List S53) (h0_1 : List S88) : Option ((Bool × (List S53) × (List S88) × Int) ⊕ (Bool × (List S53) × (List S88) × Int)) := (if a2 = 0 then ((impl_volAt.f k h0_0 h0_1 a0_2 a1).bind fun t3 => (if t3 ≥ 0 then (some (.inl (false, h0_0, h0_1, a0_2))) else (if (h0_0.length : Int) ≥ 3 then (some (.inl (false, h0_0, h0_1, a0_2))) else (if h0_0.length + ([(S53.mk a1 (-1))] : List S53).length ≤ 8796093022208 then (if (h0_0 ++ ([(S53.mk a1 (-1))] : List S53)).length ≤ 12 then (some (.inr (true, (lsort53 (h0_0 ++ ([(S53.mk a1 (-1))] : List S53))), h0_1, a0_2))) else none) else none)))) else ((impl_volAt.f k h0_0 h0_1 a0_2 a2).bind fun t1 => (if t1 < 0 then (some (.inl (false, h0_0, h0_1, a0_2))) else (if 0 ≤ t1 then (if t1 < (h0_0.length : Int) then ((impl_volAt.f k h0_0 h0_1 a0_2 a1).bind fun t2 => (if t2 ≥ 0 then (some (.inl (false, h0_0, h0_1, a0_2))) else (if (h0_0.length : Int) ≥ 3 then (some (.inl (false, h0_0, h0_1, a0_2))) else (if h0_0.length + ([(S53.mk a1 ((rd_T53 h0_0 t1).f1))] : List S53).length ≤ 8796093022208 then (if (h0_0 ++ ([(S53.mk a1 ((rd_T53 h0_0 t1).f1))] : List S53)).length ≤ 12 then (some (.inr (true, (lsort53 (h0_0 ++ ([(S53.mk a1 ((rd_T53 h0_0 t1).f1))] : List S53))), h0_1, a0_2))) else none) else none)))) else none) else none))))
noncomputable def impl_Store_create.e : (Bool × (List S53) × (List S88) × Int) ⊕ (Bool × (List S53) × (List S88) × Int) → Res Ty D := (Sum.elim (fun r => (.sc (.bool r.1), [some (.box [.sl 1 none, .sl 2 none, .sc (.int .i64 r.2.2.2)]), some (.rowb .t53 r.2.1 0), some (.rowb .t88 r.2.2.1 0)], [])) (fun r => (.sc (.bool r.1), [some (.box [.sl 3 none, .sl 2 none, .sc (.int .i64 r.2.2.2)]), none, some (.rowb .t88 r.2.2.1 0)], [.rowb .t53 r.2.1 0])))
noncomputable abbrev impl_Store_create.g (rec : List Item → St Ty D → R) (k : Nat) := go1 Try.f85 (impl_Store_create.ctx k) impl_Store_create.sp 3 impl_Store_create.en rec
set_option maxRecDepth 100000 in
theorem impl_Store_create.te (rec : List Item → St Ty D → R) (k : Nat) (a1 : Int) (a2 : Int) (a0_2 : Int) (h0_0 : List S53) (h0_1 : List S88) : impl_Store_create.g rec k [.code (body Try.f85)] (startSt [.pt 0 0 0, .sc (.int .i64 a1), .sc (.int .i64 a2)] [.box [.sl 1 none, .sl 2 none, .sc (.int .i64 a0_2)], .rowb .t53 h0_0 0, .rowb .t88 h0_1 0]) =
  bif !decide (a2 = 0) then (impl_volAt.f k h0_0 h0_1 a0_2 a2).bind fun t1 => bif decide (t1 < 0) then some (impl_Store_create.e (.inl (false, h0_0, h0_1, a0_2))) else bif decide (0 ≤ t1) then bif decide (t1 < (h0_0.length : Int)) then (impl_volAt.f k h0_0 h0_1 a0_2 a1).bind fun t2 => bif decide (t2 ≥ 0) then some (impl_Store_create.e (.inl (false, h0_0, h0_1, a0_2))) else bif decide ((h0_0.length : Int) ≥ 3) then some (impl_Store_create.e (.inl (false, h0_0, h0_1, a0_2))) else bif decide (h0_0.length + ([(S53.mk a1 ((rd_T53 h0_0 t1).f1))] : List S53).length ≤ 8796093022208) then bif decide ((h0_0 ++ ([(S53.mk a1 ((rd_T53 h0_0 t1).f1))] : List S53)).length ≤ 12) then some (impl_Store_create.e (.inr (true, (lsort53 (h0_0 ++ ([(S53.mk a1 ((rd_T53 h0_0 t1).f1))] : List S53))), h0_1, a0_2))) else none else none else none else none else (impl_volAt.f k h0_0 h0_1 a0_2 a1).bind fun t3 => bif decide (t3 ≥ 0) then some (impl_Store_create.e (.inl (false, h0_0, h0_1, a0_2))) else bif decide ((h0_0.length : Int) ≥ 3) then some (impl_Store_create.e (.inl (false, h0_0, h0_1, a0_2))) else bif decide (h0_0.length + ([(S53.mk a1 (-1))] : List S53).length ≤ 8796093022208) then bif decide ((h0_0 ++ ([(S53.mk a1 (-1))] : List S53)).length ≤ 12) then some (impl_Store_create.e (.inr (true, (lsort53 (h0_0 ++ ([(S53.mk a1 (-1))] : List S53))), h0_1, a0_2))) else none else none := by kernel_rfl
set_option maxRecDepth 100000 in
theorem impl_Store_create.oke (k : Nat) (a1 : Int) (a2 : Int) (a0_2 : Int) (h0_0 : List S53) (h0_1 : List S88) : goF Try.f85 impl_Store_create.ctx impl_Store_create.sp 3 impl_Store_create.en (k + 1) [.code (body Try.f85)] (startSt [.pt 0 0 0, .sc (.int .i64 a1), .sc (.int .i64 a2)] [.box [.sl 1 none, .sl 2 none, .sc (.int .i64 a0_2)], .rowb .t53 h0_0 0, .rowb .t88 h0_1 0]) = (impl_Store_create.f k a1 a2 a0_2 h0_0 h0_1).map impl_Store_create.e := by
  rw [impl_Store_create.f]; exact (impl_Store_create.te _ k a1 a2 a0_2 h0_0 h0_1).trans (nd (bn (fun t1 => (cd rfl (cd (cd (bn (fun t2 => (cd rfl (cd rfl (cd (cd rfl rfl) rfl))))) rfl) rfl)))) (bn (fun t3 => (cd rfl (cd rfl (cd (cd rfl rfl) rfl))))))
theorem impl_Store_create.con (k : Nat) (a1 : Int) (a2 : Int) (a0_2 : Int) (h0_0 : List S53) (h0_1 : List S88) (r) (h : impl_Store_create.f k a1 a2 a0_2 h0_0 h0_1 = some r) : Contract Try.prog kit 85 [.pt 0 0 0, .sc (.int .i64 a1), .sc (.int .i64 a2)] [.box [.sl 1 none, .sl 2 none, .sc (.int .i64 a0_2)], .rowb .t53 h0_0 0, .rowb .t88 h0_1 0] (impl_Store_create.e r).1 (impl_Store_create.e r).2.1 (impl_Store_create.e r).2.2 :=
  con_okG kitOk mix (fun k => (CtxOk.cons (impl_volAt.xok k) CtxOk.nil)) (impl_Store_create.oke k a1 a2 a0_2 h0_0 h0_1) h (by kernel_rfl) (by kernel_rfl) (by kernel_rfl) rfl (by kernel_rfl) rfl (by rcases r with r | r <;> rfl)
noncomputable def impl_Store_create.x (k : Nat) : X := fun ins bs κ => match ins, bs with
  | [.pt 0 0 0, .sc (.int .i64 a1), .sc (.int .i64 a2)], [.box [.sl 1 none, .sl 2 none, .sc (.int .i64 a0_2)], .rowb .t53 h0_0 0, .rowb .t88 h0_1 0] => (impl_Store_create.f k a1 a2 a0_2 h0_0 h0_1).bind (Sum.elim (fun r => κ (impl_Store_create.e (.inl r)).1 (impl_Store_create.e (.inl r)).2.1 (impl_Store_create.e (.inl r)).2.2) (fun r => κ (impl_Store_create.e (.inr r)).1 (impl_Store_create.e (.inr r)).2.1 (impl_Store_create.e (.inr r)).2.2))
  | _, _ => none
theorem impl_Store_create.xok (k : Nat) : XOk 85 (impl_Store_create.x k) := by
  intro ins bs κ res h
  unfold impl_Store_create.x at h
  split at h
  · obtain ⟨r, hr, h⟩ := Option.bind_eq_some_iff.1 h
    rcases r with r | r
    · exact ⟨_, _, _, impl_Store_create.con k _ _ _ _ _ _ hr, h⟩
    · exact ⟨_, _, _, impl_Store_create.con k _ _ _ _ _ _ hr, h⟩
  · cases h

/-! ### impl_PutAt: function 86 -/
noncomputable def impl_PutAt.sp : Nat → Option (Spec Ty) := fun r => none
noncomputable def impl_PutAt.en : Option (Spec Ty) := some ⟨[(8, .box [.own .t88]), (9, .keep)], []⟩
noncomputable def impl_PutAt.ctx (k : Nat) : Ctx Ty D := (cons 67 (impl_ArenaOk.x k) (cons 68 (impl_in.x k) (cons 69 (impl_isRoot.x k) (cons 84 (impl_copyArena.x k) (cons 99 (impl_copyInts.x k) (fun _ _ _ _ => none))))))
noncomputable def impl_PutAt.f (k : Nat) (a0_0 : List S88) (a1 : Int) (a2 : Int) (a3 : Int) : Option ((List S88) × Int) := ((impl_copyArena.f k a0_0).bind fun t1 => (if a1 = (-1) then ((impl_in.f k a2 0 15).bind fun t8 => (if t8 = true then (if a3 < 0 then (some (t1, a1)) else ((impl_ArenaOk.f k a0_0).bind fun t9 => (if t9 = true then (if a1 ≥ 0 then (if 0 ≤ a1 then (if a1 < (a0_0.length : Int) then ((impl_copyInts.f k ((rd_T88 a0_0 a1).f1)).bind fun t10 => (if 0 ≤ (w64 (Int.tdiv a2 4)) then (if (w64 (Int.tdiv a2 4)) < (t10.length : Int) then (if (rd_T3 t10 (w64 (Int.tdiv a2 4))) ≥ 0 then (if 0 ≤ (rd_T3 t10 (w64 (Int.tdiv a2 4))) then (if (rd_T3 t10 (w64 (Int.tdiv a2 4))) < (a0_0.length : Int) then ((impl_copyInts.f k ((rd_T88 a0_0 (rd_T3 t10 (w64 (Int.tdiv a2 4)))).f1)).bind fun t11 => (if 0 ≤ (Int.tmod a2 4) then (if (Int.tmod a2 4) < (t11.length : Int) then (if 0 ≤ (w64 (Int.tdiv a2 4)) then (if (w64 (Int.tdiv a2 4)) < (t10.length : Int) then (if t1.length + ([(S88.mk true (t11.set ((Int.tmod a2 4).toNat) a3)), (S88.mk false (t10.set ((w64 (Int.tdiv a2 4)).toNat) (a0_0.length : Int)))] : List S88).length ≤ 4398046511104 then (some ((t1 ++ ([(S88.mk true (t11.set ((Int.tmod a2 4).toNat) a3)), (S88.mk false (t10.set ((w64 (Int.tdiv a2 4)).toNat) (a0_0.length : Int)))] : List S88)), (w64 ((a0_0.length : Int) + 1)))) else none) else none) else none) else none) else none)) else none) else none) else (if 0 ≤ (Int.tmod a2 4) then (if (Int.tmod a2 4) < ((List.replicate 4 z3).length : Int) then (if 0 ≤ (w64 (Int.tdiv a2 4)) then (if (w64 (Int.tdiv a2 4)) < (t10.length : Int) then (if t1.length + ([(S88.mk true ((List.replicate 4 z3).set ((Int.tmod a2 4).toNat) a3)), (S88.mk false (t10.set ((w64 (Int.tdiv a2 4)).toNat) (a0_0.length : Int)))] : List S88).length ≤ 4398046511104 then (some ((t1 ++ ([(S88.mk true ((List.replicate 4 z3).set ((Int.tmod a2 4).toNat) a3)), (S88.mk false (t10.set ((w64 (Int.tdiv a2 4)).toNat) (a0_0.length : Int)))] : List S88)), (w64 ((a0_0.length : Int) + 1)))) else none) else none) else none) else none) else none)) else none) else none)) else none) else none) else (if 0 ≤ (w64 (Int.tdiv a2 4)) then (if (w64 (Int.tdiv a2 4)) < (([(-1), (-1), (-1), (-1)] : List Int).length : Int) then (if (rd_T3 ([(-1), (-1), (-1), (-1)] : List Int) (w64 (Int.tdiv a2 4))) ≥ 0 then (if 0 ≤ (rd_T3 ([(-1), (-1), (-1), (-1)] : List Int) (w64 (Int.tdiv a2 4))) then (if (rd_T3 ([(-1), (-1), (-1), (-1)] : List Int) (w64 (Int.tdiv a2 4))) < (a0_0.length : Int) then ((impl_copyInts.f k ((rd_T88 a0_0 (rd_T3 ([(-1), (-1), (-1), (-1)] : List Int) (w64 (Int.tdiv a2 4)))).f1)).bind fun t12 => (if 0 ≤ (Int.tmod a2 4) then (if (Int.tmod a2 4) < (t12.length : Int) then (if 0 ≤ (w64 (Int.tdiv a2 4)) then (if (w64 (Int.tdiv a2 4)) < (([(-1), (-1), (-1), (-1)] : List Int).length : Int) then (if t1.length + ([(S88.mk true (t12.set ((Int.tmod a2 4).toNat) a3)), (S88.mk false (([(-1), (-1), (-1), (-1)] : List Int).set ((w64 (Int.tdiv a2 4)).toNat) (a0_0.length : Int)))] : List S88).length ≤ 4398046511104 then (some ((t1 ++ ([(S88.mk true (t12.set ((Int.tmod a2 4).toNat) a3)), (S88.mk false (([(-1), (-1), (-1), (-1)] : List Int).set ((w64 (Int.tdiv a2 4)).toNat) (a0_0.length : Int)))] : List S88)), (w64 ((a0_0.length : Int) + 1)))) else none) else none) else none) else none) else none)) else none) else none) else (if 0 ≤ (Int.tmod a2 4) then (if (Int.tmod a2 4) < ((List.replicate 4 z3).length : Int) then (if 0 ≤ (w64 (Int.tdiv a2 4)) then (if (w64 (Int.tdiv a2 4)) < (([(-1), (-1), (-1), (-1)] : List Int).length : Int) then (if t1.length + ([(S88.mk true ((List.replicate 4 z3).set ((Int.tmod a2 4).toNat) a3)), (S88.mk false (([(-1), (-1), (-1), (-1)] : List Int).set ((w64 (Int.tdiv a2 4)).toNat) (a0_0.length : Int)))] : List S88).length ≤ 4398046511104 then (some ((t1 ++ ([(S88.mk true ((List.replicate 4 z3).set ((Int.tmod a2 4).toNat) a3)), (S88.mk false (([(-1), (-1), (-1), (-1)] : List Int).set ((w64 (Int.tdiv a2 4)).toNat) (a0_0.length : Int)))] : List S88)), (w64 ((a0_0.length : Int) + 1)))) else none) else none) else none) else none) else none)) else none) else none)) else (some (t1, a1))))) else (some (t1, a1)))) else ((impl_isRoot.f k a0_0 a1).bind fun t2 => (if t2 = true then ((impl_in.f k a2 0 15).bind fun t3 => (if t3 = true then (if a3 < 0 then (some (t1, a1)) else ((impl_ArenaOk.f k a0_0).bind fun t4 => (if t4 = true then (if a1 ≥ 0 then (if 0 ≤ a1 then (if a1 < (a0_0.length : Int) then ((impl_copyInts.f k ((rd_T88 a0_0 a1).f1)).bind fun t5 => (if 0 ≤ (w64 (Int.tdiv a2 4)) then (if (w64 (Int.tdiv a2 4)) < (t5.length : Int) then (if (rd_T3 t5 (w64 (Int.tdiv a2 4))) ≥ 0 then (if 0 ≤ (rd_T3 t5 (w64 (Int.tdiv a2 4))) then (if (rd_T3 t5 (w64 (Int.tdiv a2 4))) < (a0_0.length : Int) then ((impl_copyInts.f k ((rd_T88 a0_0 (rd_T3 t5 (w64 (Int.tdiv a2 4)))).f1)).bind fun t6 => (if 0 ≤ (Int.tmod a2 4) then (if (Int.tmod a2 4) < (t6.length : Int) then (if 0 ≤ (w64 (Int.tdiv a2 4)) then (if (w64 (Int.tdiv a2 4)) < (t5.length : Int) then (if t1.length + ([(S88.mk true (t6.set ((Int.tmod a2 4).toNat) a3)), (S88.mk false (t5.set ((w64 (Int.tdiv a2 4)).toNat) (a0_0.length : Int)))] : List S88).length ≤ 4398046511104 then (some ((t1 ++ ([(S88.mk true (t6.set ((Int.tmod a2 4).toNat) a3)), (S88.mk false (t5.set ((w64 (Int.tdiv a2 4)).toNat) (a0_0.length : Int)))] : List S88)), (w64 ((a0_0.length : Int) + 1)))) else none) else none) else none) else none) else none)) else none) else none) else (if 0 ≤ (Int.tmod a2 4) then (if (Int.tmod a2 4) < ((List.replicate 4 z3).length : Int) then (if 0 ≤ (w64 (Int.tdiv a2 4)) then (if (w64 (Int.tdiv a2 4)) < (t5.length : Int) then (if t1.length + ([(S88.mk true ((List.replicate 4 z3).set ((Int.tmod a2 4).toNat) a3)), (S88.mk false (t5.set ((w64 (Int.tdiv a2 4)).toNat) (a0_0.length : Int)))] : List S88).length ≤ 4398046511104 then (some ((t1 ++ ([(S88.mk true ((List.replicate 4 z3).set ((Int.tmod a2 4).toNat) a3)), (S88.mk false (t5.set ((w64 (Int.tdiv a2 4)).toNat) (a0_0.length : Int)))] : List S88)), (w64 ((a0_0.length : Int) + 1)))) else none) else none) else none) else none) else none)) else none) else none)) else none) else none) else (if 0 ≤ (w64 (Int.tdiv a2 4)) then (if (w64 (Int.tdiv a2 4)) < (([(-1), (-1), (-1), (-1)] : List Int).length : Int) then (if (rd_T3 ([(-1), (-1), (-1), (-1)] : List Int) (w64 (Int.tdiv a2 4))) ≥ 0 then (if 0 ≤ (rd_T3 ([(-1), (-1), (-1), (-1)] : List Int) (w64 (Int.tdiv a2 4))) then (if (rd_T3 ([(-1), (-1), (-1), (-1)] : List Int) (w64 (Int.tdiv a2 4))) < (a0_0.length : Int) then ((impl_copyInts.f k ((rd_T88 a0_0 (rd_T3 ([(-1), (-1), (-1), (-1)] : List Int) (w64 (Int.tdiv a2 4)))).f1)).bind fun t7 => (if 0 ≤ (Int.tmod a2 4) then (if (Int.tmod a2 4) < (t7.length : Int) then (if 0 ≤ (w64 (Int.tdiv a2 4)) then (if (w64 (Int.tdiv a2 4)) < (([(-1), (-1), (-1), (-1)] : List Int).length : Int) then (if t1.length + ([(S88.mk true (t7.set ((Int.tmod a2 4).toNat) a3)), (S88.mk false (([(-1), (-1), (-1), (-1)] : List Int).set ((w64 (Int.tdiv a2 4)).toNat) (a0_0.length : Int)))] : List S88).length ≤ 4398046511104 then (some ((t1 ++ ([(S88.mk true (t7.set ((Int.tmod a2 4).toNat) a3)), (S88.mk false (([(-1), (-1), (-1), (-1)] : List Int).set ((w64 (Int.tdiv a2 4)).toNat) (a0_0.length : Int)))] : List S88)), (w64 ((a0_0.length : Int) + 1)))) else none) else none) else none) else none) else none)) else none) else none) else (if 0 ≤ (Int.tmod a2 4) then (if (Int.tmod a2 4) < ((List.replicate 4 z3).length : Int) then (if 0 ≤ (w64 (Int.tdiv a2 4)) then (if (w64 (Int.tdiv a2 4)) < (([(-1), (-1), (-1), (-1)] : List Int).length : Int) then (if t1.length + ([(S88.mk true ((List.replicate 4 z3).set ((Int.tmod a2 4).toNat) a3)), (S88.mk false (([(-1), (-1), (-1), (-1)] : List Int).set ((w64 (Int.tdiv a2 4)).toNat) (a0_0.length : Int)))] : List S88).length ≤ 4398046511104 then (some ((t1 ++ ([(S88.mk true ((List.replicate 4 z3).set ((Int.tmod a2 4).toNat) a3)), (S88.mk false (([(-1), (-1), (-1), (-1)] : List Int).set ((w64 (Int.tdiv a2 4)).toNat) (a0_0.length : Int)))] : List S88)), (w64 ((a0_0.length : Int) + 1)))) else none) else none) else none) else none) else none)) else none) else none)) else (some (t1, a1))))) else (some (t1, a1)))) else (some (t1, a1))))))
noncomputable def impl_PutAt.e (r : (List S88) × Int) : Res Ty D := (.tu [.ag [.sl 0 none], .sc (.int .i64 r.2)], [], [.rowb .t88 r.1 0])
noncomputable abbrev impl_PutAt.g (rec : List Item → St Ty D → R) (k : Nat) := go1 Try.f86 (impl_PutAt.ctx k) impl_PutAt.sp 0 impl_PutAt.en rec
set_option maxRecDepth 100000 in
theorem impl_PutAt.te (rec : List Item → St Ty D → R) (k : Nat) (a0_0 : List S88) (a1 : Int) (a2 : Int) (a3 : Int) : impl_PutAt.g rec k [.code (body Try.f86)] (startSt [.ag [.row 0 .t88 a0_0], .sc (.int .i64 a1), .sc (.int .i64 a2), .sc (.int .i64 a3)] []) =
  (impl_copyArena.f k a0_0).bind fun t1 => bif !decide (a1 = (-1)) then (impl_isRoot.f k a0_0 a1).bind fun t2 => bif !t2 then some (impl_PutAt.e (t1, a1)) else (impl_in.f k a2 0 15).bind fun t3 => bif !t3 then some (impl_PutAt.e (t1, a1)) else bif decide (a3 < 0) then some (impl_PutAt.e (t1, a1)) else (impl_ArenaOk.f k a0_0).bind fun t4 => bif !t4 then some (impl_PutAt.e (t1, a1)) else bif decide (a1 ≥ 0) then bif decide (0 ≤ a1) then bif decide (a1 < (a0_0.length : Int)) then (impl_copyInts.f k ((rd_T88 a0_0 a1).f1)).bind fun t5 => bif decide (0 ≤ (w64 (Int.tdiv a2 4))) then bif decide ((w64 (Int.tdiv a2 4)) < (t5.length : Int)) then bif decide ((rd_T3 t5 (w64 (Int.tdiv a2 4))) ≥ 0) then bif decide (0 ≤ (rd_T3 t5 (w64 (Int.tdiv a2 4)))) then bif decide ((rd_T3 t5 (w64 (Int.tdiv a2 4))) < (a0_0.length : Int)) then (impl_copyInts.f k ((rd_T88 a0_0 (rd_T3 t5 (w64 (Int.tdiv a2 4)))).f1)).bind fun t6 => bif decide (0 ≤ (Int.tmod a2 4)) then bif decide ((Int.tmod a2 4) < (t6.length : Int)) then bif decide (0 ≤ (w64 (Int.tdiv a2 4))) then bif decide ((w64 (Int.tdiv a2 4)) < (t5.length : Int)) then bif decide (t1.length + ([(S88.mk true (t6.set ((Int.tmod a2 4).toNat) a3)), (S88.mk false (t5.set ((w64 (Int.tdiv a2 4)).toNat) (a0_0.length : Int)))] : List S88).length ≤ 4398046511104) then some (impl_PutAt.e ((t1 ++ ([(S88.mk true (t6.set ((Int.tmod a2 4).toNat) a3)), (S88.mk false (t5.set ((w64 (Int.tdiv a2 4)).toNat) (a0_0.length : Int)))] : List S88)), (w64 ((a0_0.length : Int) + 1)))) else none else none else none else none else none else none else none else bif decide (0 ≤ (Int.tmod a2 4)) then bif decide ((Int.tmod a2 4) < ((List.replicate 4 z3).length : Int)) then bif decide (0 ≤ (w64 (Int.tdiv a2 4))) then bif decide ((w64 (Int.tdiv a2 4)) < (t5.length : Int)) then bif decide (t1.length + ([(S88.mk true ((List.replicate 4 z3).set ((Int.tmod a2 4).toNat) a3)), (S88.mk false (t5.set ((w64 (Int.tdiv a2 4)).toNat) (a0_0.length : Int)))] : List S88).length ≤ 4398046511104) then some (impl_PutAt.e ((t1 ++ ([(S88.mk true ((List.replicate 4 z3).set ((Int.tmod a2 4).toNat) a3)), (S88.mk false (t5.set ((w64 (Int.tdiv a2 4)).toNat) (a0_0.length : Int)))] : List S88)), (w64 ((a0_0.length : Int) + 1)))) else none else none else none else none else none else none else none else none else none else bif decide (0 ≤ (w64 (Int.tdiv a2 4))) then bif decide ((w64 (Int.tdiv a2 4)) < (([(-1), (-1), (-1), (-1)] : List Int).length : Int)) then bif decide ((rd_T3 ([(-1), (-1), (-1), (-1)] : List Int) (w64 (Int.tdiv a2 4))) ≥ 0) then bif decide (0 ≤ (rd_T3 ([(-1), (-1), (-1), (-1)] : List Int) (w64 (Int.tdiv a2 4)))) then bif decide ((rd_T3 ([(-1), (-1), (-1), (-1)] : List Int) (w64 (Int.tdiv a2 4))) < (a0_0.length : Int)) then (impl_copyInts.f k ((rd_T88 a0_0 (rd_T3 ([(-1), (-1), (-1), (-1)] : List Int) (w64 (Int.tdiv a2 4)))).f1)).bind fun t7 => bif decide (0 ≤ (Int.tmod a2 4)) then bif decide ((Int.tmod a2 4) < (t7.length : Int)) then bif decide (0 ≤ (w64 (Int.tdiv a2 4))) then bif decide ((w64 (Int.tdiv a2 4)) < (([(-1), (-1), (-1), (-1)] : List Int).length : Int)) then bif decide (t1.length + ([(S88.mk true (t7.set ((Int.tmod a2 4).toNat) a3)), (S88.mk false (([(-1), (-1), (-1), (-1)] : List Int).set ((w64 (Int.tdiv a2 4)).toNat) (a0_0.length : Int)))] : List S88).length ≤ 4398046511104) then some (impl_PutAt.e ((t1 ++ ([(S88.mk true (t7.set ((Int.tmod a2 4).toNat) a3)), (S88.mk false (([(-1), (-1), (-1), (-1)] : List Int).set ((w64 (Int.tdiv a2 4)).toNat) (a0_0.length : Int)))] : List S88)), (w64 ((a0_0.length : Int) + 1)))) else none else none else none else none else none else none else none else bif decide (0 ≤ (Int.tmod a2 4)) then bif decide ((Int.tmod a2 4) < ((List.replicate 4 z3).length : Int)) then bif decide (0 ≤ (w64 (Int.tdiv a2 4))) then bif decide ((w64 (Int.tdiv a2 4)) < (([(-1), (-1), (-1), (-1)] : List Int).length : Int)) then bif decide (t1.length + ([(S88.mk true ((List.replicate 4 z3).set ((Int.tmod a2 4).toNat) a3)), (S88.mk false (([(-1), (-1), (-1), (-1)] : List Int).set ((w64 (Int.tdiv a2 4)).toNat) (a0_0.length : Int)))] : List S88).length ≤ 4398046511104) then some (impl_PutAt.e ((t1 ++ ([(S88.mk true ((List.replicate 4 z3).set ((Int.tmod a2 4).toNat) a3)), (S88.mk false (([(-1), (-1), (-1), (-1)] : List Int).set ((w64 (Int.tdiv a2 4)).toNat) (a0_0.length : Int)))] : List S88)), (w64 ((a0_0.length : Int) + 1)))) else none else none else none else none else none else none else none else (impl_in.f k a2 0 15).bind fun t8 => bif !t8 then some (impl_PutAt.e (t1, a1)) else bif decide (a3 < 0) then some (impl_PutAt.e (t1, a1)) else (impl_ArenaOk.f k a0_0).bind fun t9 => bif !t9 then some (impl_PutAt.e (t1, a1)) else bif decide (a1 ≥ 0) then bif decide (0 ≤ a1) then bif decide (a1 < (a0_0.length : Int)) then (impl_copyInts.f k ((rd_T88 a0_0 a1).f1)).bind fun t10 => bif decide (0 ≤ (w64 (Int.tdiv a2 4))) then bif decide ((w64 (Int.tdiv a2 4)) < (t10.length : Int)) then bif decide ((rd_T3 t10 (w64 (Int.tdiv a2 4))) ≥ 0) then bif decide (0 ≤ (rd_T3 t10 (w64 (Int.tdiv a2 4)))) then bif decide ((rd_T3 t10 (w64 (Int.tdiv a2 4))) < (a0_0.length : Int)) then (impl_copyInts.f k ((rd_T88 a0_0 (rd_T3 t10 (w64 (Int.tdiv a2 4)))).f1)).bind fun t11 => bif decide (0 ≤ (Int.tmod a2 4)) then bif decide ((Int.tmod a2 4) < (t11.length : Int)) then bif decide (0 ≤ (w64 (Int.tdiv a2 4))) then bif decide ((w64 (Int.tdiv a2 4)) < (t10.length : Int)) then bif decide (t1.length + ([(S88.mk true (t11.set ((Int.tmod a2 4).toNat) a3)), (S88.mk false (t10.set ((w64 (Int.tdiv a2 4)).toNat) (a0_0.length : Int)))] : List S88).length ≤ 4398046511104) then some (impl_PutAt.e ((t1 ++ ([(S88.mk true (t11.set ((Int.tmod a2 4).toNat) a3)), (S88.mk false (t10.set ((w64 (Int.tdiv a2 4)).toNat) (a0_0.length : Int)))] : List S88)), (w64 ((a0_0.length : Int) + 1)))) else none else none else none else none else none else none else none else bif decide (0 ≤ (Int.tmod a2 4)) then bif decide ((Int.tmod a2 4) < ((List.replicate 4 z3).length : Int)) then bif decide (0 ≤ (w64 (Int.tdiv a2 4))) then bif decide ((w64 (Int.tdiv a2 4)) < (t10.length : Int)) then bif decide (t1.length + ([(S88.mk true ((List.replicate 4 z3).set ((Int.tmod a2 4).toNat) a3)), (S88.mk false (t10.set ((w64 (Int.tdiv a2 4)).toNat) (a0_0.length : Int)))] : List S88).length ≤ 4398046511104) then some (impl_PutAt.e ((t1 ++ ([(S88.mk true ((List.replicate 4 z3).set ((Int.tmod a2 4).toNat) a3)), (S88.mk false (t10.set ((w64 (Int.tdiv a2 4)).toNat) (a0_0.length : Int)))] : List S88)), (w64 ((a0_0.length : Int) + 1)))) else none else none else none else none else none else none else none else none else none else bif decide (0 ≤ (w64 (Int.tdiv a2 4))) then bif decide ((w64 (Int.tdiv a2 4)) < (([(-1), (-1), (-1), (-1)] : List Int).length : Int)) then bif decide ((rd_T3 ([(-1), (-1), (-1), (-1)] : List Int) (w64 (Int.tdiv a2 4))) ≥ 0) then bif decide (0 ≤ (rd_T3 ([(-1), (-1), (-1), (-1)] : List Int) (w64 (Int.tdiv a2 4)))) then bif decide ((rd_T3 ([(-1), (-1), (-1), (-1)] : List Int) (w64 (Int.tdiv a2 4))) < (a0_0.length : Int)) then (impl_copyInts.f k ((rd_T88 a0_0 (rd_T3 ([(-1), (-1), (-1), (-1)] : List Int) (w64 (Int.tdiv a2 4)))).f1)).bind fun t12 => bif decide (0 ≤ (Int.tmod a2 4)) then bif decide ((Int.tmod a2 4) < (t12.length : Int)) then bif decide (0 ≤ (w64 (Int.tdiv a2 4))) then bif decide ((w64 (Int.tdiv a2 4)) < (([(-1), (-1), (-1), (-1)] : List Int).length : Int)) then bif decide (t1.length + ([(S88.mk true (t12.set ((Int.tmod a2 4).toNat) a3)), (S88.mk false (([(-1), (-1), (-1), (-1)] : List Int).set ((w64 (Int.tdiv a2 4)).toNat) (a0_0.length : Int)))] : List S88).length ≤ 4398046511104) then some (impl_PutAt.e ((t1 ++ ([(S88.mk true (t12.set ((Int.tmod a2 4).toNat) a3)), (S88.mk false (([(-1), (-1), (-1), (-1)] : List Int).set ((w64 (Int.tdiv a2 4)).toNat) (a0_0.length : Int)))] : List S88)), (w64 ((a0_0.length : Int) + 1)))) else none else none else none else none else none else none else none else bif decide (0 ≤ (Int.tmod a2 4)) then bif decide ((Int.tmod a2 4) < ((List.replicate 4 z3).length : Int)) then bif decide (0 ≤ (w64 (Int.tdiv a2 4))) then bif decide ((w64 (Int.tdiv a2 4)) < (([(-1), (-1), (-1), (-1)] : List Int).length : Int)) then bif decide (t1.length + ([(S88.mk true ((List.replicate 4 z3).set ((Int.tmod a2 4).toNat) a3)), (S88.mk false (([(-1), (-1), (-1), (-1)] : List Int).set ((w64 (Int.tdiv a2 4)).toNat) (a0_0.length : Int)))] : List S88).length ≤ 4398046511104) then some (impl_PutAt.e ((t1 ++ ([(S88.mk true ((List.replicate 4 z3).set ((Int.tmod a2 4).toNat) a3)), (S88.mk false (([(-1), (-1), (-1), (-1)] : List Int).set ((w64 (Int.tdiv a2 4)).toNat) (a0_0.length : Int)))] : List S88)), (w64 ((a0_0.length : Int) + 1)))) else none else none else none else none else none else none else none := by kernel_rfl
set_option maxRecDepth 100000 in
theorem impl_PutAt.oke (k : Nat) (a0_0 : List S88) (a1 : Int) (a2 : Int) (a3 : Int) : goF Try.f86 impl_PutAt.ctx impl_PutAt.sp 0 impl_PutAt.en (k + 1) [.code (body Try.f86)] (startSt [.ag [.row 0 .t88 a0_0], .sc (.int .i64 a1), .sc (.int .i64 a2), .sc (.int .i64 a3)] []) = (impl_PutAt.f k a0_0 a1 a2 a3).map impl_PutAt.e := by
  rw [impl_PutAt.f]; exact (impl_PutAt.te _ k a0_0 a1 a2 a3).trans (bn (fun t1 => (nd (bn (fun t2 => (nb rfl (bn (fun t3 => (nb rfl (cd rfl (bn (fun t4 => (nb rfl (cd (cd (cd (bn (fun t5 => (cd (cd (cd (cd (cd (bn (fun t6 => (cd (cd (cd (cd (cd rfl rfl) rfl) rfl) rfl) rfl))) rfl) rfl) (cd (cd (cd (cd (cd rfl rfl) rfl) rfl) rfl) rfl)) rfl) rfl))) rfl) rfl) (cd (cd (cd (cd (cd (bn (fun t7 => (cd (cd (cd (cd (cd rfl rfl) rfl) rfl) rfl) rfl))) rfl) rfl) (cd (cd (cd (cd (cd rfl rfl) rfl) rfl) rfl) rfl)) rfl) rfl)))))))))))) (bn (fun t8 => (nb rfl (cd rfl (bn (fun t9 => (nb rfl (cd (cd (cd (bn (fun t10 => (cd (cd (cd (cd (cd (bn (fun t11 => (cd (cd (cd (cd (cd rfl rfl) rfl) rfl) rfl) rfl))) rfl) rfl) (cd (cd (cd (cd (cd rfl rfl) rfl) rfl) rfl) rfl)) rfl) rfl))) rfl) rfl) (cd (cd (cd (cd (cd (bn (fun t12 => (cd (cd (cd (cd (cd rfl rfl) rfl) rfl) rfl) rfl))) rfl) rfl) (cd (cd (cd (cd (cd rfl rfl) rfl) rfl) rfl) rfl)) rfl) rfl))))))))))))
theorem impl_PutAt.con (k : Nat) (a0_0 : List S88) (a1 : Int) (a2 : Int) (a3 : Int) (r) (h : impl_PutAt.f k a0_0 a1 a2 a3 = some r) : Contract Try.prog kit 86 [.ag [.row 0 .t88 a0_0], .sc (.int .i64 a1), .sc (.int .i64 a2), .sc (.int .i64 a3)] [] (impl_PutAt.e r).1 (impl_PutAt.e r).2.1 (impl_PutAt.e r).2.2 :=
  con_okG kitOk mix (fun k => (CtxOk.cons (impl_ArenaOk.xok k) (CtxOk.cons (impl_in.xok k) (CtxOk.cons (impl_isRoot.xok k) (CtxOk.cons (impl_copyArena.xok k) (CtxOk.cons (impl_copyInts.xok k) CtxOk.nil)))))) (impl_PutAt.oke k a0_0 a1 a2 a3) h (by kernel_rfl) (by kernel_rfl) (by kernel_rfl) rfl (by kernel_rfl) rfl rfl
noncomputable def impl_PutAt.x (k : Nat) : X := fun ins bs κ => match ins, bs with
  | [.ag [.row 0 .t88 a0_0], .sc (.int .i64 a1), .sc (.int .i64 a2), .sc (.int .i64 a3)], [] => (impl_PutAt.f k a0_0 a1 a2 a3).bind fun r => κ (impl_PutAt.e r).1 (impl_PutAt.e r).2.1 (impl_PutAt.e r).2.2
  | _, _ => none
theorem impl_PutAt.xok (k : Nat) : XOk 86 (impl_PutAt.x k) := by
  intro ins bs κ res h
  unfold impl_PutAt.x at h
  split at h
  · obtain ⟨r, hr, h⟩ := Option.bind_eq_some_iff.1 h
    exact ⟨_, _, _, impl_PutAt.con k _ _ _ _ r hr, h⟩
  · cases h
end Go.Proofs.Yteideicglgpfiaa.M2

/- Plain runs of functions: each is a plain Lean function, and keeps its contract. Written by a program of this session. -/
namespace Go.Proofs.Yteideicglgpfiaa.M2
open Go Go.Proofs.Yteideicglgpfiaa.PK
set_option linter.unusedVariables false
set_option linter.unusedSimpArgs false
set_option maxHeartbeats 4000000
/-! ### impl_Store_enter: function 47 -/
noncomputable def impl_Store_enter.sp : Nat → Option (Spec Ty) := fun r => none
noncomputable def impl_Store_enter.en : Option (Spec Ty) := some ⟨[(4, .keep)], [(2, none), (1, none), (0, some [.own .t53, .own .t88, .keep])]⟩
noncomputable def impl_Store_enter.ctx (k : Nat) : Ctx Ty D := (cons 63 (impl_volAt.x k) (cons 85 (impl_Store_create.x k) (cons 86 (impl_PutAt.x k) (fun _ _ _ _ => none))))
noncomputable def impl_Store_enter.f (k : Nat) (a1_0 : Int) (a1_1 : Int) (a1_2 : Int) (a1_3 : Int) (a0_2 : Int) (h0_0 : List S53) (h0_1 : List S88) : Option ((Bool × (List S53) × (List S88) × Int × (List S53) × (List S88)) ⊕ (Bool × (List S53) × (List S88) × Int) ⊕ (Bool × (List S53) × (List S88) × Int) ⊕ (Bool × (List S53) × (List S88) × Int × (List S53)) ⊕ (Bool × (List S53) × (List S88) × Int × (List S88))) := (if a1_0 = 1 then (some (.inl (true, ([] : List S53), ([] : List S88), (maxI a1_2 1), h0_0, h0_1))) else (if a1_0 = 2 then ((impl_Store_create.f k a1_1 a1_2 a0_2 h0_0 h0_1).bind (Sum.elim (fun t2 => (some (.inr (.inl (t2.1, t2.2.1, t2.2.2.1, t2.2.2.2))))) (fun t3 => (some (.inr (.inr (.inl (t3.1, t3.2.1, t3.2.2.1, t3.2.2.2)))))))) else ((impl_volAt.f k h0_0 h0_1 a0_2 a1_1).bind fun t4 => (if t4 < 0 then (some (.inr (.inl (false, h0_0, h0_1, a0_2)))) else (if a1_3 = 1000000000 then (some (.inr (.inl (false, h0_0, h0_1, a0_2)))) else (if a1_0 = 3 then (if 0 ≤ t4 then (if t4 ≤ (h0_0.length : Int) then (if ([] : List S53).length + ((h0_0.drop 0).take (t4.toNat - 0)).length ≤ 8796093022208 then (if 0 ≤ (w64 (t4 + 1)) then (if (w64 (t4 + 1)) ≤ (h0_0.length : Int) then (if (([] : List S53) ++ ((h0_0.drop 0).take (t4.toNat - 0))).length + ((h0_0.drop ((w64 (t4 + 1)).toNat)).take (h0_0.length - (w64 (t4 + 1)).toNat)).length ≤ 8796093022208 then (some (.inr (.inr (.inr (.inl (true, ((([] : List S53) ++ ((h0_0.drop 0).take (t4.toNat - 0))) ++ ((h0_0.drop ((w64 (t4 + 1)).toNat)).take (h0_0.length - (w64 (t4 + 1)).toNat))), h0_1, a0_2, h0_0)))))) else none) else none) else none) else none) else none) else none) else (if 0 ≤ t4 then (if t4 < (h0_0.length : Int) then ((impl_PutAt.f k h0_1 ((rd_T53 h0_0 t4).f1) a1_2 a1_3).bind fun t5 => (if 0 ≤ t4 then (if t4 < (h0_0.length : Int) then (some (.inr (.inr (.inr (.inr (true, (h0_0.set t4.toNat (S53.mk ((rd_T53 h0_0 t4).f0) t5.2)), t5.1, (maxI a0_2 (w64 (a1_3 + 1))), h0_1)))))) else none) else none)) else none) else none)))))))
noncomputable def impl_Store_enter.e : (Bool × (List S53) × (List S88) × Int × (List S53) × (List S88)) ⊕ (Bool × (List S53) × (List S88) × Int) ⊕ (Bool × (List S53) × (List S88) × Int) ⊕ (Bool × (List S53) × (List S88) × Int × (List S53)) ⊕ (Bool × (List S53) × (List S88) × Int × (List S88)) → Res Ty D := (Sum.elim (fun r => (.sc (.bool r.1), [some (.box [.sl 3 none, .sl 4 none, .sc (.int .i64 r.2.2.2.1)]), some (.rowb .t53 r.2.2.2.2.1 0), some (.rowb .t88 r.2.2.2.2.2 0)], [.rowb .t53 r.2.1 0, .rowb .t88 r.2.2.1 0])) (Sum.elim (fun r => (.sc (.bool r.1), [some (.box [.sl 1 none, .sl 2 none, .sc (.int .i64 r.2.2.2)]), some (.rowb .t53 r.2.1 0), some (.rowb .t88 r.2.2.1 0)], [])) (Sum.elim (fun r => (.sc (.bool r.1), [some (.box [.sl 3 none, .sl 2 none, .sc (.int .i64 r.2.2.2)]), none, some (.rowb .t88 r.2.2.1 0)], [.rowb .t53 r.2.1 0])) (Sum.elim (fun r => (.sc (.bool r.1), [some (.box [.sl 3 none, .sl 2 none, .sc (.int .i64 r.2.2.2.1)]), some (.rowb .t53 r.2.2.2.2 0), some (.rowb .t88 r.2.2.1 0)], [.rowb .t53 r.2.1 0])) (fun r => (.sc (.bool r.1), [some (.box [.sl 1 none, .sl 3 none, .sc (.int .i64 r.2.2.2.1)]), some (.rowb .t53 r.2.1 0), some (.rowb .t88 r.2.2.2.2 0)], [.rowb .t88 r.2.2.1 0]))))))
noncomputable abbrev impl_Store_enter.g (rec : List Item → St Ty D → R) (k : Nat) := go1 Try.f47 (impl_Store_enter.ctx k) impl_Store_enter.sp 3 impl_Store_enter.en rec
set_option maxRecDepth 100000 in
theorem impl_Store_enter.te (rec : List Item → St Ty D → R) (k : Nat) (a1_0 : Int) (a1_1 : Int) (a1_2 : Int) (a1_3 : Int) (a0_2 : Int) (h0_0 : List S53) (h0_1 : List S88) : impl_Store_enter.g rec k [.code (body Try.f47)] (startSt [.pt 0 0 0, .ag [.sc (.int .i64 a1_0), .sc (.int .i64 a1_1), .sc (.int .i64 a1_2), .sc (.int .i64 a1_3)]] [.box [.sl 1 none, .sl 2 none, .sc (.int .i64 a0_2)], .rowb .t53 h0_0 0, .rowb .t88 h0_1 0]) =
  bif decide (a1_0 = 1) then some (impl_Store_enter.e (.inl (true, ([] : List S53), ([] : List S88), (maxI a1_2 1), h0_0, h0_1))) else bif decide (a1_0 = 2) then (impl_Store_create.f k a1_1 a1_2 a0_2 h0_0 h0_1).bind (Sum.elim (fun t2 => some (impl_Store_enter.e (.inr (.inl (t2.1, t2.2.1, t2.2.2.1, t2.2.2.2))))) (fun t3 => some (impl_Store_enter.e (.inr (.inr (.inl (t3.1, t3.2.1, t3.2.2.1, t3.2.2.2))))))) else (impl_volAt.f k h0_0 h0_1 a0_2 a1_1).bind fun t4 => bif decide (t4 < 0) then some (impl_Store_enter.e (.inr (.inl (false, h0_0, h0_1, a0_2)))) else bif decide (a1_3 = 1000000000) then some (impl_Store_enter.e (.inr (.inl (false, h0_0, h0_1, a0_2)))) else bif decide (a1_0 = 3) then bif decide (0 ≤ t4) then bif decide (t4 ≤ (h0_0.length : Int)) then bif decide (([] : List S53).length + ((h0_0.drop 0).take (t4.toNat - 0)).length ≤ 8796093022208) then bif decide (0 ≤ (w64 (t4 + 1))) then bif decide ((w64 (t4 + 1)) ≤ (h0_0.length : Int)) then bif decide ((([] : List S53) ++ ((h0_0.drop 0).take (t4.toNat - 0))).length + ((h0_0.drop ((w64 (t4 + 1)).toNat)).take (h0_0.length - (w64 (t4 + 1)).toNat)).length ≤ 8796093022208) then some (impl_Store_enter.e (.inr (.inr (.inr (.inl (true, ((([] : List S53) ++ ((h0_0.drop 0).take (t4.toNat - 0))) ++ ((h0_0.drop ((w64 (t4 + 1)).toNat)).take (h0_0.length - (w64 (t4 + 1)).toNat))), h0_1, a0_2, h0_0)))))) else none else none else none else none else none else none else bif decide (0 ≤ t4) then bif decide (t4 < (h0_0.length : Int)) then (impl_PutAt.f k h0_1 ((rd_T53 h0_0 t4).f1) a1_2 a1_3).bind fun t5 => bif decide (0 ≤ t4) then bif decide (t4 < (h0_0.length : Int)) then some (impl_Store_enter.e (.inr (.inr (.inr (.inr (true, (h0_0.set t4.toNat (S53.mk ((rd_T53 h0_0 t4).f0) t5.2)), t5.1, (maxI a0_2 (w64 (a1_3 + 1))), h0_1)))))) else none else none else none else none := by kernel_rfl
set_option maxRecDepth 100000 in
theorem impl_Store_enter.oke (k : Nat) (a1_0 : Int) (a1_1 : Int) (a1_2 : Int) (a1_3 : Int) (a0_2 : Int) (h0_0 : List S53) (h0_1 : List S88) : goF Try.f47 impl_Store_enter.ctx impl_Store_enter.sp 3 impl_Store_enter.en (k + 1) [.code (body Try.f47)] (startSt [.pt 0 0 0, .ag [.sc (.int .i64 a1_0), .sc (.int .i64 a1_1), .sc (.int .i64 a1_2), .sc (.int .i64 a1_3)]] [.box [.sl 1 none, .sl 2 none, .sc (.int .i64 a0_2)], .rowb .t53 h0_0 0, .rowb .t88 h0_1 0]) = (impl_Store_enter.f k a1_0 a1_1 a1_2 a1_3 a0_2 h0_0 h0_1).map impl_Store_enter.e := by
  rw [impl_Store_enter.f]; exact (impl_Store_enter.te _ k a1_0 a1_1 a1_2 a1_3 a0_2 h0_0 h0_1).trans (cd rfl (cd (bn (el (fun t2 => rfl) (fun t3 => rfl))) (bn (fun t4 => (cd rfl (cd rfl (cd (cd (cd (cd (cd (cd (cd rfl rfl) rfl) rfl) rfl) rfl) rfl) (cd (cd (bn (fun t5 => (cd (cd rfl rfl) rfl))) rfl) rfl))))))))
theorem impl_Store_enter.con (k : Nat) (a1_0 : Int) (a1_1 : Int) (a1_2 : Int) (a1_3 : Int) (a0_2 : Int) (h0_0 : List S53) (h0_1 : List S88) (r) (h : impl_Store_enter.f k a1_0 a1_1 a1_2 a1_3 a0_2 h0_0 h0_1 = some r) : Contract Try.prog kit 47 [.pt 0 0 0, .ag [.sc (.int .i64 a1_0), .sc (.int .i64 a1_1), .sc (.int .i64 a1_2), .sc (.int .i64 a1_3)]] [.box [.sl 1 none, .sl 2 none, .sc (.int .i64 a0_2)], .rowb .t53 h0_0 0, .rowb .t88 h0_1 0] (impl_Store_enter.e r).1 (impl_Store_enter.e r).2.1 (impl_Store_enter.e r).2.2 :=
  con_okG kitOk mix (fun k => (CtxOk.cons (impl_volAt.xok k) (CtxOk.cons (impl_Store_create.xok k) (CtxOk.cons (impl_PutAt.xok k) CtxOk.nil)))) (impl_Store_enter.oke k a1_0 a1_1 a1_2 a1_3 a0_2 h0_0 h0_1) h (by kernel_rfl) (by kernel_rfl) (by kernel_rfl) rfl (by kernel_rfl) rfl (by rcases r with r | r | r | r | r <;> rfl)
noncomputable def impl_Store_enter.x (k : Nat) : X := fun ins bs κ => match ins, bs with
  | [.pt 0 0 0, .ag [.sc (.int .i64 a1_0), .sc (.int .i64 a1_1), .sc (.int .i64 a1_2), .sc (.int .i64 a1_3)]], [.box [.sl 1 none, .sl 2 none, .sc (.int .i64 a0_2)], .rowb .t53 h0_0 0, .rowb .t88 h0_1 0] => (impl_Store_enter.f k a1_0 a1_1 a1_2 a1_3 a0_2 h0_0 h0_1).bind (Sum.elim (fun r => κ (impl_Store_enter.e (.inl r)).1 (impl_Store_enter.e (.inl r)).2.1 (impl_Store_enter.e (.inl r)).2.2) (Sum.elim (fun r => κ (impl_Store_enter.e (.inr (.inl r))).1 (impl_Store_enter.e (.inr (.inl r))).2.1 (impl_Store_enter.e (.inr (.inl r))).2.2) (Sum.elim (fun r => κ (impl_Store_enter.e (.inr (.inr (.inl r)))).1 (impl_Store_enter.e (.inr (.inr (.inl r)))).2.1 (impl_Store_enter.e (.inr (.inr (.inl r)))).2.2) (Sum.elim (fun r => κ (impl_Store_enter.e (.inr (.inr (.inr (.inl r))))).1 (impl_Store_enter.e (.inr (.inr (.inr (.inl r))))).2.1 (impl_Store_enter.e (.inr (.inr (.inr (.inl r))))).2.2) (fun r => κ (impl_Store_enter.e (.inr (.inr (.inr (.inr r))))).1 (impl_Store_enter.e (.inr (.inr (.inr (.inr r))))).2.1 (impl_Store_enter.e (.inr (.inr (.inr (.inr r))))).2.2)))))
  | _, _ => none
theorem impl_Store_enter.xok (k : Nat) : XOk 47 (impl_Store_enter.x k) := by
  intro ins bs κ res h
  unfold impl_Store_enter.x at h
  split at h
  · obtain ⟨r, hr, h⟩ := Option.bind_eq_some_iff.1 h
    rcases r with r | r | r | r | r
    · exact ⟨_, _, _, impl_Store_enter.con k _ _ _ _ _ _ _ _ hr, h⟩
    · exact ⟨_, _, _, impl_Store_enter.con k _ _ _ _ _ _ _ _ hr, h⟩
    · exact ⟨_, _, _, impl_Store_enter.con k _ _ _ _ _ _ _ _ hr, h⟩
    · exact ⟨_, _, _, impl_Store_enter.con k _ _ _ _ _ _ _ _ hr, h⟩
    · exact ⟨_, _, _, impl_Store_enter.con k _ _ _ _ _ _ _ _ hr, h⟩
  · cases h

/-! ### impl_SweepArena: function 87 -/
noncomputable def impl_SweepArena.sp : Nat → Option (Spec Ty) := fun r => bif Nat.beq r 4 then some ⟨[(1, .keep), (2, .box [.keep]), (4, .box [.own .t88]), (6, .own .t3), (7, .own .t3), (21, .keep), (22, .keep), (23, .keep)], []⟩ else bif Nat.beq r 15 then some ⟨[(1, .keep), (4, .box [.own .t88]), (6, .own .t3), (7, .own .t3), (10, .box [.own .t88]), (11, .own .t3), (55, .keep), (56, .keep), (57, .keep)], []⟩ else bif Nat.beq r 21 then some ⟨[(1, .keep), (4, .box [.own .t88]), (6, .own .t3), (7, .own .t3), (10, .box [.own .t88]), (11, .own .t3), (13, .box [.keep, .keep]), (14, .box [.keep, .own .t3]), (55, .keep), (56, .keep), (57, .keep), (79, .keep), (80, .keep), (81, .keep)], []⟩ else bif Nat.beq r 29 then some ⟨[(4, .box [.own .t88]), (6, .own .t3), (10, .box [.own .t88]), (11, .own .t3), (109, .keep), (110, .keep), (111, .keep)], []⟩ else none
noncomputable def impl_SweepArena.en : Option (Spec Ty) := some ⟨[(4, .box [.own .t88]), (5, .own .t3)], []⟩
noncomputable def impl_SweepArena.s4 (x1 : List Int) (x21 : List Int) (x22 : Int) (x23 : Int) (h64_0 : List S88) (h66 : List S88) (h67 : List Int) (h68 : List Int) : St Ty D := ⟨(Env.put (Env.put (Env.put (Env.put (Env.put (Env.put (Env.put (Env.put E (some 1) (.row 0 .t3 x1)) (some 2) (.pt 64 0 0)) (some 4) (.pt 65 0 0)) (some 6) (.sl 67 none)) (some 7) (.sl 68 none)) (some 21) (.row 0 .t3 x21)) (some 22) (.sc (.int .i64 x22))) (some 23) (.sc (.int .i64 x23))), Heap.put H0 [(64, some (.box [.row 0 .t88 h64_0])), (66, some (.rowb .t88 h66 0)), (65, some (.box [.sl 66 none])), (67, some (.rowb .t3 h67 0)), (68, some (.rowb .t3 h68 0))], 1000⟩
noncomputable def impl_SweepArena.s15 (x1 : List Int) (x55 : List S88) (x56 : Int) (x57 : Int) (h65 : List S88) (h66 : List Int) (h67 : List Int) (h69 : List S88) (h70 : List Int) : St Ty D := ⟨(Env.put (Env.put (Env.put (Env.put (Env.put (Env.put (Env.put (Env.put (Env.put E (some 1) (.row 0 .t3 x1)) (some 4) (.pt 64 0 0)) (some 6) (.sl 66 none)) (some 7) (.sl 67 none)) (some 10) (.pt 68 0 0)) (some 11) (.sl 70 none)) (some 55) (.row 0 .t88 x55)) (some 56) (.sc (.int .i64 x56))) (some 57) (.sc (.int .i64 x57))), Heap.put H0 [(65, some (.rowb .t88 h65 0)), (64, some (.box [.sl 65 none])), (66, some (.rowb .t3 h66 0)), (67, some (.rowb .t3 h67 0)), (69, some (.rowb .t88 h69 0)), (68, some (.box [.sl 69 none])), (70, some (.rowb .t3 h70 0))], 1000⟩
noncomputable def impl_SweepArena.s21 (x1 : List Int) (x55 : List S88) (x56 : Int) (x57 : Int) (x79 : List Int) (x80 : Int) (x81 : Int) (h65 : List S88) (h66 : List Int) (h67 : List Int) (h69 : List S88) (h70 : List Int) (h71_0 : Bool) (h71_1 : List Int) (h73 : List Int) (h72_0 : Bool) : St Ty D := ⟨(Env.put (Env.put (Env.put (Env.put (Env.put (Env.put (Env.put (Env.put (Env.put (Env.put (Env.put (Env.put (Env.put (Env.put E (some 1) (.row 0 .t3 x1)) (some 4) (.pt 64 0 0)) (some 6) (.sl 66 none)) (some 7) (.sl 67 none)) (some 10) (.pt 68 0 0)) (some 11) (.sl 70 none)) (some 13) (.pt 71 0 0)) (some 14) (.pt 72 0 0)) (some 55) (.row 0 .t88 x55)) (some 56) (.sc (.int .i64 x56))) (some 57) (.sc (.int .i64 x57))) (some 79) (.row 0 .t3 x79)) (some 80) (.sc (.int .i64 x80))) (some 81) (.sc (.int .i64 x81))), Heap.put H0 [(65, some (.rowb .t88 h65 0)), (64, some (.box [.sl 65 none])), (66, some (.rowb .t3 h66 0)), (67, some (.rowb .t3 h67 0)), (69, some (.rowb .t88 h69 0)), (68, some (.box [.sl 69 none])), (70, some (.rowb .t3 h70 0)), (71, some (.box [.sc (.bool h71_0), .row 0 .t3 h71_1])), (73, some (.rowb .t3 h73 0)), (72, some (.box [.sc (.bool h72_0), .sl 73 none]))], 1000⟩
noncomputable def impl_SweepArena.s29 (x109 : List Int) (x110 : Int) (x111 : Int) (h65 : List S88) (h66 : List Int) (h68 : List S88) (h69 : List Int) : St Ty D := ⟨(Env.put (Env.put (Env.put (Env.put (Env.put (Env.put (Env.put E (some 4) (.pt 64 0 0)) (some 6) (.sl 66 none)) (some 10) (.pt 67 0 0)) (some 11) (.sl 69 none)) (some 109) (.row 0 .t3 x109)) (some 110) (.sc (.int .i64 x110))) (some 111) (.sc (.int .i64 x111))), Heap.put H0 [(65, some (.rowb .t88 h65 0)), (64, some (.box [.sl 65 none])), (66, some (.rowb .t3 h66 0)), (68, some (.rowb .t88 h68 0)), (67, some (.box [.sl 68 none])), (69, some (.rowb .t3 h69 0))], 1000⟩
noncomputable def impl_SweepArena.ctx (k : Nat) : Ctx Ty D := (cons 67 (impl_ArenaOk.x k) (cons 69 (impl_isRoot.x k) (cons 70 (impl_knotsOf.x k) (cons 71 (impl_hasInt.x k) (cons 84 (impl_copyArena.x k) (cons 99 (impl_copyInts.x k) (fun _ _ _ _ => none)))))))
mutual
noncomputable def impl_SweepArena.c4 : Nat → (List Int) → (List Int) → Int → Int → (List S88) → (List S88) → (List Int) → (List Int) → Option ((List S88) × (List Int))
  | 0, _, _, _, _, _, _, _, _ => none
  | k + 1, x1, x21, x22, x23, h64_0, h66, h67, h68 => (if x23 < x22 then (if 0 ≤ x23 then (if x23 < (x21.length : Int) then (if (rd_T3 x21 x23) = (-1) then ((impl_knotsOf.f k h64_0 (rd_T3 x21 x23)).bind fun t5 => (if h68.length + t5.length ≤ 17592186044416 then (impl_SweepArena.c4 k x1 x21 x22 (w64 (x23 + 1)) h64_0 h66 h67 (h68 ++ t5)) else none)) else ((impl_isRoot.f k h64_0 (rd_T3 x21 x23)).bind fun t2 => (if t2 = true then ((impl_knotsOf.f k h64_0 (rd_T3 x21 x23)).bind fun t4 => (if h68.length + t4.length ≤ 17592186044416 then (impl_SweepArena.c4 k x1 x21 x22 (w64 (x23 + 1)) h64_0 h66 h67 (h68 ++ t4)) else none)) else ((impl_copyArena.f k h64_0).bind fun t3 => (some (t3, h67)))))) else none) else none) else ((impl_ArenaOk.f k h64_0).bind fun t6 => (if t6 = true then (if 0 ≤ (h64_0.length : Int) then (if (h64_0.length : Int).toNat ≤ 35184372088832 then (impl_SweepArena.c15 k x1 h64_0 (h64_0.length : Int) 0 h66 h67 h68 ([] : List S88) (List.replicate ((h64_0.length : Int).toNat) z3)) else none) else none) else ((impl_copyArena.f k h64_0).bind fun t7 => (some (t7, h67))))))
noncomputable def impl_SweepArena.c15 : Nat → (List Int) → (List S88) → Int → Int → (List S88) → (List Int) → (List Int) → (List S88) → (List Int) → Option ((List S88) × (List Int))
  | 0, _, _, _, _, _, _, _, _, _ => none
  | k + 1, x1, x55, x56, x57, h65, h66, h67, h69, h70 => (if x57 < x56 then (if 0 ≤ x57 then (if x57 < (x55.length : Int) then ((impl_hasInt.f k h67 x57).bind fun t8 => (if t8 = true then (if 0 ≤ x57 then (if x57 < (h70.length : Int) then ((impl_copyInts.f k ((rd_T88 x55 x57).f1)).bind fun t9 => (impl_SweepArena.c21 k x1 x55 x56 x57 ((rd_T88 x55 x57).f1) (((rd_T88 x55 x57).f1).length : Int) 0 h65 h66 h67 h69 (h70.set x57.toNat (h69.length : Int)) ((rd_T88 x55 x57).f0) ((rd_T88 x55 x57).f1) t9 ((rd_T88 x55 x57).f0))) else none) else none) else (impl_SweepArena.c15 k x1 x55 x56 (w64 (x57 + 1)) h65 h66 h67 h69 h70))) else none) else none) else (impl_SweepArena.c29 k x1 (x1.length : Int) 0 h65 h66 h69 h70))
noncomputable def impl_SweepArena.c21 : Nat → (List Int) → (List S88) → Int → Int → (List Int) → Int → Int → (List S88) → (List Int) → (List Int) → (List S88) → (List Int) → Bool → (List Int) → (List Int) → Bool → Option ((List S88) × (List Int))
  | 0, _, _, _, _, _, _, _, _, _, _, _, _, _, _, _, _ => none
  | k + 1, x1, x55, x56, x57, x79, x80, x81, h65, h66, h67, h69, h70, h71_0, h71_1, h73, h72_0 => (if x81 < x80 then (if 0 ≤ x81 then (if x81 < (x79.length : Int) then (if h71_0 = true then (impl_SweepArena.c21 k x1 x55 x56 x57 x79 x80 (w64 (x81 + 1)) h65 h66 h67 h69 h70 h71_0 h71_1 h73 h72_0) else (if (rd_T3 x79 x81) ≥ 0 then (if 0 ≤ (rd_T3 x79 x81) then (if (rd_T3 x79 x81) < (h70.length : Int) then (if 0 ≤ x81 then (if x81 < (h73.length : Int) then (impl_SweepArena.c21 k x1 x55 x56 x57 x79 x80 (w64 (x81 + 1)) h65 h66 h67 h69 h70 h71_0 h71_1 (h73.set x81.toNat (rd_T3 h70 (rd_T3 x79 x81))) h72_0) else none) else none) else none) else none) else (impl_SweepArena.c21 k x1 x55 x56 x57 x79 x80 (w64 (x81 + 1)) h65 h66 h67 h69 h70 h71_0 h71_1 h73 h72_0))) else none) else none) else (if h69.length + ([(S88.mk h72_0 h73)] : List S88).length ≤ 4398046511104 then (impl_SweepArena.c15 k x1 x55 x56 (w64 (x57 + 1)) h65 h66 h67 (h69 ++ ([(S88.mk h72_0 h73)] : List S88)) h70) else none))
noncomputable def impl_SweepArena.c29 : Nat → (List Int) → Int → Int → (List S88) → (List Int) → (List S88) → (List Int) → Option ((List S88) × (List Int))
  | 0, _, _, _, _, _, _, _ => none
  | k + 1, x109, x110, x111, h65, h66, h68, h69 => (if x111 < x110 then (if 0 ≤ x111 then (if x111 < (x109.length : Int) then (if (rd_T3 x109 x111) ≥ 0 then (if 0 ≤ (rd_T3 x109 x111) then (if (rd_T3 x109 x111) < (h69.length : Int) then (if 0 ≤ x111 then (if x111 < (h66.length : Int) then (impl_SweepArena.c29 k x109 x110 (w64 (x111 + 1)) h65 (h66.set x111.toNat (rd_T3 h69 (rd_T3 x109 x111))) h68 h69) else none) else none) else none) else none) else (impl_SweepArena.c29 k x109 x110 (w64 (x111 + 1)) h65 h66 h68 h69)) else none) else none) else (some (h68, h66)))
end
noncomputable def impl_SweepArena.f (k : Nat) (a0_0 : List S88) (a1 : List Int) : Option ((List S88) × (List Int)) := ((impl_copyInts.f k a1).bind fun t1 => (impl_SweepArena.c4 k a1 a1 (a1.length : Int) 0 a0_0 ([] : List S88) t1 ([] : List Int)))
noncomputable def impl_SweepArena.e (r : (List S88) × (List Int)) : Res Ty D := (.tu [.ag [.sl 0 none], .sl 1 none], [], [.rowb .t88 r.1 0, .rowb .t3 r.2 0])
noncomputable abbrev impl_SweepArena.g (rec : List Item → St Ty D → R) (k : Nat) := go1 Try.f87 (impl_SweepArena.ctx k) impl_SweepArena.sp 0 impl_SweepArena.en rec
set_option maxRecDepth 100000 in
theorem impl_SweepArena.t4 (rec : List Item → St Ty D → R) (k : Nat) (x1 : List Int) (x21 : List Int) (x22 : Int) (x23 : Int) (h64_0 : List S88) (h66 : List S88) (h67 : List Int) (h68 : List Int) : impl_SweepArena.g rec k (td Try.f87 4) (impl_SweepArena.s4 x1 x21 x22 x23 h64_0 h66 h67 h68) =
  bif decide (x23 < x22) then bif decide (0 ≤ x23) then bif decide (x23 < (x21.length : Int)) then bif !decide ((rd_T3 x21 x23) = (-1)) then (impl_isRoot.f k h64_0 (rd_T3 x21 x23)).bind fun t2 => bif !t2 then (impl_copyArena.f k h64_0).bind fun t3 => some (impl_SweepArena.e (t3, h67)) else (impl_knotsOf.f k h64_0 (rd_T3 x21 x23)).bind fun t4 => bif decide (h68.length + t4.length ≤ 17592186044416) then rec (td Try.f87 4) (impl_SweepArena.s4 x1 x21 x22 (w64 (x23 + 1)) h64_0 h66 h67 (h68 ++ t4)) else none else (impl_knotsOf.f k h64_0 (rd_T3 x21 x23)).bind fun t5 => bif decide (h68.length + t5.length ≤ 17592186044416) then rec (td Try.f87 4) (impl_SweepArena.s4 x1 x21 x22 (w64 (x23 + 1)) h64_0 h66 h67 (h68 ++ t5)) else none else none else none else (impl_ArenaOk.f k h64_0).bind fun t6 => bif !t6 then (impl_copyArena.f k h64_0).bind fun t7 => some (impl_SweepArena.e (t7, h67)) else bif decide ((h64_0.length : Int) = (h64_0.length : Int)) then bif decide (0 ≤ (h64_0.length : Int)) then bif decide ((h64_0.length : Int).toNat ≤ 35184372088832) then rec (td Try.f87 15) (impl_SweepArena.s15 x1 h64_0 (h64_0.length : Int) 0 h66 h67 h68 ([] : List S88) (List.replicate ((h64_0.length : Int).toNat) z3)) else none else none else none := by kernel_rfl
set_option maxRecDepth 100000 in
theorem impl_SweepArena.t15 (rec : List Item → St Ty D → R) (k : Nat) (x1 : List Int) (x55 : List S88) (x56 : Int) (x57 : Int) (h65 : List S88) (h66 : List Int) (h67 : List Int) (h69 : List S88) (h70 : List Int) : impl_SweepArena.g rec k (td Try.f87 15) (impl_SweepArena.s15 x1 x55 x56 x57 h65 h66 h67 h69 h70) =
  bif decide (x57 < x56) then bif decide (0 ≤ x57) then bif decide (x57 < (x55.length : Int)) then (impl_hasInt.f k h67 x57).bind fun t8 => bif !t8 then rec (td Try.f87 15) (impl_SweepArena.s15 x1 x55 x56 (w64 (x57 + 1)) h65 h66 h67 h69 h70) else bif decide (0 ≤ x57) then bif decide (x57 < (h70.length : Int)) then (impl_copyInts.f k ((rd_T88 x55 x57).f1)).bind fun t9 => rec (td Try.f87 21) (impl_SweepArena.s21 x1 x55 x56 x57 ((rd_T88 x55 x57).f1) (((rd_T88 x55 x57).f1).length : Int) 0 h65 h66 h67 h69 (h70.set x57.toNat (h69.length : Int)) ((rd_T88 x55 x57).f0) ((rd_T88 x55 x57).f1) t9 ((rd_T88 x55 x57).f0)) else none else none else none else none else rec (td Try.f87 29) (impl_SweepArena.s29 x1 (x1.length : Int) 0 h65 h66 h69 h70) := by kernel_rfl
set_option maxRecDepth 100000 in
theorem impl_SweepArena.t21 (rec : List Item → St Ty D → R) (k : Nat) (x1 : List Int) (x55 : List S88) (x56 : Int) (x57 : Int) (x79 : List Int) (x80 : Int) (x81 : Int) (h65 : List S88) (h66 : List Int) (h67 : List Int) (h69 : List S88) (h70 : List Int) (h71_0 : Bool) (h71_1 : List Int) (h73 : List Int) (h72_0 : Bool) : impl_SweepArena.g rec k (td Try.f87 21) (impl_SweepArena.s21 x1 x55 x56 x57 x79 x80 x81 h65 h66 h67 h69 h70 h71_0 h71_1 h73 h72_0) =
  bif decide (x81 < x80) then bif decide (0 ≤ x81) then bif decide (x81 < (x79.length : Int)) then bif !h71_0 then bif decide ((rd_T3 x79 x81) ≥ 0) then bif decide (0 ≤ (rd_T3 x79 x81)) then bif decide ((rd_T3 x79 x81) < (h70.length : Int)) then bif decide (0 ≤ x81) then bif decide (x81 < (h73.length : Int)) then rec (td Try.f87 21) (impl_SweepArena.s21 x1 x55 x56 x57 x79 x80 (w64 (x81 + 1)) h65 h66 h67 h69 h70 h71_0 h71_1 (h73.set x81.toNat (rd_T3 h70 (rd_T3 x79 x81))) h72_0) else none else none else none else none else rec (td Try.f87 21) (impl_SweepArena.s21 x1 x55 x56 x57 x79 x80 (w64 (x81 + 1)) h65 h66 h67 h69 h70 h71_0 h71_1 h73 h72_0) else rec (td Try.f87 21) (impl_SweepArena.s21 x1 x55 x56 x57 x79 x80 (w64 (x81 + 1)) h65 h66 h67 h69 h70 h71_0 h71_1 h73 h72_0) else none else none else bif decide (h69.length + ([(S88.mk h72_0 h73)] : List S88).length ≤ 4398046511104) then rec (td Try.f87 15) (impl_SweepArena.s15 x1 x55 x56 (w64 (x57 + 1)) h65 h66 h67 (h69 ++ ([(S88.mk h72_0 h73)] : List S88)) h70) else none := by kernel_rfl
set_option maxRecDepth 100000 in
theorem impl_SweepArena.t29 (rec : List Item → St Ty D → R) (k : Nat) (x109 : List Int) (x110 : Int) (x111 : Int) (h65 : List S88) (h66 : List Int) (h68 : List S88) (h69 : List Int) : impl_SweepArena.g rec k (td Try.f87 29) (impl_SweepArena.s29 x109 x110 x111 h65 h66 h68 h69) =
  bif decide (x111 < x110) then bif decide (0 ≤ x111) then bif decide (x111 < (x109.length : Int)) then bif decide ((rd_T3 x109 x111) ≥ 0) then bif decide (0 ≤ (rd_T3 x109 x111)) then bif decide ((rd_T3 x109 x111) < (h69.length : Int)) then bif decide (0 ≤ x111) then bif decide (x111 < (h66.length : Int)) then rec (td Try.f87 29) (impl_SweepArena.s29 x109 x110 (w64 (x111 + 1)) h65 (h66.set x111.toNat (rd_T3 h69 (rd_T3 x109 x111))) h68 h69) else none else none else none else none else rec (td Try.f87 29) (impl_SweepArena.s29 x109 x110 (w64 (x111 + 1)) h65 h66 h68 h69) else none else none else some (impl_SweepArena.e (h68, h66)) := by kernel_rfl
set_option maxRecDepth 100000 in
theorem impl_SweepArena.te (rec : List Item → St Ty D → R) (k : Nat) (a0_0 : List S88) (a1 : List Int) : impl_SweepArena.g rec k [.code (body Try.f87)] (startSt [.ag [.row 0 .t88 a0_0], .row 0 .t3 a1] []) =
  (impl_copyInts.f k a1).bind fun t1 => rec (td Try.f87 4) (impl_SweepArena.s4 a1 a1 (a1.length : Int) 0 a0_0 ([] : List S88) t1 ([] : List Int)) := by kernel_rfl
set_option maxRecDepth 100000 in
theorem impl_SweepArena.ok : ∀ k : Nat, (∀ (x1 : List Int) (x21 : List Int) (x22 : Int) (x23 : Int) (h64_0 : List S88) (h66 : List S88) (h67 : List Int) (h68 : List Int), goF Try.f87 impl_SweepArena.ctx impl_SweepArena.sp 0 impl_SweepArena.en k (td Try.f87 4) (impl_SweepArena.s4 x1 x21 x22 x23 h64_0 h66 h67 h68) = (impl_SweepArena.c4 k x1 x21 x22 x23 h64_0 h66 h67 h68).map impl_SweepArena.e) ∧ (∀ (x1 : List Int) (x55 : List S88) (x56 : Int) (x57 : Int) (h65 : List S88) (h66 : List Int) (h67 : List Int) (h69 : List S88) (h70 : List Int), goF Try.f87 impl_SweepArena.ctx impl_SweepArena.sp 0 impl_SweepArena.en k (td Try.f87 15) (impl_SweepArena.s15 x1 x55 x56 x57 h65 h66 h67 h69 h70) = (impl_SweepArena.c15 k x1 x55 x56 x57 h65 h66 h67 h69 h70).map impl_SweepArena.e) ∧ (∀ (x1 : List Int) (x55 : List S88) (x56 : Int) (x57 : Int) (x79 : List Int) (x80 : Int) (x81 : Int) (h65 : List S88) (h66 : List Int) (h67 : List Int) (h69 : List S88) (h70 : List Int) (h71_0 : Bool) (h71_1 : List Int) (h73 : List Int) (h72_0 : Bool), goF Try.f87 impl_SweepArena.ctx impl_SweepArena.sp 0 impl_SweepArena.en k (td Try.f87 21) (impl_SweepArena.s21 x1 x55 x56 x57 x79 x80 x81 h65 h66 h67 h69 h70 h71_0 h71_1 h73 h72_0) = (impl_SweepArena.c21 k x1 x55 x56 x57 x79 x80 x81 h65 h66 h67 h69 h70 h71_0 h71_1 h73 h72_0).map impl_SweepArena.e) ∧ (∀ (x109 : List Int) (x110 : Int) (x111 : Int) (h65 : List S88) (h66 : List Int) (h68 : List S88) (h69 : List Int), goF Try.f87 impl_SweepArena.ctx impl_SweepArena.sp 0 impl_SweepArena.en k (td Try.f87 29) (impl_SweepArena.s29 x109 x110 x111 h65 h66 h68 h69) = (impl_SweepArena.c29 k x109 x110 x111 h65 h66 h68 h69).map impl_SweepArena.e)
  | 0 => ⟨fun _ _ _ _ _ _ _ _ => rfl, fun _ _ _ _ _ _ _ _ _ => rfl, fun _ _ _ _ _ _ _ _ _ _ _ _ _ _ _ _ => rfl, fun _ _ _ _ _ _ _ => rfl⟩
  | k + 1 => by
    have ih := impl_SweepArena.ok k
    obtain ⟨i4, i15, i21, i29⟩ := ih
    refine ⟨?_, ?_, ?_, ?_⟩
    · intro x1 x21 x22 x23 h64_0 h66 h67 h68; rw [impl_SweepArena.c4]; exact (impl_SweepArena.t4 _ k x1 x21 x22 x23 h64_0 h66 h67 h68).trans (cd (cd (cd (nd (bn (fun t2 => (nb (bn (fun t3 => rfl)) (bn (fun t4 => (cd (i4 _ _ _ _ _ _ _ _) rfl)))))) (bn (fun t5 => (cd (i4 _ _ _ _ _ _ _ _) rfl)))) rfl) rfl) (bn (fun t6 => (nb (bn (fun t7 => rfl)) (sf (cd (cd (i15 _ _ _ _ _ _ _ _ _) rfl) rfl))))))
    · intro x1 x55 x56 x57 h65 h66 h67 h69 h70; rw [impl_SweepArena.c15]; exact (impl_SweepArena.t15 _ k x1 x55 x56 x57 h65 h66 h67 h69 h70).trans (cd (cd (cd (bn (fun t8 => (nb (i15 _ _ _ _ _ _ _ _ _) (cd (cd (bn (fun t9 => (i21 _ _ _ _ _ _ _ _ _ _ _ _ _ _ _ _))) rfl) rfl)))) rfl) rfl) (i29 _ _ _ _ _ _ _))
    · intro x1 x55 x56 x57 x79 x80 x81 h65 h66 h67 h69 h70 h71_0 h71_1 h73 h72_0; rw [impl_SweepArena.c21]; exact (impl_SweepArena.t21 _ k x1 x55 x56 x57 x79 x80 x81 h65 h66 h67 h69 h70 h71_0 h71_1 h73 h72_0).trans (cd (cd (cd (nb (cd (cd (cd (cd (cd (i21 _ _ _ _ _ _ _ _ _ _ _ _ _ _ _ _) rfl) rfl) rfl) rfl) (i21 _ _ _ _ _ _ _ _ _ _ _ _ _ _ _ _)) (i21 _ _ _ _ _ _ _ _ _ _ _ _ _ _ _ _)) rfl) rfl) (cd (i15 _ _ _ _ _ _ _ _ _) rfl))
    · intro x109 x110 x111 h65 h66 h68 h69; rw [impl_SweepArena.c29]; exact (impl_SweepArena.t29 _ k x109 x110 x111 h65 h66 h68 h69).trans (cd (cd (cd (cd (cd (cd (cd (cd (i29 _ _ _ _ _ _ _) rfl) rfl) rfl) rfl) (i29 _ _ _ _ _ _ _)) rfl) rfl) rfl)
set_option maxRecDepth 100000 in
theorem impl_SweepArena.oke (k : Nat) (a0_0 : List S88) (a1 : List Int) : goF Try.f87 impl_SweepArena.ctx impl_SweepArena.sp 0 impl_SweepArena.en (k + 1) [.code (body Try.f87)] (startSt [.ag [.row 0 .t88 a0_0], .row 0 .t3 a1] []) = (impl_SweepArena.f k a0_0 a1).map impl_SweepArena.e := by
  obtain ⟨i4, i15, i21, i29⟩ := impl_SweepArena.ok k
  rw [impl_SweepArena.f]; exact (impl_SweepArena.te _ k a0_0 a1).trans (bn (fun t1 => (i4 _ _ _ _ _ _ _ _)))
theorem impl_SweepArena.con (k : Nat) (a0_0 : List S88) (a1 : List Int) (r) (h : impl_SweepArena.f k a0_0 a1 = some r) : Contract Try.prog kit 87 [.ag [.row 0 .t88 a0_0], .row 0 .t3 a1] [] (impl_SweepArena.e r).1 (impl_SweepArena.e r).2.1 (impl_SweepArena.e r).2.2 :=
  con_okG kitOk mix (fun k => (CtxOk.cons (impl_ArenaOk.xok k) (CtxOk.cons (impl_isRoot.xok k) (CtxOk.cons (impl_knotsOf.xok k) (CtxOk.cons (impl_hasInt.xok k) (CtxOk.cons (impl_copyArena.xok k) (CtxOk.cons (impl_copyInts.xok k) CtxOk.nil))))))) (impl_SweepArena.oke k a0_0 a1) h (by kernel_rfl) (by kernel_rfl) (by kernel_rfl) rfl (by kernel_rfl) rfl rfl
noncomputable def impl_SweepArena.x (k : Nat) : X := fun ins bs κ => match ins, bs with
  | [.ag [.row 0 .t88 a0_0], .row 0 .t3 a1], [] => (impl_SweepArena.f k a0_0 a1).bind fun r => κ (impl_SweepArena.e r).1 (impl_SweepArena.e r).2.1 (impl_SweepArena.e r).2.2
  | _, _ => none
theorem impl_SweepArena.xok (k : Nat) : XOk 87 (impl_SweepArena.x k) := by
  intro ins bs κ res h
  unfold impl_SweepArena.x at h
  split at h
  · obtain ⟨r, hr, h⟩ := Option.bind_eq_some_iff.1 h
    exact ⟨_, _, _, impl_SweepArena.con k _ _ r hr, h⟩
  · cases h

/-! ### impl_Store_sweep: function 48 -/
noncomputable def impl_Store_sweep.sp : Nat → Option (Spec Ty) := fun r => bif Nat.beq r 2 then some ⟨[(0, .box [.own .t53, .own .t88, .keep]), (2, .own .t3), (11, .own .t53), (12, .keep), (13, .keep)], [(2, none), (1, none), (0, some [.own .t53, .own .t88, .keep])]⟩ else bif Nat.beq r 9 then some ⟨[(0, .box [.own .t53, .own .t88, .keep]), (6, .own .t3), (40, .keep), (41, .keep)], [(2, none), (1, none), (0, some [.own .t53, .own .t88, .keep])]⟩ else none
noncomputable def impl_Store_sweep.en : Option (Spec Ty) := none
noncomputable def impl_Store_sweep.s2 (x12 : Int) (x13 : Int) (h2 : List S88) (h1 : List S53) (h0_2 : Int) (h64 : List Int) : St Ty D := ⟨(Env.put (Env.put (Env.put (Env.put (Env.put E (some 0) (.pt 0 0 0)) (some 2) (.sl 64 none)) (some 11) (.sl 1 none)) (some 12) (.sc (.int .i64 x12))) (some 13) (.sc (.int .i64 x13))), Heap.put H0 [(2, some (.rowb .t88 h2 0)), (1, some (.rowb .t53 h1 0)), (0, some (.box [.sl 1 none, .sl 2 none, .sc (.int .i64 h0_2)])), (64, some (.rowb .t3 h64 0))], 1000⟩
noncomputable def impl_Store_sweep.s9 (x40 : Int) (x41 : Int) (h2 : List S88) (h1 : List S53) (h64 : List S88) (h0_2 : Int) (h65 : List Int) : St Ty D := ⟨(Env.put (Env.put (Env.put (Env.put E (some 0) (.pt 0 0 0)) (some 6) (.sl 65 none)) (some 40) (.sc (.int .i64 x40))) (some 41) (.sc (.int .i64 x41))), Heap.put H0 [(2, some (.rowb .t88 h2 0)), (1, some (.rowb .t53 h1 0)), (64, some (.rowb .t88 h64 0)), (0, some (.box [.sl 1 none, .sl 64 none, .sc (.int .i64 h0_2)])), (65, some (.rowb .t3 h65 0))], 1000⟩
noncomputable def impl_Store_sweep.ctx (k : Nat) : Ctx Ty D := (cons 87 (impl_SweepArena.x k) (fun _ _ _ _ => none))
mutual
noncomputable def impl_Store_sweep.c2 : Nat → Int → Int → (List S88) → (List S53) → Int → (List Int) → Option ((List S53) × (List S88) × Int × (List S88))
  | 0, _, _, _, _, _, _ => none
  | k + 1, x12, x13, h2, h1, h0_2, h64 => (if x13 < x12 then (if 0 ≤ x13 then (if x13 < (h1.length : Int) then (if h64.length + ([(rd_T53 h1 x13).f1] : List Int).length ≤ 17592186044416 then (impl_Store_sweep.c2 k x12 (w64 (x13 + 1)) h2 h1 h0_2 (h64 ++ ([(rd_T53 h1 x13).f1] : List Int))) else none) else none) else none) else ((impl_SweepArena.f k h2 h64).bind fun t1 => (impl_Store_sweep.c9 k (h1.length : Int) 0 h2 h1 t1.1 h0_2 t1.2)))
noncomputable def impl_Store_sweep.c9 : Nat → Int → Int → (List S88) → (List S53) → (List S88) → Int → (List Int) → Option ((List S53) × (List S88) × Int × (List S88))
  | 0, _, _, _, _, _, _, _ => none
  | k + 1, x40, x41, h2, h1, h64, h0_2, h65 => (if x41 < x40 then (if 0 ≤ x41 then (if x41 < (h65.length : Int) then (if 0 ≤ x41 then (if x41 < (h1.length : Int) then (impl_Store_sweep.c9 k x40 (w64 (x41 + 1)) h2 (h1.set x41.toNat (S53.mk ((rd_T53 h1 x41).f0) (rd_T3 h65 x41))) h64 h0_2 h65) else none) else none) else none) else none) else (some (h1, h64, h0_2, h2)))
end
noncomputable def impl_Store_sweep.f (k : Nat) (a0_2 : Int) (h0_0 : List S53) (h0_1 : List S88) : Option ((List S53) × (List S88) × Int × (List S88)) := (impl_Store_sweep.c2 k (h0_0.length : Int) 0 h0_1 h0_0 a0_2 ([] : List Int))
noncomputable def impl_Store_sweep.e (r : (List S53) × (List S88) × Int × (List S88)) : Res Ty D := (.tu [], [some (.box [.sl 1 none, .sl 3 none, .sc (.int .i64 r.2.2.1)]), some (.rowb .t53 r.1 0), some (.rowb .t88 r.2.2.2 0)], [.rowb .t88 r.2.1 0])
noncomputable abbrev impl_Store_sweep.g (rec : List Item → St Ty D → R) (k : Nat) := go1 Try.f48 (impl_Store_sweep.ctx k) impl_Store_sweep.sp 3 impl_Store_sweep.en rec
set_option maxRecDepth 100000 in
theorem impl_Store_sweep.t2 (rec : List Item → St Ty D → R) (k : Nat) (x12 : Int) (x13 : Int) (h2 : List S88) (h1 : List S53) (h0_2 : Int) (h64 : List Int) : impl_Store_sweep.g rec k (td Try.f48 2) (impl_Store_sweep.s2 x12 x13 h2 h1 h0_2 h64) =
  bif decide (x13 < x12) then bif decide (0 ≤ x13) then bif decide (x13 < (h1.length : Int)) then bif decide (h64.length + ([(rd_T53 h1 x13).f1] : List Int).length ≤ 17592186044416) then rec (td Try.f48 2) (impl_Store_sweep.s2 x12 (w64 (x13 + 1)) h2 h1 h0_2 (h64 ++ ([(rd_T53 h1 x13).f1] : List Int))) else none else none else none else (impl_SweepArena.f k h2 h64).bind fun t1 => rec (td Try.f48 9) (impl_Store_sweep.s9 (h1.length : Int) 0 h2 h1 t1.1 h0_2 t1.2) := by kernel_rfl
set_option maxRecDepth 100000 in
theorem impl_Store_sweep.t9 (rec : List Item → St Ty D → R) (k : Nat) (x40 : Int) (x41 : Int) (h2 : List S88) (h1 : List S53) (h64 : List S88) (h0_2 : Int) (h65 : List Int) : impl_Store_sweep.g rec k (td Try.f48 9) (impl_Store_sweep.s9 x40 x41 h2 h1 h64 h0_2 h65) =
  bif decide (x41 < x40) then bif decide (0 ≤ x41) then bif decide (x41 < (h65.length : Int)) then bif decide (0 ≤ x41) then bif decide (x41 < (h1.length : Int)) then rec (td Try.f48 9) (impl_Store_sweep.s9 x40 (w64 (x41 + 1)) h2 (h1.set x41.toNat (S53.mk ((rd_T53 h1 x41).f0) (rd_T3 h65 x41))) h64 h0_2 h65) else none else none else none else none else some (impl_Store_sweep.e (h1, h64, h0_2, h2)) := by kernel_rfl
set_option maxRecDepth 100000 in
theorem impl_Store_sweep.te (rec : List Item → St Ty D → R) (k : Nat) (a0_2 : Int) (h0_0 : List S53) (h0_1 : List S88) : impl_Store_sweep.g rec k [.code (body Try.f48)] (startSt [.pt 0 0 0] [.box [.sl 1 none, .sl 2 none, .sc (.int .i64 a0_2)], .rowb .t53 h0_0 0, .rowb .t88 h0_1 0]) =
  rec (td Try.f48 2) (impl_Store_sweep.s2 (h0_0.length : Int) 0 h0_1 h0_0 a0_2 ([] : List Int)) := by kernel_rfl
set_option maxRecDepth 100000 in
theorem impl_Store_sweep.ok : ∀ k : Nat, (∀ (x12 : Int) (x13 : Int) (h2 : List S88) (h1 : List S53) (h0_2 : Int) (h64 : List Int), goF Try.f48 impl_Store_sweep.ctx impl_Store_sweep.sp 3 impl_Store_sweep.en k (td Try.f48 2) (impl_Store_sweep.s2 x12 x13 h2 h1 h0_2 h64) = (impl_Store_sweep.c2 k x12 x13 h2 h1 h0_2 h64).map impl_Store_sweep.e) ∧ (∀ (x40 : Int) (x41 : Int) (h2 : List S88) (h1 : List S53) (h64 : List S88) (h0_2 : Int) (h65 : List Int), goF Try.f48 impl_Store_sweep.ctx impl_Store_sweep.sp 3 impl_Store_sweep.en k (td Try.f48 9) (impl_Store_sweep.s9 x40 x41 h2 h1 h64 h0_2 h65) = (impl_Store_sweep.c9 k x40 x41 h2 h1 h64 h0_2 h65).map impl_Store_sweep.e)
  | 0 => ⟨fun _ _ _ _ _ _ => rfl, fun _ _ _ _ _ _ _ => rfl⟩
  | k + 1 => by
    have ih := impl_Store_sweep.ok k
    obtain ⟨i2, i9⟩ := ih
    refine ⟨?_, ?_⟩
    · intro x12 x13 h2 h1 h0_2 h64; rw [impl_Store_sweep.c2]; exact (impl_Store_sweep.t2 _ k x12 x13 h2 h1 h0_2 h64).trans (cd (cd (cd (cd (i2 _ _ _ _ _ _) rfl) rfl) rfl) (bn (fun t1 => (i9 _ _ _ _ _ _ _))))
    · intro x40 x41 h2 h1 h64 h0_2 h65; rw [impl_Store_sweep.c9]; exact (impl_Store_sweep.t9 _ k x40 x41 h2 h1 h64 h0_2 h65).trans (cd (cd (cd (cd (cd (i9 _ _ _ _ _ _ _) rfl) rfl) rfl) rfl) rfl)
set_option maxRecDepth 100000 in
theorem impl_Store_sweep.oke (k : Nat) (a0_2 : Int) (h0_0 : List S53) (h0_1 : List S88) : goF Try.f48 impl_Store_sweep.ctx impl_Store_sweep.sp 3 impl_Store_sweep.en (k + 1) [.code (body Try.f48)] (startSt [.pt 0 0 0] [.box [.sl 1 none, .sl 2 none, .sc (.int .i64 a0_2)], .rowb .t53 h0_0 0, .rowb .t88 h0_1 0]) = (impl_Store_sweep.f k a0_2 h0_0 h0_1).map impl_Store_sweep.e := by
  obtain ⟨i2, i9⟩ := impl_Store_sweep.ok k
  rw [impl_Store_sweep.f]; exact (impl_Store_sweep.te _ k a0_2 h0_0 h0_1).trans (i2 _ _ _ _ _ _)
theorem impl_Store_sweep.con (k : Nat) (a0_2 : Int) (h0_0 : List S53) (h0_1 : List S88) (r) (h : impl_Store_sweep.f k a0_2 h0_0 h0_1 = some r) : Contract Try.prog kit 48 [.pt 0 0 0] [.box [.sl 1 none, .sl 2 none, .sc (.int .i64 a0_2)], .rowb .t53 h0_0 0, .rowb .t88 h0_1 0] (impl_Store_sweep.e r).1 (impl_Store_sweep.e r).2.1 (impl_Store_sweep.e r).2.2 :=
  con_okG kitOk mix (fun k => (CtxOk.cons (impl_SweepArena.xok k) CtxOk.nil)) (impl_Store_sweep.oke k a0_2 h0_0 h0_1) h (by kernel_rfl) (by kernel_rfl) (by kernel_rfl) rfl (by kernel_rfl) rfl rfl
noncomputable def impl_Store_sweep.x (k : Nat) : X := fun ins bs κ => match ins, bs with
  | [.pt 0 0 0], [.box [.sl 1 none, .sl 2 none, .sc (.int .i64 a0_2)], .rowb .t53 h0_0 0, .rowb .t88 h0_1 0] => (impl_Store_sweep.f k a0_2 h0_0 h0_1).bind fun r => κ (impl_Store_sweep.e r).1 (impl_Store_sweep.e r).2.1 (impl_Store_sweep.e r).2.2
  | _, _ => none
theorem impl_Store_sweep.xok (k : Nat) : XOk 48 (impl_Store_sweep.x k) := by
  intro ins bs κ res h
  unfold impl_Store_sweep.x at h
  split at h
  · obtain ⟨r, hr, h⟩ := Option.bind_eq_some_iff.1 h
    exact ⟨_, _, _, impl_Store_sweep.con k _ _ _ r hr, h⟩
  · cases h

/-! ### impl_Enter: function 13 -/
noncomputable def impl_Enter.sp : Nat → Option (Spec Ty) := fun r => none
noncomputable def impl_Enter.en : Option (Spec Ty) := some ⟨[(4, .box [.own .t53, .own .t88, .keep]), (5, .keep)], []⟩
noncomputable def impl_Enter.ctx (k : Nat) : Ctx Ty D := (cons 26 (impl_StoreOk.x k) (cons 45 (impl_copyStore.x k) (cons 46 (impl_RecOk.x k) (cons 47 (impl_Store_enter.x k) (cons 48 (impl_Store_sweep.x k) (fun _ _ _ _ => none))))))
noncomputable def impl_Enter.f (k : Nat) (a0_0 : List S53) (a0_1 : List S88) (a0_2 : Int) (a1_0 : Int) (a1_1 : Int) (a1_2 : Int) (a1_3 : Int) : Option ((List S53) × (List S88) × Int × Bool) := ((impl_copyStore.f k a0_0 a0_1 a0_2).bind fun t1 => ((impl_StoreOk.f k a0_0 a0_1 a0_2).bind fun t2 => (if t2 = true then ((impl_RecOk.f k a1_0 a1_1 a1_2 a1_3).bind fun t4 => (if t4 = true then ((impl_Store_enter.f k a1_0 a1_1 a1_2 a1_3 t1.2.2 t1.1 t1.2.1).bind (Sum.elim (fun t7 => (if t7.1 = true then ((impl_Store_sweep.f k t7.2.2.2.1 t7.2.1 t7.2.2.1).bind fun t9 => (some (t9.1, t9.2.1, t9.2.2.1, true))) else ((impl_copyStore.f k a0_0 a0_1 a0_2).bind fun t8 => (some (t8.1, t8.2.1, t8.2.2, false))))) (Sum.elim (fun t10 => (if t10.1 = true then ((impl_Store_sweep.f k t10.2.2.2 t10.2.1 t10.2.2.1).bind fun t12 => (some (t12.1, t12.2.1, t12.2.2.1, true))) else ((impl_copyStore.f k a0_0 a0_1 a0_2).bind fun t11 => (some (t11.1, t11.2.1, t11.2.2, false))))) (Sum.elim (fun t13 => (if t13.1 = true then ((impl_Store_sweep.f k t13.2.2.2 t13.2.1 t13.2.2.1).bind fun t15 => (some (t15.1, t15.2.1, t15.2.2.1, true))) else ((impl_copyStore.f k a0_0 a0_1 a0_2).bind fun t14 => (some (t14.1, t14.2.1, t14.2.2, false))))) (Sum.elim (fun t16 => (if t16.1 = true then ((impl_Store_sweep.f k t16.2.2.2.1 t16.2.1 t16.2.2.1).bind fun t18 => (some (t18.1, t18.2.1, t18.2.2.1, true))) else ((impl_copyStore.f k a0_0 a0_1 a0_2).bind fun t17 => (some (t17.1, t17.2.1, t17.2.2, false))))) (fun t19 => (if t19.1 = true then ((impl_Store_sweep.f k t19.2.2.2.1 t19.2.1 t19.2.2.1).bind fun t21 => (some (t21.1, t21.2.1, t21.2.2.1, true))) else ((impl_copyStore.f k a0_0 a0_1 a0_2).bind fun t20 => (some (t20.1, t20.2.1, t20.2.2, false)))))))))) else ((impl_copyStore.f k a0_0 a0_1 a0_2).bind fun t5 => (some (t5.1, t5.2.1, t5.2.2, false))))) else ((impl_copyStore.f k a0_0 a0_1 a0_2).bind fun t3 => (some (t3.1, t3.2.1, t3.2.2, false))))))
noncomputable def impl_Enter.e (r : (List S53) × (List S88) × Int × Bool) : Res Ty D := (.tu [.ag [.sl 0 none, .sl 1 none, .sc (.int .i64 r.2.2.1)], .sc (.bool r.2.2.2)], [], [.rowb .t53 r.1 0, .rowb .t88 r.2.1 0])
noncomputable abbrev impl_Enter.g (rec : List Item → St Ty D → R) (k : Nat) := go1 Try.f13 (impl_Enter.ctx k) impl_Enter.sp 0 impl_Enter.en rec
set_option maxRecDepth 100000 in
theorem impl_Enter.te (rec : List Item → St Ty D → R) (k : Nat) (a0_0 : List S53) (a0_1 : List S88) (a0_2 : Int) (a1_0 : Int) (a1_1 : Int) (a1_2 : Int) (a1_3 : Int) : impl_Enter.g rec k [.code (body Try.f13)] (startSt [.ag [.row 0 .t53 a0_0, .row 0 .t88 a0_1, .sc (.int .i64 a0_2)], .ag [.sc (.int .i64 a1_0), .sc (.int .i64 a1_1), .sc (.int .i64 a1_2), .sc (.int .i64 a1_3)]] []) =
  (impl_copyStore.f k a0_0 a0_1 a0_2).bind fun t1 => (impl_StoreOk.f k a0_0 a0_1 a0_2).bind fun t2 => bif !t2 then (impl_copyStore.f k a0_0 a0_1 a0_2).bind fun t3 => some (impl_Enter.e (t3.1, t3.2.1, t3.2.2, false)) else (impl_RecOk.f k a1_0 a1_1 a1_2 a1_3).bind fun t4 => bif !t4 then (impl_copyStore.f k a0_0 a0_1 a0_2).bind fun t5 => some (impl_Enter.e (t5.1, t5.2.1, t5.2.2, false)) else (impl_Store_enter.f k a1_0 a1_1 a1_2 a1_3 t1.2.2 t1.1 t1.2.1).bind (Sum.elim (fun t7 => bif !t7.1 then (impl_copyStore.f k a0_0 a0_1 a0_2).bind fun t8 => some (impl_Enter.e (t8.1, t8.2.1, t8.2.2, false)) else (impl_Store_sweep.f k t7.2.2.2.1 t7.2.1 t7.2.2.1).bind fun t9 => some (impl_Enter.e (t9.1, t9.2.1, t9.2.2.1, true))) (Sum.elim (fun t10 => bif !t10.1 then (impl_copyStore.f k a0_0 a0_1 a0_2).bind fun t11 => some (impl_Enter.e (t11.1, t11.2.1, t11.2.2, false)) else (impl_Store_sweep.f k t10.2.2.2 t10.2.1 t10.2.2.1).bind fun t12 => some (impl_Enter.e (t12.1, t12.2.1, t12.2.2.1, true))) (Sum.elim (fun t13 => bif !t13.1 then (impl_copyStore.f k a0_0 a0_1 a0_2).bind fun t14 => some (impl_Enter.e (t14.1, t14.2.1, t14.2.2, false)) else (impl_Store_sweep.f k t13.2.2.2 t13.2.1 t13.2.2.1).bind fun t15 => some (impl_Enter.e (t15.1, t15.2.1, t15.2.2.1, true))) (Sum.elim (fun t16 => bif !t16.1 then (impl_copyStore.f k a0_0 a0_1 a0_2).bind fun t17 => some (impl_Enter.e (t17.1, t17.2.1, t17.2.2, false)) else (impl_Store_sweep.f k t16.2.2.2.1 t16.2.1 t16.2.2.1).bind fun t18 => some (impl_Enter.e (t18.1, t18.2.1, t18.2.2.1, true))) (fun t19 => bif !t19.1 then (impl_copyStore.f k a0_0 a0_1 a0_2).bind fun t20 => some (impl_Enter.e (t20.1, t20.2.1, t20.2.2, false)) else (impl_Store_sweep.f k t19.2.2.2.1 t19.2.1 t19.2.2.1).bind fun t21 => some (impl_Enter.e (t21.1, t21.2.1, t21.2.2.1, true))))))) := by kernel_rfl
set_option maxRecDepth 100000 in
theorem impl_Enter.oke (k : Nat) (a0_0 : List S53) (a0_1 : List S88) (a0_2 : Int) (a1_0 : Int) (a1_1 : Int) (a1_2 : Int) (a1_3 : Int) : goF Try.f13 impl_Enter.ctx impl_Enter.sp 0 impl_Enter.en (k + 1) [.code (body Try.f13)] (startSt [.ag [.row 0 .t53 a0_0, .row 0 .t88 a0_1, .sc (.int .i64 a0_2)], .ag [.sc (.int .i64 a1_0), .sc (.int .i64 a1_1), .sc (.int .i64 a1_2), .sc (.int .i64 a1_3)]] []) = (impl_Enter.f k a0_0 a0_1 a0_2 a1_0 a1_1 a1_2 a1_3).map impl_Enter.e := by
  rw [impl_Enter.f]; exact (impl_Enter.te _ k a0_0 a0_1 a0_2 a1_0 a1_1 a1_2 a1_3).trans (bn (fun t1 => (bn (fun t2 => (nb (bn (fun t3 => rfl)) (bn (fun t4 => (nb (bn (fun t5 => rfl)) (bn (el (fun t7 => (nb (bn (fun t8 => rfl)) (bn (fun t9 => rfl)))) (el (fun t10 => (nb (bn (fun t11 => rfl)) (bn (fun t12 => rfl)))) (el (fun t13 => (nb (bn (fun t14 => rfl)) (bn (fun t15 => rfl)))) (el (fun t16 => (nb (bn (fun t17 => rfl)) (bn (fun t18 => rfl)))) (fun t19 => (nb (bn (fun t20 => rfl)) (bn (fun t21 => rfl)))))))))))))))))
theorem impl_Enter.con (k : Nat) (a0_0 : List S53) (a0_1 : List S88) (a0_2 : Int) (a1_0 : Int) (a1_1 : Int) (a1_2 : Int) (a1_3 : Int) (r) (h : impl_Enter.f k a0_0 a0_1 a0_2 a1_0 a1_1 a1_2 a1_3 = some r) : Contract Try.prog kit 13 [.ag [.row 0 .t53 a0_0, .row 0 .t88 a0_1, .sc (.int .i64 a0_2)], .ag [.sc (.int .i64 a1_0), .sc (.int .i64 a1_1), .sc (.int .i64 a1_2), .sc (.int .i64 a1_3)]] [] (impl_Enter.e r).1 (impl_Enter.e r).2.1 (impl_Enter.e r).2.2 :=
  con_okG kitOk mix (fun k => (CtxOk.cons (impl_StoreOk.xok k) (CtxOk.cons (impl_copyStore.xok k) (CtxOk.cons (impl_RecOk.xok k) (CtxOk.cons (impl_Store_enter.xok k) (CtxOk.cons (impl_Store_sweep.xok k) CtxOk.nil)))))) (impl_Enter.oke k a0_0 a0_1 a0_2 a1_0 a1_1 a1_2 a1_3) h (by kernel_rfl) (by kernel_rfl) (by kernel_rfl) rfl (by kernel_rfl) rfl rfl
noncomputable def impl_Enter.x (k : Nat) : X := fun ins bs κ => match ins, bs with
  | [.ag [.row 0 .t53 a0_0, .row 0 .t88 a0_1, .sc (.int .i64 a0_2)], .ag [.sc (.int .i64 a1_0), .sc (.int .i64 a1_1), .sc (.int .i64 a1_2), .sc (.int .i64 a1_3)]], [] => (impl_Enter.f k a0_0 a0_1 a0_2 a1_0 a1_1 a1_2 a1_3).bind fun r => κ (impl_Enter.e r).1 (impl_Enter.e r).2.1 (impl_Enter.e r).2.2
  | _, _ => none
theorem impl_Enter.xok (k : Nat) : XOk 13 (impl_Enter.x k) := by
  intro ins bs κ res h
  unfold impl_Enter.x at h
  split at h
  · obtain ⟨r, hr, h⟩ := Option.bind_eq_some_iff.1 h
    exact ⟨_, _, _, impl_Enter.con k _ _ _ _ _ _ _ r hr, h⟩
  · cases h
end Go.Proofs.Yteideicglgpfiaa.M2

/- Plain runs of functions: each is a plain Lean function, and keeps its contract. Written by a program of this session. -/
namespace Go.Proofs.Yteideicglgpfiaa.M2
open Go Go.Proofs.Yteideicglgpfiaa.PK
set_option linter.unusedVariables false
set_option linter.unusedSimpArgs false
set_option maxHeartbeats 4000000
/-! ### impl_EnterAll: function 27 -/
noncomputable def impl_EnterAll.sp : Nat → Option (Spec Ty) := fun r => bif Nat.beq r 3 then some ⟨[(2, .box [.keep, .keep, .keep]), (4, .box [.own .t53, .own .t88, .keep]), (6, .box [.own .t53, .own .t88, .keep]), (13, .keep), (14, .keep), (15, .keep)], []⟩ else none
noncomputable def impl_EnterAll.en : Option (Spec Ty) := some ⟨[(4, .box [.own .t53, .own .t88, .keep]), (5, .keep)], []⟩
noncomputable def impl_EnterAll.s3 (x13 : List S40) (x14 : Int) (x15 : Int) (h64_0 : List S53) (h64_1 : List S88) (h64_2 : Int) (h66 : List S53) (h67 : List S88) (h65_2 : Int) (h69 : List S53) (h70 : List S88) (h68_2 : Int) : St Ty D := ⟨(Env.put (Env.put (Env.put (Env.put (Env.put (Env.put E (some 2) (.pt 64 0 0)) (some 4) (.pt 65 0 0)) (some 6) (.pt 68 0 0)) (some 13) (.row 0 .t40 x13)) (some 14) (.sc (.int .i64 x14))) (some 15) (.sc (.int .i64 x15))), Heap.put H0 [(64, some (.box [.row 0 .t53 h64_0, .row 0 .t88 h64_1, .sc (.int .i64 h64_2)])), (66, some (.rowb .t53 h66 0)), (67, some (.rowb .t88 h67 0)), (65, some (.box [.sl 66 none, .sl 67 none, .sc (.int .i64 h65_2)])), (69, some (.rowb .t53 h69 0)), (70, some (.rowb .t88 h70 0)), (68, some (.box [.sl 69 none, .sl 70 none, .sc (.int .i64 h68_2)]))], 1000⟩
noncomputable def impl_EnterAll.ctx (k : Nat) : Ctx Ty D := (cons 13 (impl_Enter.x k) (cons 45 (impl_copyStore.x k) (fun _ _ _ _ => none)))
noncomputable def impl_EnterAll.c3 : Nat → (List S40) → Int → Int → (List S53) → (List S88) → Int → (List S53) → (List S88) → Int → (List S53) → (List S88) → Int → Option ((List S53) × (List S88) × Int × Bool)
  | 0, _, _, _, _, _, _, _, _, _, _, _, _ => none
  | k + 1, x13, x14, x15, h64_0, h64_1, h64_2, h66, h67, h65_2, h69, h70, h68_2 => (if x15 < x14 then (if 0 ≤ x15 then (if x15 < (x13.length : Int) then ((impl_Enter.f k h69 h70 h68_2 ((rd_T40 x13 x15).f0) ((rd_T40 x13 x15).f1) ((rd_T40 x13 x15).f2) ((rd_T40 x13 x15).f3)).bind fun t2 => (if t2.2.2.2 = true then (impl_EnterAll.c3 k x13 x14 (w64 (x15 + 1)) h64_0 h64_1 h64_2 h66 h67 h65_2 t2.1 t2.2.1 t2.2.2.1) else ((impl_copyStore.f k h64_0 h64_1 h64_2).bind fun t3 => (some (t3.1, t3.2.1, t3.2.2, false))))) else none) else none) else (some (h69, h70, h68_2, true)))
noncomputable def impl_EnterAll.f (k : Nat) (a0_0 : List S53) (a0_1 : List S88) (a0_2 : Int) (a1 : List S40) : Option ((List S53) × (List S88) × Int × Bool) := ((impl_copyStore.f k a0_0 a0_1 a0_2).bind fun t1 => (impl_EnterAll.c3 k a1 (a1.length : Int) 0 a0_0 a0_1 a0_2 ([] : List S53) ([] : List S88) 0 t1.1 t1.2.1 t1.2.2))
noncomputable def impl_EnterAll.e (r : (List S53) × (List S88) × Int × Bool) : Res Ty D := (.tu [.ag [.sl 0 none, .sl 1 none, .sc (.int .i64 r.2.2.1)], .sc (.bool r.2.2.2)], [], [.rowb .t53 r.1 0, .rowb .t88 r.2.1 0])
noncomputable abbrev impl_EnterAll.g (rec : List Item → St Ty D → R) (k : Nat) := go1 Try.f27 (impl_EnterAll.ctx k) impl_EnterAll.sp 0 impl_EnterAll.en rec
set_option maxRecDepth 100000 in
theorem impl_EnterAll.t3 (rec : List Item → St Ty D → R) (k : Nat) (x13 : List S40) (x14 : Int) (x15 : Int) (h64_0 : List S53) (h64_1 : List S88) (h64_2 : Int) (h66 : List S53) (h67 : List S88) (h65_2 : Int) (h69 : List S53) (h70 : List S88) (h68_2 : Int) : impl_EnterAll.g rec k (td Try.f27 3) (impl_EnterAll.s3 x13 x14 x15 h64_0 h64_1 h64_2 h66 h67 h65_2 h69 h70 h68_2) =
  bif decide (x15 < x14) then bif decide (0 ≤ x15) then bif decide (x15 < (x13.length : Int)) then (impl_Enter.f k h69 h70 h68_2 ((rd_T40 x13 x15).f0) ((rd_T40 x13 x15).f1) ((rd_T40 x13 x15).f2) ((rd_T40 x13 x15).f3)).bind fun t2 => bif !t2.2.2.2 then (impl_copyStore.f k h64_0 h64_1 h64_2).bind fun t3 => some (impl_EnterAll.e (t3.1, t3.2.1, t3.2.2, false)) else rec (td Try.f27 3) (impl_EnterAll.s3 x13 x14 (w64 (x15 + 1)) h64_0 h64_1 h64_2 h66 h67 h65_2 t2.1 t2.2.1 t2.2.2.1) else none else none else some (impl_EnterAll.e (h69, h70, h68_2, true)) := by kernel_rfl
set_option maxRecDepth 100000 in
theorem impl_EnterAll.te (rec : List Item → St Ty D → R) (k : Nat) (a0_0 : List S53) (a0_1 : List S88) (a0_2 : Int) (a1 : List S40) : impl_EnterAll.g rec k [.code (body Try.f27)] (startSt [.ag [.row 0 .t53 a0_0, .row 0 .t88 a0_1, .sc (.int .i64 a0_2)], .row 0 .t40 a1] []) =
  (impl_copyStore.f k a0_0 a0_1 a0_2).bind fun t1 => rec (td Try.f27 3) (impl_EnterAll.s3 a1 (a1.length : Int) 0 a0_0 a0_1 a0_2 ([] : List S53) ([] : List S88) 0 t1.1 t1.2.1 t1.2.2) := by kernel_rfl
set_option maxRecDepth 100000 in
theorem impl_EnterAll.ok : ∀ k : Nat, (∀ (x13 : List S40) (x14 : Int) (x15 : Int) (h64_0 : List S53) (h64_1 : List S88) (h64_2 : Int) (h66 : List S53) (h67 : List S88) (h65_2 : Int) (h69 : List S53) (h70 : List S88) (h68_2 : Int), goF Try.f27 impl_EnterAll.ctx impl_EnterAll.sp 0 impl_EnterAll.en k (td Try.f27 3) (impl_EnterAll.s3 x13 x14 x15 h64_0 h64_1 h64_2 h66 h67 h65_2 h69 h70 h68_2) = (impl_EnterAll.c3 k x13 x14 x15 h64_0 h64_1 h64_2 h66 h67 h65_2 h69 h70 h68_2).map impl_EnterAll.e)
  | 0 => fun _ _ _ _ _ _ _ _ _ _ _ _ => rfl
  | k + 1 => by
    have ih := impl_EnterAll.ok k
    have i3 := ih
    intro x13 x14 x15 h64_0 h64_1 h64_2 h66 h67 h65_2 h69 h70 h68_2; rw [impl_EnterAll.c3]; exact (impl_EnterAll.t3 _ k x13 x14 x15 h64_0 h64_1 h64_2 h66 h67 h65_2 h69 h70 h68_2).trans (cd (cd (cd (bn (fun t2 => (nb (bn (fun t3 => rfl)) (i3 _ _ _ _ _ _ _ _ _ _ _ _)))) rfl) rfl) rfl)
set_option maxRecDepth 100000 in
theorem impl_EnterAll.oke (k : Nat) (a0_0 : List S53) (a0_1 : List S88) (a0_2 : Int) (a1 : List S40) : goF Try.f27 impl_EnterAll.ctx impl_EnterAll.sp 0 impl_EnterAll.en (k + 1) [.code (body Try.f27)] (startSt [.ag [.row 0 .t53 a0_0, .row 0 .t88 a0_1, .sc (.int .i64 a0_2)], .row 0 .t40 a1] []) = (impl_EnterAll.f k a0_0 a0_1 a0_2 a1).map impl_EnterAll.e := by
  have i3 := impl_EnterAll.ok k
  rw [impl_EnterAll.f]; exact (impl_EnterAll.te _ k a0_0 a0_1 a0_2 a1).trans (bn (fun t1 => (i3 _ _ _ _ _ _ _ _ _ _ _ _)))
theorem impl_EnterAll.con (k : Nat) (a0_0 : List S53) (a0_1 : List S88) (a0_2 : Int) (a1 : List S40) (r) (h : impl_EnterAll.f k a0_0 a0_1 a0_2 a1 = some r) : Contract Try.prog kit 27 [.ag [.row 0 .t53 a0_0, .row 0 .t88 a0_1, .sc (.int .i64 a0_2)], .row 0 .t40 a1] [] (impl_EnterAll.e r).1 (impl_EnterAll.e r).2.1 (impl_EnterAll.e r).2.2 :=
  con_okG kitOk mix (fun k => (CtxOk.cons (impl_Enter.xok k) (CtxOk.cons (impl_copyStore.xok k) CtxOk.nil))) (impl_EnterAll.oke k a0_0 a0_1 a0_2 a1) h (by kernel_rfl) (by kernel_rfl) (by kernel_rfl) rfl (by kernel_rfl) rfl rfl
noncomputable def impl_EnterAll.x (k : Nat) : X := fun ins bs κ => match ins, bs with
  | [.ag [.row 0 .t53 a0_0, .row 0 .t88 a0_1, .sc (.int .i64 a0_2)], .row 0 .t40 a1], [] => (impl_EnterAll.f k a0_0 a0_1 a0_2 a1).bind fun r => κ (impl_EnterAll.e r).1 (impl_EnterAll.e r).2.1 (impl_EnterAll.e r).2.2
  | _, _ => none
theorem impl_EnterAll.xok (k : Nat) : XOk 27 (impl_EnterAll.x k) := by
  intro ins bs κ res h
  unfold impl_EnterAll.x at h
  split at h
  · obtain ⟨r, hr, h⟩ := Option.bind_eq_some_iff.1 h
    exact ⟨_, _, _, impl_EnterAll.con k _ _ _ _ r hr, h⟩
  · cases h

/-! ### spec_DrawPlaces: function 28 -/
noncomputable def spec_DrawPlaces.sp : Nat → Option (Spec Ty) := fun r => bif Nat.beq r 5 then some ⟨[(3, .box [.keep, .keep, .keep]), (4, .own .t3), (5, .keep)], []⟩ else none
noncomputable def spec_DrawPlaces.en : Option (Spec Ty) := some ⟨[(2, .own .t3)], []⟩
noncomputable def spec_DrawPlaces.s5 (x5 : Int) (h64_0 : List Int) (h64_1 : Int) (h64_2 : Int) (h65 : List Int) : St Ty D := ⟨(Env.put (Env.put (Env.put E (some 3) (.pt 64 0 0)) (some 4) (.sl 65 none)) (some 5) (.sc (.int .i64 x5))), Heap.put H0 [(64, some (.box [.row 0 .t5 h64_0, .sc (.int .i64 h64_1), .sc (.int .i64 h64_2)])), (65, some (.rowb .t3 h65 0))], 1000⟩
noncomputable def spec_DrawPlaces.ctx (k : Nat) : Ctx Ty D := (cons 55 (spec_l01New.x k) (cons 59 (spec_l01Below.x k) (cons 72 (spec_l01Byte.x k) (fun _ _ _ _ => none))))
noncomputable def spec_DrawPlaces.c5 : Nat → Int → (List Int) → Int → Int → (List Int) → Option ((List Int))
  | 0, _, _, _, _, _ => none
  | k + 1, x5, h64_0, h64_1, h64_2, h65 => (if x5 < 12 then ((spec_l01Below.f k 10000 h64_0 h64_1 h64_2).bind fun t3 => (if h65.length + ([t3.1] : List Int).length ≤ 17592186044416 then (spec_DrawPlaces.c5 k (w64 (x5 + 1)) t3.2.1 t3.2.2.1 t3.2.2.2 (h65 ++ ([t3.1] : List Int))) else none)) else (some (h65)))
noncomputable def spec_DrawPlaces.f (k : Nat) (a0 : List Int) : Option ((List Int)) := ((spec_l01New.f k a0).bind fun t1 => ((spec_l01Byte.f k t1.1 t1.2.1 t1.2.2).bind fun t2 => (spec_DrawPlaces.c5 k 0 t2.2.1 t2.2.2.1 t2.2.2.2 ([] : List Int))))
noncomputable def spec_DrawPlaces.e (r : (List Int)) : Res Ty D := (.sl 0 none, [], [.rowb .t3 r 0])
noncomputable abbrev spec_DrawPlaces.g (rec : List Item → St Ty D → R) (k : Nat) := go1 Try.f28 (spec_DrawPlaces.ctx k) spec_DrawPlaces.sp 0 spec_DrawPlaces.en rec
set_option maxRecDepth 100000 in
theorem spec_DrawPlaces.t5 (rec : List Item → St Ty D → R) (k : Nat) (x5 : Int) (h64_0 : List Int) (h64_1 : Int) (h64_2 : Int) (h65 : List Int) : spec_DrawPlaces.g rec k (td Try.f28 5) (spec_DrawPlaces.s5 x5 h64_0 h64_1 h64_2 h65) =
  bif decide (x5 < 12) then (spec_l01Below.f k 10000 h64_0 h64_1 h64_2).bind fun t3 => bif decide (h65.length + ([t3.1] : List Int).length ≤ 17592186044416) then rec (td Try.f28 5) (spec_DrawPlaces.s5 (w64 (x5 + 1)) t3.2.1 t3.2.2.1 t3.2.2.2 (h65 ++ ([t3.1] : List Int))) else none else some (spec_DrawPlaces.e (h65)) := by kernel_rfl
set_option maxRecDepth 100000 in
theorem spec_DrawPlaces.te (rec : List Item → St Ty D → R) (k : Nat) (a0 : List Int) : spec_DrawPlaces.g rec k [.code (body Try.f28)] (startSt [.row 0 .t5 a0] []) =
  (spec_l01New.f k a0).bind fun t1 => (spec_l01Byte.f k t1.1 t1.2.1 t1.2.2).bind fun t2 => rec (td Try.f28 5) (spec_DrawPlaces.s5 0 t2.2.1 t2.2.2.1 t2.2.2.2 ([] : List Int)) := by kernel_rfl
set_option maxRecDepth 100000 in
theorem spec_DrawPlaces.ok : ∀ k : Nat, (∀ (x5 : Int) (h64_0 : List Int) (h64_1 : Int) (h64_2 : Int) (h65 : List Int), goF Try.f28 spec_DrawPlaces.ctx spec_DrawPlaces.sp 0 spec_DrawPlaces.en k (td Try.f28 5) (spec_DrawPlaces.s5 x5 h64_0 h64_1 h64_2 h65) = (spec_DrawPlaces.c5 k x5 h64_0 h64_1 h64_2 h65).map spec_DrawPlaces.e)
  | 0 => fun _ _ _ _ _ => rfl
  | k + 1 => by
    have ih := spec_DrawPlaces.ok k
    have i5 := ih
    intro x5 h64_0 h64_1 h64_2 h65; rw [spec_DrawPlaces.c5]; exact (spec_DrawPlaces.t5 _ k x5 h64_0 h64_1 h64_2 h65).trans (cd (bn (fun t3 => (cd (i5 _ _ _ _ _) rfl))) rfl)
set_option maxRecDepth 100000 in
theorem spec_DrawPlaces.oke (k : Nat) (a0 : List Int) : goF Try.f28 spec_DrawPlaces.ctx spec_DrawPlaces.sp 0 spec_DrawPlaces.en (k + 1) [.code (body Try.f28)] (startSt [.row 0 .t5 a0] []) = (spec_DrawPlaces.f k a0).map spec_DrawPlaces.e := by
  have i5 := spec_DrawPlaces.ok k
  rw [spec_DrawPlaces.f]; exact (spec_DrawPlaces.te _ k a0).trans (bn (fun t1 => (bn (fun t2 => (i5 _ _ _ _ _)))))
theorem spec_DrawPlaces.con (k : Nat) (a0 : List Int) (r) (h : spec_DrawPlaces.f k a0 = some r) : Contract Try.prog kit 28 [.row 0 .t5 a0] [] (spec_DrawPlaces.e r).1 (spec_DrawPlaces.e r).2.1 (spec_DrawPlaces.e r).2.2 :=
  con_okG kitOk mix (fun k => (CtxOk.cons (spec_l01New.xok k) (CtxOk.cons (spec_l01Below.xok k) (CtxOk.cons (spec_l01Byte.xok k) CtxOk.nil)))) (spec_DrawPlaces.oke k a0) h (by kernel_rfl) (by kernel_rfl) (by kernel_rfl) rfl (by kernel_rfl) rfl rfl
noncomputable def spec_DrawPlaces.x (k : Nat) : X := fun ins bs κ => match ins, bs with
  | [.row 0 .t5 a0], [] => (spec_DrawPlaces.f k a0).bind fun r => κ (spec_DrawPlaces.e r).1 (spec_DrawPlaces.e r).2.1 (spec_DrawPlaces.e r).2.2
  | _, _ => none
theorem spec_DrawPlaces.xok (k : Nat) : XOk 28 (spec_DrawPlaces.x k) := by
  intro ins bs κ res h
  unfold spec_DrawPlaces.x at h
  split at h
  · obtain ⟨r, hr, h⟩ := Option.bind_eq_some_iff.1 h
    exact ⟨_, _, _, spec_DrawPlaces.con k _ r hr, h⟩
  · cases h

/-! ### impl_BaseRecs: function 30 -/
noncomputable def impl_BaseRecs.sp : Nat → Option (Spec Ty) := fun r => bif Nat.beq r 3 then some ⟨[(1, .box [.keep, .keep, .keep]), (3, .own .t40), (13, .keep), (14, .keep), (15, .keep)], []⟩ else bif Nat.beq r 7 then some ⟨[(1, .box [.keep, .keep, .keep]), (3, .own .t40), (5, .box [.keep, .keep]), (13, .keep), (14, .keep), (15, .keep), (29, .own .t3), (30, .keep), (31, .keep)], []⟩ else none
noncomputable def impl_BaseRecs.en : Option (Spec Ty) := some ⟨[(2, .own .t40)], []⟩
noncomputable def impl_BaseRecs.s3 (x13 : List S53) (x14 : Int) (x15 : Int) (h64_0 : List S53) (h64_1 : List S88) (h64_2 : Int) (h65 : List S40) : St Ty D := ⟨(Env.put (Env.put (Env.put (Env.put (Env.put E (some 1) (.pt 64 0 0)) (some 3) (.sl 65 none)) (some 13) (.row 0 .t53 x13)) (some 14) (.sc (.int .i64 x14))) (some 15) (.sc (.int .i64 x15))), Heap.put H0 [(64, some (.box [.row 0 .t53 h64_0, .row 0 .t88 h64_1, .sc (.int .i64 h64_2)])), (65, some (.rowb .t40 h65 0))], 1000⟩
noncomputable def impl_BaseRecs.s7 (x13 : List S53) (x14 : Int) (x15 : Int) (x30 : Int) (x31 : Int) (h64_0 : List S53) (h64_1 : List S88) (h64_2 : Int) (h65 : List S40) (h66_0 : Int) (h66_1 : Int) (h67 : List Int) : St Ty D := ⟨(Env.put (Env.put (Env.put (Env.put (Env.put (Env.put (Env.put (Env.put (Env.put E (some 1) (.pt 64 0 0)) (some 3) (.sl 65 none)) (some 5) (.pt 66 0 0)) (some 13) (.row 0 .t53 x13)) (some 14) (.sc (.int .i64 x14))) (some 15) (.sc (.int .i64 x15))) (some 29) (.sl 67 none)) (some 30) (.sc (.int .i64 x30))) (some 31) (.sc (.int .i64 x31))), Heap.put H0 [(64, some (.box [.row 0 .t53 h64_0, .row 0 .t88 h64_1, .sc (.int .i64 h64_2)])), (65, some (.rowb .t40 h65 0)), (66, some (.box [.sc (.int .i64 h66_0), .sc (.int .i64 h66_1)])), (67, some (.rowb .t3 h67 0))], 1000⟩
noncomputable def impl_BaseRecs.ctx (k : Nat) : Ctx Ty D := (cons 66 (impl_AllAt.x k) (fun _ _ _ _ => none))
mutual
noncomputable def impl_BaseRecs.c3 : Nat → (List S53) → Int → Int → (List S53) → (List S88) → Int → (List S40) → Option ((List S40))
  | 0, _, _, _, _, _, _, _ => none
  | k + 1, x13, x14, x15, h64_0, h64_1, h64_2, h65 => (if x15 < x14 then (if 0 ≤ x15 then (if x15 < (x13.length : Int) then (if h65.length + ([(S40.mk 2 ((rd_T53 x13 x15).f0) 0 0)] : List S40).length ≤ 4398046511104 then ((impl_AllAt.f k h64_1 ((rd_T53 x13 x15).f1)).bind fun t1 => (impl_BaseRecs.c7 k x13 x14 x15 (t1.length : Int) 0 h64_0 h64_1 h64_2 (h65 ++ ([(S40.mk 2 ((rd_T53 x13 x15).f0) 0 0)] : List S40)) ((rd_T53 x13 x15).f0) ((rd_T53 x13 x15).f1) t1)) else none) else none) else none) else (some (h65)))
noncomputable def impl_BaseRecs.c7 : Nat → (List S53) → Int → Int → Int → Int → (List S53) → (List S88) → Int → (List S40) → Int → Int → (List Int) → Option ((List S40))
  | 0, _, _, _, _, _, _, _, _, _, _, _, _ => none
  | k + 1, x13, x14, x15, x30, x31, h64_0, h64_1, h64_2, h65, h66_0, h66_1, h67 => (if x31 < x30 then (if 0 ≤ x31 then (if x31 < (h67.length : Int) then (if (rd_T3 h67 x31) > 0 then (if h65.length + ([(S40.mk 4 h66_0 x31 (rd_T3 h67 x31))] : List S40).length ≤ 4398046511104 then (impl_BaseRecs.c7 k x13 x14 x15 x30 (w64 (x31 + 1)) h64_0 h64_1 h64_2 (h65 ++ ([(S40.mk 4 h66_0 x31 (rd_T3 h67 x31))] : List S40)) h66_0 h66_1 h67) else none) else (impl_BaseRecs.c7 k x13 x14 x15 x30 (w64 (x31 + 1)) h64_0 h64_1 h64_2 h65 h66_0 h66_1 h67)) else none) else none) else (impl_BaseRecs.c3 k x13 x14 (w64 (x15 + 1)) h64_0 h64_1 h64_2 h65))
end
noncomputable def impl_BaseRecs.f (k : Nat) (a0_0 : List S53) (a0_1 : List S88) (a0_2 : Int) : Option ((List S40)) := (impl_BaseRecs.c3 k a0_0 (a0_0.length : Int) 0 a0_0 a0_1 a0_2 ([(S40.mk 1 0 a0_2 0)] : List S40))
noncomputable def impl_BaseRecs.e (r : (List S40)) : Res Ty D := (.sl 0 none, [], [.rowb .t40 r 0])
noncomputable abbrev impl_BaseRecs.g (rec : List Item → St Ty D → R) (k : Nat) := go1 Try.f30 (impl_BaseRecs.ctx k) impl_BaseRecs.sp 0 impl_BaseRecs.en rec
set_option maxRecDepth 100000 in
theorem impl_BaseRecs.t3 (rec : List Item → St Ty D → R) (k : Nat) (x13 : List S53) (x14 : Int) (x15 : Int) (h64_0 : List S53) (h64_1 : List S88) (h64_2 : Int) (h65 : List S40) : impl_BaseRecs.g rec k (td Try.f30 3) (impl_BaseRecs.s3 x13 x14 x15 h64_0 h64_1 h64_2 h65) =
  bif decide (x15 < x14) then bif decide (0 ≤ x15) then bif decide (x15 < (x13.length : Int)) then bif decide (h65.length + ([(S40.mk 2 ((rd_T53 x13 x15).f0) 0 0)] : List S40).length ≤ 4398046511104) then (impl_AllAt.f k h64_1 ((rd_T53 x13 x15).f1)).bind fun t1 => rec (td Try.f30 7) (impl_BaseRecs.s7 x13 x14 x15 (t1.length : Int) 0 h64_0 h64_1 h64_2 (h65 ++ ([(S40.mk 2 ((rd_T53 x13 x15).f0) 0 0)] : List S40)) ((rd_T53 x13 x15).f0) ((rd_T53 x13 x15).f1) t1) else none else none else none else some (impl_BaseRecs.e (h65)) := by kernel_rfl
set_option maxRecDepth 100000 in
theorem impl_BaseRecs.t7 (rec : List Item → St Ty D → R) (k : Nat) (x13 : List S53) (x14 : Int) (x15 : Int) (x30 : Int) (x31 : Int) (h64_0 : List S53) (h64_1 : List S88) (h64_2 : Int) (h65 : List S40) (h66_0 : Int) (h66_1 : Int) (h67 : List Int) : impl_BaseRecs.g rec k (td Try.f30 7) (impl_BaseRecs.s7 x13 x14 x15 x30 x31 h64_0 h64_1 h64_2 h65 h66_0 h66_1 h67) =
  bif decide (x31 < x30) then bif decide (0 ≤ x31) then bif decide (x31 < (h67.length : Int)) then bif decide ((rd_T3 h67 x31) > 0) then bif decide (h65.length + ([(S40.mk 4 h66_0 x31 (rd_T3 h67 x31))] : List S40).length ≤ 4398046511104) then rec (td Try.f30 7) (impl_BaseRecs.s7 x13 x14 x15 x30 (w64 (x31 + 1)) h64_0 h64_1 h64_2 (h65 ++ ([(S40.mk 4 h66_0 x31 (rd_T3 h67 x31))] : List S40)) h66_0 h66_1 h67) else none else rec (td Try.f30 7) (impl_BaseRecs.s7 x13 x14 x15 x30 (w64 (x31 + 1)) h64_0 h64_1 h64_2 h65 h66_0 h66_1 h67) else none else none else rec (td Try.f30 3) (impl_BaseRecs.s3 x13 x14 (w64 (x15 + 1)) h64_0 h64_1 h64_2 h65) := by kernel_rfl
set_option maxRecDepth 100000 in
theorem impl_BaseRecs.te (rec : List Item → St Ty D → R) (k : Nat) (a0_0 : List S53) (a0_1 : List S88) (a0_2 : Int) : impl_BaseRecs.g rec k [.code (body Try.f30)] (startSt [.ag [.row 0 .t53 a0_0, .row 0 .t88 a0_1, .sc (.int .i64 a0_2)]] []) =
  rec (td Try.f30 3) (impl_BaseRecs.s3 a0_0 (a0_0.length : Int) 0 a0_0 a0_1 a0_2 ([(S40.mk 1 0 a0_2 0)] : List S40)) := by kernel_rfl
set_option maxRecDepth 100000 in
theorem impl_BaseRecs.ok : ∀ k : Nat, (∀ (x13 : List S53) (x14 : Int) (x15 : Int) (h64_0 : List S53) (h64_1 : List S88) (h64_2 : Int) (h65 : List S40), goF Try.f30 impl_BaseRecs.ctx impl_BaseRecs.sp 0 impl_BaseRecs.en k (td Try.f30 3) (impl_BaseRecs.s3 x13 x14 x15 h64_0 h64_1 h64_2 h65) = (impl_BaseRecs.c3 k x13 x14 x15 h64_0 h64_1 h64_2 h65).map impl_BaseRecs.e) ∧ (∀ (x13 : List S53) (x14 : Int) (x15 : Int) (x30 : Int) (x31 : Int) (h64_0 : List S53) (h64_1 : List S88) (h64_2 : Int) (h65 : List S40) (h66_0 : Int) (h66_1 : Int) (h67 : List Int), goF Try.f30 impl_BaseRecs.ctx impl_BaseRecs.sp 0 impl_BaseRecs.en k (td Try.f30 7) (impl_BaseRecs.s7 x13 x14 x15 x30 x31 h64_0 h64_1 h64_2 h65 h66_0 h66_1 h67) = (impl_BaseRecs.c7 k x13 x14 x15 x30 x31 h64_0 h64_1 h64_2 h65 h66_0 h66_1 h67).map impl_BaseRecs.e)
  | 0 => ⟨fun _ _ _ _ _ _ _ => rfl, fun _ _ _ _ _ _ _ _ _ _ _ _ => rfl⟩
  | k + 1 => by
    have ih := impl_BaseRecs.ok k
    obtain ⟨i3, i7⟩ := ih
    refine ⟨?_, ?_⟩
    · intro x13 x14 x15 h64_0 h64_1 h64_2 h65; rw [impl_BaseRecs.c3]; exact (impl_BaseRecs.t3 _ k x13 x14 x15 h64_0 h64_1 h64_2 h65).trans (cd (cd (cd (cd (bn (fun t1 => (i7 _ _ _ _ _ _ _ _ _ _ _ _))) rfl) rfl) rfl) rfl)
    · intro x13 x14 x15 x30 x31 h64_0 h64_1 h64_2 h65 h66_0 h66_1 h67; rw [impl_BaseRecs.c7]; exact (impl_BaseRecs.t7 _ k x13 x14 x15 x30 x31 h64_0 h64_1 h64_2 h65 h66_0 h66_1 h67).trans (cd (cd (cd (cd (cd (i7 _ _ _ _ _ _ _ _ _ _ _ _) rfl) (i7 _ _ _ _ _ _ _ _ _ _ _ _)) rfl) rfl) (i3 _ _ _ _ _ _ _))
set_option maxRecDepth 100000 in
theorem impl_BaseRecs.oke (k : Nat) (a0_0 : List S53) (a0_1 : List S88) (a0_2 : Int) : goF Try.f30 impl_BaseRecs.ctx impl_BaseRecs.sp 0 impl_BaseRecs.en (k + 1) [.code (body Try.f30)] (startSt [.ag [.row 0 .t53 a0_0, .row 0 .t88 a0_1, .sc (.int .i64 a0_2)]] []) = (impl_BaseRecs.f k a0_0 a0_1 a0_2).map impl_BaseRecs.e := by
  obtain ⟨i3, i7⟩ := impl_BaseRecs.ok k
  rw [impl_BaseRecs.f]; exact (impl_BaseRecs.te _ k a0_0 a0_1 a0_2).trans (i3 _ _ _ _ _ _ _)
theorem impl_BaseRecs.con (k : Nat) (a0_0 : List S53) (a0_1 : List S88) (a0_2 : Int) (r) (h : impl_BaseRecs.f k a0_0 a0_1 a0_2 = some r) : Contract Try.prog kit 30 [.ag [.row 0 .t53 a0_0, .row 0 .t88 a0_1, .sc (.int .i64 a0_2)]] [] (impl_BaseRecs.e r).1 (impl_BaseRecs.e r).2.1 (impl_BaseRecs.e r).2.2 :=
  con_okG kitOk mix (fun k => (CtxOk.cons (impl_AllAt.xok k) CtxOk.nil)) (impl_BaseRecs.oke k a0_0 a0_1 a0_2) h (by kernel_rfl) (by kernel_rfl) (by kernel_rfl) rfl (by kernel_rfl) rfl rfl
noncomputable def impl_BaseRecs.x (k : Nat) : X := fun ins bs κ => match ins, bs with
  | [.ag [.row 0 .t53 a0_0, .row 0 .t88 a0_1, .sc (.int .i64 a0_2)]], [] => (impl_BaseRecs.f k a0_0 a0_1 a0_2).bind fun r => κ (impl_BaseRecs.e r).1 (impl_BaseRecs.e r).2.1 (impl_BaseRecs.e r).2.2
  | _, _ => none
theorem impl_BaseRecs.xok (k : Nat) : XOk 30 (impl_BaseRecs.x k) := by
  intro ins bs κ res h
  unfold impl_BaseRecs.x at h
  split at h
  · obtain ⟨r, hr, h⟩ := Option.bind_eq_some_iff.1 h
    exact ⟨_, _, _, impl_BaseRecs.con k _ _ _ r hr, h⟩
  · cases h

/-! ### impl_StoreNew: function 31 -/
noncomputable def impl_StoreNew.sp : Nat → Option (Spec Ty) := fun r => none
noncomputable def impl_StoreNew.en : Option (Spec Ty) := some ⟨[(0, .box [.own .t53, .own .t88, .keep])], []⟩
noncomputable def impl_StoreNew.ctx (k : Nat) : Ctx Ty D := (fun _ _ _ _ => none)
noncomputable def impl_StoreNew.f (k : Nat) : Option ((List S53) × (List S88) × Int) := (some (([] : List S53), ([] : List S88), 1))
noncomputable def impl_StoreNew.e (r : (List S53) × (List S88) × Int) : Res Ty D := (.ag [.sl 0 none, .sl 1 none, .sc (.int .i64 r.2.2)], [], [.rowb .t53 r.1 0, .rowb .t88 r.2.1 0])
noncomputable abbrev impl_StoreNew.g (rec : List Item → St Ty D → R) (k : Nat) := go1 Try.f31 (impl_StoreNew.ctx k) impl_StoreNew.sp 0 impl_StoreNew.en rec
set_option maxRecDepth 100000 in
theorem impl_StoreNew.te (rec : List Item → St Ty D → R) (k : Nat) : impl_StoreNew.g rec k [.code (body Try.f31)] (startSt [] []) =
  some (impl_StoreNew.e (([] : List S53), ([] : List S88), 1)) := by kernel_rfl
set_option maxRecDepth 100000 in
theorem impl_StoreNew.oke (k : Nat) : goF Try.f31 impl_StoreNew.ctx impl_StoreNew.sp 0 impl_StoreNew.en (k + 1) [.code (body Try.f31)] (startSt [] []) = (impl_StoreNew.f k).map impl_StoreNew.e := by
  rw [impl_StoreNew.f]; exact (impl_StoreNew.te _ k).trans rfl
theorem impl_StoreNew.con (k : Nat) (r) (h : impl_StoreNew.f k = some r) : Contract Try.prog kit 31 [] [] (impl_StoreNew.e r).1 (impl_StoreNew.e r).2.1 (impl_StoreNew.e r).2.2 :=
  con_okG kitOk mix (fun k => CtxOk.nil) (impl_StoreNew.oke k) h (by kernel_rfl) (by kernel_rfl) (by kernel_rfl) rfl (by kernel_rfl) rfl rfl
noncomputable def impl_StoreNew.x (k : Nat) : X := fun ins bs κ => match ins, bs with
  | [], [] => (impl_StoreNew.f k).bind fun r => κ (impl_StoreNew.e r).1 (impl_StoreNew.e r).2.1 (impl_StoreNew.e r).2.2
  | _, _ => none
theorem impl_StoreNew.xok (k : Nat) : XOk 31 (impl_StoreNew.x k) := by
  intro ins bs κ res h
  unfold impl_StoreNew.x at h
  split at h
  · obtain ⟨r, hr, h⟩ := Option.bind_eq_some_iff.1 h
    exact ⟨_, _, _, impl_StoreNew.con k r hr, h⟩
  · cases h

/-! ### laws_sameRecs: function 32 -/
noncomputable def laws_sameRecs.sp : Nat → Option (Spec Ty) := fun r => bif Nat.beq r 4 then some ⟨[(0, .keep), (1, .keep), (5, .keep)], []⟩ else none
noncomputable def laws_sameRecs.en : Option (Spec Ty) := none
noncomputable def laws_sameRecs.s4 (x0 : List S40) (x1 : List S40) (x5 : Int) : St Ty D := ⟨(Env.put (Env.put (Env.put E (some 0) (.row 0 .t40 x0)) (some 1) (.row 0 .t40 x1)) (some 5) (.sc (.int .i64 x5))), H0, 1000⟩
noncomputable def laws_sameRecs.ctx (k : Nat) : Ctx Ty D := (fun _ _ _ _ => none)
noncomputable def laws_sameRecs.c4 : Nat → (List S40) → (List S40) → Int → Option (Bool)
  | 0, _, _, _ => none
  | k + 1, x0, x1, x5 => (if x5 < (x0.length : Int) then (if 0 ≤ x5 then (if x5 < (x0.length : Int) then (if 0 ≤ x5 then (if x5 < (x1.length : Int) then (if ((decide (((rd_T40 x0 x5).f0) = ((rd_T40 x1 x5).f0))) && ((decide (((rd_T40 x0 x5).f1) = ((rd_T40 x1 x5).f1))) && ((decide (((rd_T40 x0 x5).f2) = ((rd_T40 x1 x5).f2))) && (decide (((rd_T40 x0 x5).f3) = ((rd_T40 x1 x5).f3)))))) = true then (laws_sameRecs.c4 k x0 x1 (w64 (x5 + 1))) else (some (false))) else none) else none) else none) else none) else (some (true)))
noncomputable def laws_sameRecs.f (k : Nat) (a0 : List S40) (a1 : List S40) : Option (Bool) := (if (a0.length : Int) = (a1.length : Int) then (laws_sameRecs.c4 k a0 a1 0) else (some (false)))
noncomputable def laws_sameRecs.e (r : Bool) : Res Ty D := (.sc (.bool r), [], [])
noncomputable abbrev laws_sameRecs.g (rec : List Item → St Ty D → R) (k : Nat) := go1 Try.f32 (laws_sameRecs.ctx k) laws_sameRecs.sp 0 laws_sameRecs.en rec
set_option maxRecDepth 100000 in
theorem laws_sameRecs.t4 (rec : List Item → St Ty D → R) (k : Nat) (x0 : List S40) (x1 : List S40) (x5 : Int) : laws_sameRecs.g rec k (td Try.f32 4) (laws_sameRecs.s4 x0 x1 x5) =
  bif decide (x5 < (x0.length : Int)) then bif decide (0 ≤ x5) then bif decide (x5 < (x0.length : Int)) then bif decide (0 ≤ x5) then bif decide (x5 < (x1.length : Int)) then bif !((decide (((rd_T40 x0 x5).f0) = ((rd_T40 x1 x5).f0))) && ((decide (((rd_T40 x0 x5).f1) = ((rd_T40 x1 x5).f1))) && ((decide (((rd_T40 x0 x5).f2) = ((rd_T40 x1 x5).f2))) && (decide (((rd_T40 x0 x5).f3) = ((rd_T40 x1 x5).f3)))))) then some (laws_sameRecs.e (false)) else rec (td Try.f32 4) (laws_sameRecs.s4 x0 x1 (w64 (x5 + 1))) else none else none else none else none else some (laws_sameRecs.e (true)) := by kernel_rfl
set_option maxRecDepth 100000 in
theorem laws_sameRecs.te (rec : List Item → St Ty D → R) (k : Nat) (a0 : List S40) (a1 : List S40) : laws_sameRecs.g rec k [.code (body Try.f32)] (startSt [.row 0 .t40 a0, .row 0 .t40 a1] []) =
  bif !decide ((a0.length : Int) = (a1.length : Int)) then some (laws_sameRecs.e (false)) else rec (td Try.f32 4) (laws_sameRecs.s4 a0 a1 0) := by kernel_rfl
set_option maxRecDepth 100000 in
theorem laws_sameRecs.ok : ∀ k : Nat, (∀ (x0 : List S40) (x1 : List S40) (x5 : Int), goF Try.f32 laws_sameRecs.ctx laws_sameRecs.sp 0 laws_sameRecs.en k (td Try.f32 4) (laws_sameRecs.s4 x0 x1 x5) = (laws_sameRecs.c4 k x0 x1 x5).map laws_sameRecs.e)
  | 0 => fun _ _ _ => rfl
  | k + 1 => by
    have ih := laws_sameRecs.ok k
    have i4 := ih
    intro x0 x1 x5; rw [laws_sameRecs.c4]; exact (laws_sameRecs.t4 _ k x0 x1 x5).trans (cd (cd (cd (cd (cd (nb rfl (i4 _ _ _)) rfl) rfl) rfl) rfl) rfl)
set_option maxRecDepth 100000 in
theorem laws_sameRecs.oke (k : Nat) (a0 : List S40) (a1 : List S40) : goF Try.f32 laws_sameRecs.ctx laws_sameRecs.sp 0 laws_sameRecs.en (k + 1) [.code (body Try.f32)] (startSt [.row 0 .t40 a0, .row 0 .t40 a1] []) = (laws_sameRecs.f k a0 a1).map laws_sameRecs.e := by
  have i4 := laws_sameRecs.ok k
  rw [laws_sameRecs.f]; exact (laws_sameRecs.te _ k a0 a1).trans (nd rfl (i4 _ _ _))
theorem laws_sameRecs.con (k : Nat) (a0 : List S40) (a1 : List S40) (r) (h : laws_sameRecs.f k a0 a1 = some r) : Contract Try.prog kit 32 [.row 0 .t40 a0, .row 0 .t40 a1] [] (laws_sameRecs.e r).1 (laws_sameRecs.e r).2.1 (laws_sameRecs.e r).2.2 :=
  con_okG kitOk mix (fun k => CtxOk.nil) (laws_sameRecs.oke k a0 a1) h (by kernel_rfl) (by kernel_rfl) (by kernel_rfl) rfl (by kernel_rfl) rfl rfl
noncomputable def laws_sameRecs.x (k : Nat) : X := fun ins bs κ => match ins, bs with
  | [.row 0 .t40 a0, .row 0 .t40 a1], [] => (laws_sameRecs.f k a0 a1).bind fun r => κ (laws_sameRecs.e r).1 (laws_sameRecs.e r).2.1 (laws_sameRecs.e r).2.2
  | _, _ => none
theorem laws_sameRecs.xok (k : Nat) : XOk 32 (laws_sameRecs.x k) := by
  intro ins bs κ res h
  unfold laws_sameRecs.x at h
  split at h
  · obtain ⟨r, hr, h⟩ := Option.bind_eq_some_iff.1 h
    exact ⟨_, _, _, laws_sameRecs.con k _ _ r hr, h⟩
  · cases h

/-! ### spec_GetAt: function 73 -/
noncomputable def spec_GetAt.sp : Nat → Option (Spec Ty) := fun r => none
noncomputable def spec_GetAt.en : Option (Spec Ty) := none
noncomputable def spec_GetAt.ctx (k : Nat) : Ctx Ty D := (cons 75 (spec_ArenaOk.x k) (cons 76 (spec_l01In.x k) (cons 77 (spec_l11Root.x k) (cons 78 (spec_l11Get.x k) (fun _ _ _ _ => none)))))
noncomputable def spec_GetAt.f (k : Nat) (a0_0 : List S88) (a1 : Int) (a2 : Int) : Option (Int) := ((spec_ArenaOk.f k a0_0).bind fun t1 => (if t1 = true then ((spec_l11Root.f k a0_0 a1).bind fun t2 => (if t2 = true then ((spec_l01In.f k a2 0 15).bind fun t3 => (if t3 = true then ((spec_l11Get.f k a0_0 a1 a2).bind fun t4 => (some (t4))) else (some (0)))) else (some (0)))) else (some (0))))
noncomputable def spec_GetAt.e (r : Int) : Res Ty D := (.sc (.int .i64 r), [], [])
noncomputable abbrev spec_GetAt.g (rec : List Item → St Ty D → R) (k : Nat) := go1 Try.f73 (spec_GetAt.ctx k) spec_GetAt.sp 0 spec_GetAt.en rec
set_option maxRecDepth 100000 in
theorem spec_GetAt.te (rec : List Item → St Ty D → R) (k : Nat) (a0_0 : List S88) (a1 : Int) (a2 : Int) : spec_GetAt.g rec k [.code (body Try.f73)] (startSt [.ag [.row 0 .t88 a0_0], .sc (.int .i64 a1), .sc (.int .i64 a2)] []) =
  (spec_ArenaOk.f k a0_0).bind fun t1 => bif !t1 then some (spec_GetAt.e (0)) else (spec_l11Root.f k a0_0 a1).bind fun t2 => bif !t2 then some (spec_GetAt.e (0)) else (spec_l01In.f k a2 0 15).bind fun t3 => bif !t3 then some (spec_GetAt.e (0)) else (spec_l11Get.f k a0_0 a1 a2).bind fun t4 => some (spec_GetAt.e (t4)) := by kernel_rfl
set_option maxRecDepth 100000 in
theorem spec_GetAt.oke (k : Nat) (a0_0 : List S88) (a1 : Int) (a2 : Int) : goF Try.f73 spec_GetAt.ctx spec_GetAt.sp 0 spec_GetAt.en (k + 1) [.code (body Try.f73)] (startSt [.ag [.row 0 .t88 a0_0], .sc (.int .i64 a1), .sc (.int .i64 a2)] []) = (spec_GetAt.f k a0_0 a1 a2).map spec_GetAt.e := by
  rw [spec_GetAt.f]; exact (spec_GetAt.te _ k a0_0 a1 a2).trans (bn (fun t1 => (nb rfl (bn (fun t2 => (nb rfl (bn (fun t3 => (nb rfl (bn (fun t4 => rfl)))))))))))
theorem spec_GetAt.con (k : Nat) (a0_0 : List S88) (a1 : Int) (a2 : Int) (r) (h : spec_GetAt.f k a0_0 a1 a2 = some r) : Contract Try.prog kit 73 [.ag [.row 0 .t88 a0_0], .sc (.int .i64 a1), .sc (.int .i64 a2)] [] (spec_GetAt.e r).1 (spec_GetAt.e r).2.1 (spec_GetAt.e r).2.2 :=
  con_okG kitOk mix (fun k => (CtxOk.cons (spec_ArenaOk.xok k) (CtxOk.cons (spec_l01In.xok k) (CtxOk.cons (spec_l11Root.xok k) (CtxOk.cons (spec_l11Get.xok k) CtxOk.nil))))) (spec_GetAt.oke k a0_0 a1 a2) h (by kernel_rfl) (by kernel_rfl) (by kernel_rfl) rfl (by kernel_rfl) rfl rfl
noncomputable def spec_GetAt.x (k : Nat) : X := fun ins bs κ => match ins, bs with
  | [.ag [.row 0 .t88 a0_0], .sc (.int .i64 a1), .sc (.int .i64 a2)], [] => (spec_GetAt.f k a0_0 a1 a2).bind fun r => κ (spec_GetAt.e r).1 (spec_GetAt.e r).2.1 (spec_GetAt.e r).2.2
  | _, _ => none
theorem spec_GetAt.xok (k : Nat) : XOk 73 (spec_GetAt.x k) := by
  intro ins bs κ res h
  unfold spec_GetAt.x at h
  split at h
  · obtain ⟨r, hr, h⟩ := Option.bind_eq_some_iff.1 h
    exact ⟨_, _, _, spec_GetAt.con k _ _ _ r hr, h⟩
  · cases h

/-! ### spec_AllAt: function 62 -/
noncomputable def spec_AllAt.sp : Nat → Option (Spec Ty) := fun r => bif Nat.beq r 3 then some ⟨[(1, .keep), (2, .box [.keep]), (5, .own .t3), (6, .keep)], []⟩ else none
noncomputable def spec_AllAt.en : Option (Spec Ty) := some ⟨[(4, .own .t3)], []⟩
noncomputable def spec_AllAt.s3 (x1 : Int) (x6 : Int) (h64_0 : List S88) (h65 : List Int) : St Ty D := ⟨(Env.put (Env.put (Env.put (Env.put E (some 1) (.sc (.int .i64 x1))) (some 2) (.pt 64 0 0)) (some 5) (.sl 65 none)) (some 6) (.sc (.int .i64 x6))), Heap.put H0 [(64, some (.box [.row 0 .t88 h64_0])), (65, some (.rowb .t3 h65 0))], 1000⟩
noncomputable def spec_AllAt.ctx (k : Nat) : Ctx Ty D := (cons 73 (spec_GetAt.x k) (fun _ _ _ _ => none))
noncomputable def spec_AllAt.c3 : Nat → Int → Int → (List S88) → (List Int) → Option ((List Int))
  | 0, _, _, _, _ => none
  | k + 1, x1, x6, h64_0, h65 => (if x6 < 16 then ((spec_GetAt.f k h64_0 x1 x6).bind fun t1 => (if h65.length + ([t1] : List Int).length ≤ 17592186044416 then (spec_AllAt.c3 k x1 (w64 (x6 + 1)) h64_0 (h65 ++ ([t1] : List Int))) else none)) else (some (h65)))
noncomputable def spec_AllAt.f (k : Nat) (a0_0 : List S88) (a1 : Int) : Option ((List Int)) := (spec_AllAt.c3 k a1 0 a0_0 ([] : List Int))
noncomputable def spec_AllAt.e (r : (List Int)) : Res Ty D := (.sl 0 none, [], [.rowb .t3 r 0])
noncomputable abbrev spec_AllAt.g (rec : List Item → St Ty D → R) (k : Nat) := go1 Try.f62 (spec_AllAt.ctx k) spec_AllAt.sp 0 spec_AllAt.en rec
set_option maxRecDepth 100000 in
theorem spec_AllAt.t3 (rec : List Item → St Ty D → R) (k : Nat) (x1 : Int) (x6 : Int) (h64_0 : List S88) (h65 : List Int) : spec_AllAt.g rec k (td Try.f62 3) (spec_AllAt.s3 x1 x6 h64_0 h65) =
  bif decide (x6 < 16) then (spec_GetAt.f k h64_0 x1 x6).bind fun t1 => bif decide (h65.length + ([t1] : List Int).length ≤ 17592186044416) then rec (td Try.f62 3) (spec_AllAt.s3 x1 (w64 (x6 + 1)) h64_0 (h65 ++ ([t1] : List Int))) else none else some (spec_AllAt.e (h65)) := by kernel_rfl
set_option maxRecDepth 100000 in
theorem spec_AllAt.te (rec : List Item → St Ty D → R) (k : Nat) (a0_0 : List S88) (a1 : Int) : spec_AllAt.g rec k [.code (body Try.f62)] (startSt [.ag [.row 0 .t88 a0_0], .sc (.int .i64 a1)] []) =
  rec (td Try.f62 3) (spec_AllAt.s3 a1 0 a0_0 ([] : List Int)) := by kernel_rfl
set_option maxRecDepth 100000 in
theorem spec_AllAt.ok : ∀ k : Nat, (∀ (x1 : Int) (x6 : Int) (h64_0 : List S88) (h65 : List Int), goF Try.f62 spec_AllAt.ctx spec_AllAt.sp 0 spec_AllAt.en k (td Try.f62 3) (spec_AllAt.s3 x1 x6 h64_0 h65) = (spec_AllAt.c3 k x1 x6 h64_0 h65).map spec_AllAt.e)
  | 0 => fun _ _ _ _ => rfl
  | k + 1 => by
    have ih := spec_AllAt.ok k
    have i3 := ih
    intro x1 x6 h64_0 h65; rw [spec_AllAt.c3]; exact (spec_AllAt.t3 _ k x1 x6 h64_0 h65).trans (cd (bn (fun t1 => (cd (i3 _ _ _ _) rfl))) rfl)
set_option maxRecDepth 100000 in
theorem spec_AllAt.oke (k : Nat) (a0_0 : List S88) (a1 : Int) : goF Try.f62 spec_AllAt.ctx spec_AllAt.sp 0 spec_AllAt.en (k + 1) [.code (body Try.f62)] (startSt [.ag [.row 0 .t88 a0_0], .sc (.int .i64 a1)] []) = (spec_AllAt.f k a0_0 a1).map spec_AllAt.e := by
  have i3 := spec_AllAt.ok k
  rw [spec_AllAt.f]; exact (spec_AllAt.te _ k a0_0 a1).trans (i3 _ _ _ _)
theorem spec_AllAt.con (k : Nat) (a0_0 : List S88) (a1 : Int) (r) (h : spec_AllAt.f k a0_0 a1 = some r) : Contract Try.prog kit 62 [.ag [.row 0 .t88 a0_0], .sc (.int .i64 a1)] [] (spec_AllAt.e r).1 (spec_AllAt.e r).2.1 (spec_AllAt.e r).2.2 :=
  con_okG kitOk mix (fun k => (CtxOk.cons (spec_GetAt.xok k) CtxOk.nil)) (spec_AllAt.oke k a0_0 a1) h (by kernel_rfl) (by kernel_rfl) (by kernel_rfl) rfl (by kernel_rfl) rfl rfl
noncomputable def spec_AllAt.x (k : Nat) : X := fun ins bs κ => match ins, bs with
  | [.ag [.row 0 .t88 a0_0], .sc (.int .i64 a1)], [] => (spec_AllAt.f k a0_0 a1).bind fun r => κ (spec_AllAt.e r).1 (spec_AllAt.e r).2.1 (spec_AllAt.e r).2.2
  | _, _ => none
theorem spec_AllAt.xok (k : Nat) : XOk 62 (spec_AllAt.x k) := by
  intro ins bs κ res h
  unfold spec_AllAt.x at h
  split at h
  · obtain ⟨r, hr, h⟩ := Option.bind_eq_some_iff.1 h
    exact ⟨_, _, _, spec_AllAt.con k _ _ r hr, h⟩
  · cases h

/-! ### spec_BaseRecs: function 33 -/
noncomputable def spec_BaseRecs.sp : Nat → Option (Spec Ty) := fun r => bif Nat.beq r 3 then some ⟨[(1, .box [.keep, .keep, .keep]), (3, .own .t40), (4, .keep)], []⟩ else bif Nat.beq r 8 then some ⟨[(1, .box [.keep, .keep, .keep]), (3, .own .t40), (4, .keep), (5, .own .t3), (6, .keep)], []⟩ else none
noncomputable def spec_BaseRecs.en : Option (Spec Ty) := some ⟨[(2, .own .t40)], []⟩
noncomputable def spec_BaseRecs.s3 (x4 : Int) (h64_0 : List S53) (h64_1 : List S88) (h64_2 : Int) (h65 : List S40) : St Ty D := ⟨(Env.put (Env.put (Env.put E (some 1) (.pt 64 0 0)) (some 3) (.sl 65 none)) (some 4) (.sc (.int .i64 x4))), Heap.put H0 [(64, some (.box [.row 0 .t53 h64_0, .row 0 .t88 h64_1, .sc (.int .i64 h64_2)])), (65, some (.rowb .t40 h65 0))], 1000⟩
noncomputable def spec_BaseRecs.s8 (x4 : Int) (x6 : Int) (h64_0 : List S53) (h64_1 : List S88) (h64_2 : Int) (h65 : List S40) (h66 : List Int) : St Ty D := ⟨(Env.put (Env.put (Env.put (Env.put (Env.put E (some 1) (.pt 64 0 0)) (some 3) (.sl 65 none)) (some 4) (.sc (.int .i64 x4))) (some 5) (.sl 66 none)) (some 6) (.sc (.int .i64 x6))), Heap.put H0 [(64, some (.box [.row 0 .t53 h64_0, .row 0 .t88 h64_1, .sc (.int .i64 h64_2)])), (65, some (.rowb .t40 h65 0)), (66, some (.rowb .t3 h66 0))], 1000⟩
noncomputable def spec_BaseRecs.ctx (k : Nat) : Ctx Ty D := (cons 62 (spec_AllAt.x k) (fun _ _ _ _ => none))
mutual
noncomputable def spec_BaseRecs.c3 : Nat → Int → (List S53) → (List S88) → Int → (List S40) → Option ((List S40))
  | 0, _, _, _, _, _ => none
  | k + 1, x4, h64_0, h64_1, h64_2, h65 => (if x4 < (h64_0.length : Int) then (if 0 ≤ x4 then (if x4 < (h64_0.length : Int) then (if h65.length + ([(S40.mk 2 ((rd_T53 h64_0 x4).f0) 0 0)] : List S40).length ≤ 4398046511104 then (if 0 ≤ x4 then (if x4 < (h64_0.length : Int) then ((spec_AllAt.f k h64_1 ((rd_T53 h64_0 x4).f1)).bind fun t1 => (spec_BaseRecs.c8 k x4 0 h64_0 h64_1 h64_2 (h65 ++ ([(S40.mk 2 ((rd_T53 h64_0 x4).f0) 0 0)] : List S40)) t1)) else none) else none) else none) else none) else none) else (some (h65)))
noncomputable def spec_BaseRecs.c8 : Nat → Int → Int → (List S53) → (List S88) → Int → (List S40) → (List Int) → Option ((List S40))
  | 0, _, _, _, _, _, _, _ => none
  | k + 1, x4, x6, h64_0, h64_1, h64_2, h65, h66 => (if x6 < (h66.length : Int) then (if 0 ≤ x6 then (if x6 < (h66.length : Int) then (if (rd_T3 h66 x6) > 0 then (if 0 ≤ x4 then (if x4 < (h64_0.length : Int) then (if 0 ≤ x6 then (if x6 < (h66.length : Int) then (if h65.length + ([(S40.mk 4 ((rd_T53 h64_0 x4).f0) x6 (rd_T3 h66 x6))] : List S40).length ≤ 4398046511104 then (spec_BaseRecs.c8 k x4 (w64 (x6 + 1)) h64_0 h64_1 h64_2 (h65 ++ ([(S40.mk 4 ((rd_T53 h64_0 x4).f0) x6 (rd_T3 h66 x6))] : List S40)) h66) else none) else none) else none) else none) else none) else (spec_BaseRecs.c8 k x4 (w64 (x6 + 1)) h64_0 h64_1 h64_2 h65 h66)) else none) else none) else (spec_BaseRecs.c3 k (w64 (x4 + 1)) h64_0 h64_1 h64_2 h65))
end
noncomputable def spec_BaseRecs.f (k : Nat) (a0_0 : List S53) (a0_1 : List S88) (a0_2 : Int) : Option ((List S40)) := (spec_BaseRecs.c3 k 0 a0_0 a0_1 a0_2 ([(S40.mk 1 0 a0_2 0)] : List S40))
noncomputable def spec_BaseRecs.e (r : (List S40)) : Res Ty D := (.sl 0 none, [], [.rowb .t40 r 0])
noncomputable abbrev spec_BaseRecs.g (rec : List Item → St Ty D → R) (k : Nat) := go1 Try.f33 (spec_BaseRecs.ctx k) spec_BaseRecs.sp 0 spec_BaseRecs.en rec
set_option maxRecDepth 100000 in
theorem spec_BaseRecs.t3 (rec : List Item → St Ty D → R) (k : Nat) (x4 : Int) (h64_0 : List S53) (h64_1 : List S88) (h64_2 : Int) (h65 : List S40) : spec_BaseRecs.g rec k (td Try.f33 3) (spec_BaseRecs.s3 x4 h64_0 h64_1 h64_2 h65) =
  bif decide (x4 < (h64_0.length : Int)) then bif decide (0 ≤ x4) then bif decide (x4 < (h64_0.length : Int)) then bif decide (h65.length + ([(S40.mk 2 ((rd_T53 h64_0 x4).f0) 0 0)] : List S40).length ≤ 4398046511104) then bif decide (0 ≤ x4) then bif decide (x4 < (h64_0.length : Int)) then (spec_AllAt.f k h64_1 ((rd_T53 h64_0 x4).f1)).bind fun t1 => rec (td Try.f33 8) (spec_BaseRecs.s8 x4 0 h64_0 h64_1 h64_2 (h65 ++ ([(S40.mk 2 ((rd_T53 h64_0 x4).f0) 0 0)] : List S40)) t1) else none else none else none else none else none else some (spec_BaseRecs.e (h65)) := by kernel_rfl
set_option maxRecDepth 100000 in
theorem spec_BaseRecs.t8 (rec : List Item → St Ty D → R) (k : Nat) (x4 : Int) (x6 : Int) (h64_0 : List S53) (h64_1 : List S88) (h64_2 : Int) (h65 : List S40) (h66 : List Int) : spec_BaseRecs.g rec k (td Try.f33 8) (spec_BaseRecs.s8 x4 x6 h64_0 h64_1 h64_2 h65 h66) =
  bif decide (x6 < (h66.length : Int)) then bif decide (0 ≤ x6) then bif decide (x6 < (h66.length : Int)) then bif decide ((rd_T3 h66 x6) > 0) then bif decide (0 ≤ x4) then bif decide (x4 < (h64_0.length : Int)) then bif decide (0 ≤ x6) then bif decide (x6 < (h66.length : Int)) then bif decide (h65.length + ([(S40.mk 4 ((rd_T53 h64_0 x4).f0) x6 (rd_T3 h66 x6))] : List S40).length ≤ 4398046511104) then rec (td Try.f33 8) (spec_BaseRecs.s8 x4 (w64 (x6 + 1)) h64_0 h64_1 h64_2 (h65 ++ ([(S40.mk 4 ((rd_T53 h64_0 x4).f0) x6 (rd_T3 h66 x6))] : List S40)) h66) else none else none else none else none else none else rec (td Try.f33 8) (spec_BaseRecs.s8 x4 (w64 (x6 + 1)) h64_0 h64_1 h64_2 h65 h66) else none else none else rec (td Try.f33 3) (spec_BaseRecs.s3 (w64 (x4 + 1)) h64_0 h64_1 h64_2 h65) := by kernel_rfl
set_option maxRecDepth 100000 in
theorem spec_BaseRecs.te (rec : List Item → St Ty D → R) (k : Nat) (a0_0 : List S53) (a0_1 : List S88) (a0_2 : Int) : spec_BaseRecs.g rec k [.code (body Try.f33)] (startSt [.ag [.row 0 .t53 a0_0, .row 0 .t88 a0_1, .sc (.int .i64 a0_2)]] []) =
  rec (td Try.f33 3) (spec_BaseRecs.s3 0 a0_0 a0_1 a0_2 ([(S40.mk 1 0 a0_2 0)] : List S40)) := by kernel_rfl
set_option maxRecDepth 100000 in
theorem spec_BaseRecs.ok : ∀ k : Nat, (∀ (x4 : Int) (h64_0 : List S53) (h64_1 : List S88) (h64_2 : Int) (h65 : List S40), goF Try.f33 spec_BaseRecs.ctx spec_BaseRecs.sp 0 spec_BaseRecs.en k (td Try.f33 3) (spec_BaseRecs.s3 x4 h64_0 h64_1 h64_2 h65) = (spec_BaseRecs.c3 k x4 h64_0 h64_1 h64_2 h65).map spec_BaseRecs.e) ∧ (∀ (x4 : Int) (x6 : Int) (h64_0 : List S53) (h64_1 : List S88) (h64_2 : Int) (h65 : List S40) (h66 : List Int), goF Try.f33 spec_BaseRecs.ctx spec_BaseRecs.sp 0 spec_BaseRecs.en k (td Try.f33 8) (spec_BaseRecs.s8 x4 x6 h64_0 h64_1 h64_2 h65 h66) = (spec_BaseRecs.c8 k x4 x6 h64_0 h64_1 h64_2 h65 h66).map spec_BaseRecs.e)
  | 0 => ⟨fun _ _ _ _ _ => rfl, fun _ _ _ _ _ _ _ => rfl⟩
  | k + 1 => by
    have ih := spec_BaseRecs.ok k
    obtain ⟨i3, i8⟩ := ih
    refine ⟨?_, ?_⟩
    · intro x4 h64_0 h64_1 h64_2 h65; rw [spec_BaseRecs.c3]; exact (spec_BaseRecs.t3 _ k x4 h64_0 h64_1 h64_2 h65).trans (cd (cd (cd (cd (cd (cd (bn (fun t1 => (i8 _ _ _ _ _ _ _))) rfl) rfl) rfl) rfl) rfl) rfl)
    · intro x4 x6 h64_0 h64_1 h64_2 h65 h66; rw [spec_BaseRecs.c8]; exact (spec_BaseRecs.t8 _ k x4 x6 h64_0 h64_1 h64_2 h65 h66).trans (cd (cd (cd (cd (cd (cd (cd (cd (cd (i8 _ _ _ _ _ _ _) rfl) rfl) rfl) rfl) rfl) (i8 _ _ _ _ _ _ _)) rfl) rfl) (i3 _ _ _ _ _))
set_option maxRecDepth 100000 in
theorem spec_BaseRecs.oke (k : Nat) (a0_0 : List S53) (a0_1 : List S88) (a0_2 : Int) : goF Try.f33 spec_BaseRecs.ctx spec_BaseRecs.sp 0 spec_BaseRecs.en (k + 1) [.code (body Try.f33)] (startSt [.ag [.row 0 .t53 a0_0, .row 0 .t88 a0_1, .sc (.int .i64 a0_2)]] []) = (spec_BaseRecs.f k a0_0 a0_1 a0_2).map spec_BaseRecs.e := by
  obtain ⟨i3, i8⟩ := spec_BaseRecs.ok k
  rw [spec_BaseRecs.f]; exact (spec_BaseRecs.te _ k a0_0 a0_1 a0_2).trans (i3 _ _ _ _ _)
theorem spec_BaseRecs.con (k : Nat) (a0_0 : List S53) (a0_1 : List S88) (a0_2 : Int) (r) (h : spec_BaseRecs.f k a0_0 a0_1 a0_2 = some r) : Contract Try.prog kit 33 [.ag [.row 0 .t53 a0_0, .row 0 .t88 a0_1, .sc (.int .i64 a0_2)]] [] (spec_BaseRecs.e r).1 (spec_BaseRecs.e r).2.1 (spec_BaseRecs.e r).2.2 :=
  con_okG kitOk mix (fun k => (CtxOk.cons (spec_AllAt.xok k) CtxOk.nil)) (spec_BaseRecs.oke k a0_0 a0_1 a0_2) h (by kernel_rfl) (by kernel_rfl) (by kernel_rfl) rfl (by kernel_rfl) rfl rfl
noncomputable def spec_BaseRecs.x (k : Nat) : X := fun ins bs κ => match ins, bs with
  | [.ag [.row 0 .t53 a0_0, .row 0 .t88 a0_1, .sc (.int .i64 a0_2)]], [] => (spec_BaseRecs.f k a0_0 a0_1 a0_2).bind fun r => κ (spec_BaseRecs.e r).1 (spec_BaseRecs.e r).2.1 (spec_BaseRecs.e r).2.2
  | _, _ => none
theorem spec_BaseRecs.xok (k : Nat) : XOk 33 (spec_BaseRecs.x k) := by
  intro ins bs κ res h
  unfold spec_BaseRecs.x at h
  split at h
  · obtain ⟨r, hr, h⟩ := Option.bind_eq_some_iff.1 h
    exact ⟨_, _, _, spec_BaseRecs.con k _ _ _ r hr, h⟩
  · cases h
end Go.Proofs.Yteideicglgpfiaa.M2

/- Plain runs of functions: each is a plain Lean function, and keeps its contract. Written by a program of this session. -/
namespace Go.Proofs.Yteideicglgpfiaa.M2
open Go Go.Proofs.Yteideicglgpfiaa.PK
set_option linter.unusedVariables false
set_option linter.unusedSimpArgs false
set_option maxHeartbeats 4000000
/-! ### laws_FnBases: function 8 -/
noncomputable def laws_FnBases.sp : Nat → Option (Spec Ty) := fun r => none
noncomputable def laws_FnBases.en : Option (Spec Ty) := none
noncomputable def laws_FnBases.ctx (k : Nat) : Ctx Ty D := (cons 17 (laws_big.x k) (cons 18 (spec_DrawStoreRec.x k) (cons 25 (impl_SameStore.x k) (cons 27 (impl_EnterAll.x k) (cons 28 (spec_DrawPlaces.x k) (cons 30 (impl_BaseRecs.x k) (cons 31 (impl_StoreNew.x k) (cons 32 (laws_sameRecs.x k) (cons 33 (spec_BaseRecs.x k) (fun _ _ _ _ => none))))))))))
noncomputable def laws_FnBases.f (k : Nat) (a0 : List Int) : Option (Bool) := ((laws_big.f k a0).bind fun t1 => (if t1 = true then (some (true)) else ((spec_DrawStoreRec.f k a0).bind fun t2 => ((impl_BaseRecs.f k t2.1 t2.2.1 t2.2.2.1).bind fun t3 => ((impl_StoreNew.f k).bind fun t4 => ((impl_EnterAll.f k t4.1 t4.2.1 t4.2.2 t3).bind fun t5 => ((impl_EnterAll.f k t2.1 t2.2.1 t2.2.2.1 t3).bind fun t6 => ((spec_DrawPlaces.f k a0).bind fun t7 => (if 0 < (t7.length : Int) then (if (w64 ((t3.length : Int) + 1)) = 0 then none else ((impl_StoreNew.f k).bind fun t8 => (if 0 ≤ (Int.tmod (rd_T3 t7 0) (w64 ((t3.length : Int) + 1))) then (if (Int.tmod (rd_T3 t7 0) (w64 ((t3.length : Int) + 1))) ≤ (t3.length : Int) then ((impl_EnterAll.f k t8.1 t8.2.1 t8.2.2 ((t3.drop 0).take ((Int.tmod (rd_T3 t7 0) (w64 ((t3.length : Int) + 1))).toNat - 0))).bind fun t9 => (if 0 ≤ (Int.tmod (rd_T3 t7 0) (w64 ((t3.length : Int) + 1))) then (if (Int.tmod (rd_T3 t7 0) (w64 ((t3.length : Int) + 1))) ≤ (t3.length : Int) then ((impl_EnterAll.f k t9.1 t9.2.1 t9.2.2.1 ((t3.drop ((Int.tmod (rd_T3 t7 0) (w64 ((t3.length : Int) + 1))).toNat)).take (t3.length - (Int.tmod (rd_T3 t7 0) (w64 ((t3.length : Int) + 1))).toNat))).bind fun t10 => (if t5.2.2.2 = true then (if t6.2.2.2 = true then (if t9.2.2.2 = true then (if t10.2.2.2 = true then ((impl_SameStore.f k t5.1 t5.2.1 t5.2.2.1 t2.1 t2.2.1 t2.2.2.1).bind fun t11 => (if t11 = true then ((impl_SameStore.f k t6.1 t6.2.1 t6.2.2.1 t2.1 t2.2.1 t2.2.2.1).bind fun t12 => (if t12 = true then ((impl_SameStore.f k t10.1 t10.2.1 t10.2.2.1 t2.1 t2.2.1 t2.2.2.1).bind fun t13 => (if t13 = true then ((spec_BaseRecs.f k t2.1 t2.2.1 t2.2.2.1).bind fun t14 => ((laws_sameRecs.f k t3 t14).bind fun t15 => (if t15 = true then (if 0 < (t3.length : Int) then (some ((decide (((rd_T40 t3 0).f0) = 1)))) else none) else (some (false))))) else (some (false)))) else (some (false)))) else (some (false)))) else (some (false))) else (some (false))) else (some (false))) else (some (false)))) else none) else none)) else none) else none))) else none)))))))))
noncomputable def laws_FnBases.e (r : Bool) : Res Ty D := (.sc (.bool r), [], [])
noncomputable abbrev laws_FnBases.g (rec : List Item → St Ty D → R) (k : Nat) := go1 Try.f8 (laws_FnBases.ctx k) laws_FnBases.sp 0 laws_FnBases.en rec
set_option maxRecDepth 100000 in
theorem laws_FnBases.te (rec : List Item → St Ty D → R) (k : Nat) (a0 : List Int) : laws_FnBases.g rec k [.code (body Try.f8)] (startSt [.row 0 .t5 a0] []) =
  (laws_big.f k a0).bind fun t1 => bif t1 then some (laws_FnBases.e (true)) else (spec_DrawStoreRec.f k a0).bind fun t2 => (impl_BaseRecs.f k t2.1 t2.2.1 t2.2.2.1).bind fun t3 => (impl_StoreNew.f k).bind fun t4 => (impl_EnterAll.f k t4.1 t4.2.1 t4.2.2 t3).bind fun t5 => (impl_EnterAll.f k t2.1 t2.2.1 t2.2.2.1 t3).bind fun t6 => (spec_DrawPlaces.f k a0).bind fun t7 => bif decide (0 < (t7.length : Int)) then bif !decide ((w64 ((t3.length : Int) + 1)) = 0) then (impl_StoreNew.f k).bind fun t8 => bif decide (0 ≤ (Int.tmod (rd_T3 t7 0) (w64 ((t3.length : Int) + 1)))) then bif decide ((Int.tmod (rd_T3 t7 0) (w64 ((t3.length : Int) + 1))) ≤ (t3.length : Int)) then (impl_EnterAll.f k t8.1 t8.2.1 t8.2.2 ((t3.drop 0).take ((Int.tmod (rd_T3 t7 0) (w64 ((t3.length : Int) + 1))).toNat - 0))).bind fun t9 => bif decide (0 ≤ (Int.tmod (rd_T3 t7 0) (w64 ((t3.length : Int) + 1)))) then bif decide ((Int.tmod (rd_T3 t7 0) (w64 ((t3.length : Int) + 1))) ≤ (t3.length : Int)) then (impl_EnterAll.f k t9.1 t9.2.1 t9.2.2.1 ((t3.drop ((Int.tmod (rd_T3 t7 0) (w64 ((t3.length : Int) + 1))).toNat)).take (t3.length - (Int.tmod (rd_T3 t7 0) (w64 ((t3.length : Int) + 1))).toNat))).bind fun t10 => bif t5.2.2.2 then bif t6.2.2.2 then bif t9.2.2.2 then bif t10.2.2.2 then (impl_SameStore.f k t5.1 t5.2.1 t5.2.2.1 t2.1 t2.2.1 t2.2.2.1).bind fun t11 => bif t11 then (impl_SameStore.f k t6.1 t6.2.1 t6.2.2.1 t2.1 t2.2.1 t2.2.2.1).bind fun t12 => bif t12 then (impl_SameStore.f k t10.1 t10.2.1 t10.2.2.1 t2.1 t2.2.1 t2.2.2.1).bind fun t13 => bif t13 then (spec_BaseRecs.f k t2.1 t2.2.1 t2.2.2.1).bind fun t14 => (laws_sameRecs.f k t3 t14).bind fun t15 => bif t15 then bif decide (0 < (t3.length : Int)) then some (laws_FnBases.e ((decide (((rd_T40 t3 0).f0) = 1)))) else none else some (laws_FnBases.e (false)) else some (laws_FnBases.e (false)) else some (laws_FnBases.e (false)) else some (laws_FnBases.e (false)) else some (laws_FnBases.e (false)) else some (laws_FnBases.e (false)) else some (laws_FnBases.e (false)) else some (laws_FnBases.e (false)) else none else none else none else none else none else none := by kernel_rfl
set_option maxRecDepth 100000 in
theorem laws_FnBases.oke (k : Nat) (a0 : List Int) : goF Try.f8 laws_FnBases.ctx laws_FnBases.sp 0 laws_FnBases.en (k + 1) [.code (body Try.f8)] (startSt [.row 0 .t5 a0] []) = (laws_FnBases.f k a0).map laws_FnBases.e := by
  rw [laws_FnBases.f]; exact (laws_FnBases.te _ k a0).trans (bn (fun t1 => (cb rfl (bn (fun t2 => (bn (fun t3 => (bn (fun t4 => (bn (fun t5 => (bn (fun t6 => (bn (fun t7 => (cd (nd (bn (fun t8 => (cd (cd (bn (fun t9 => (cd (cd (bn (fun t10 => (cb (cb (cb (cb (bn (fun t11 => (cb (bn (fun t12 => (cb (bn (fun t13 => (cb (bn (fun t14 => (bn (fun t15 => (cb (cd rfl rfl) rfl))))) rfl))) rfl))) rfl))) rfl) rfl) rfl) rfl))) rfl) rfl))) rfl) rfl))) rfl) rfl))))))))))))))))
theorem laws_FnBases.con (k : Nat) (a0 : List Int) (r) (h : laws_FnBases.f k a0 = some r) : Contract Try.prog kit 8 [.row 0 .t5 a0] [] (laws_FnBases.e r).1 (laws_FnBases.e r).2.1 (laws_FnBases.e r).2.2 :=
  con_okG kitOk mix (fun k => (CtxOk.cons (laws_big.xok k) (CtxOk.cons (spec_DrawStoreRec.xok k) (CtxOk.cons (impl_SameStore.xok k) (CtxOk.cons (impl_EnterAll.xok k) (CtxOk.cons (spec_DrawPlaces.xok k) (CtxOk.cons (impl_BaseRecs.xok k) (CtxOk.cons (impl_StoreNew.xok k) (CtxOk.cons (laws_sameRecs.xok k) (CtxOk.cons (spec_BaseRecs.xok k) CtxOk.nil)))))))))) (laws_FnBases.oke k a0) h (by kernel_rfl) (by kernel_rfl) (by kernel_rfl) rfl (by kernel_rfl) rfl rfl
noncomputable def laws_FnBases.x (k : Nat) : X := fun ins bs κ => match ins, bs with
  | [.row 0 .t5 a0], [] => (laws_FnBases.f k a0).bind fun r => κ (laws_FnBases.e r).1 (laws_FnBases.e r).2.1 (laws_FnBases.e r).2.2
  | _, _ => none
theorem laws_FnBases.xok (k : Nat) : XOk 8 (laws_FnBases.x k) := by
  intro ins bs κ res h
  unfold laws_FnBases.x at h
  split at h
  · obtain ⟨r, hr, h⟩ := Option.bind_eq_some_iff.1 h
    exact ⟨_, _, _, laws_FnBases.con k _ r hr, h⟩
  · cases h
end Go.Proofs.Yteideicglgpfiaa.M2

/- The print's plain functions. -/
namespace Go.Proofs.Yteideicglgpfiaa.PK
open Go Go.RowKit Go.Proofs.YteideicglgpfiaaW.PrintWords Go.Proofs.YteideicglgpfiaaW.PrintLast Go.Proofs.YteideicglgpfiaaW.PrintMore
set_option linter.unusedVariables false

def laws_big.f (l0 : List Int) : Option (Bool) := some (decide ((l0.length : Int) > 1048576))
def spec_l01Byte.f (s0_0 : List Int) (s0_1 : Int) (s0_2 : Int) : Option (Int × Int × Int) := if s0_1 < (s0_0.length : Int) then (if 0 ≤ s0_1 then (some (Go.bits .and .i64 (wrap64 ((Go.bits .and .i64 (Go.bits .xor .i64 ((wrap64 ((wrap64 (s0_2 * 6364136223846793005)) + 1442695040888963407)) / 8589934592) ((wrap64 ((wrap64 (s0_2 * 6364136223846793005)) + 1442695040888963407)) / 35184372088832)) 255) + (wrap64 (rd s0_0 s0_1)))) 255, wrap64 (s0_1 + 1), wrap64 ((wrap64 (s0_2 * 6364136223846793005)) + 1442695040888963407))) else (none)) else (some (Go.bits .and .i64 (Go.bits .xor .i64 ((wrap64 ((wrap64 (s0_2 * 6364136223846793005)) + 1442695040888963407)) / 8589934592) ((wrap64 ((wrap64 (s0_2 * 6364136223846793005)) + 1442695040888963407)) / 35184372088832)) 255, s0_1, wrap64 ((wrap64 (s0_2 * 6364136223846793005)) + 1442695040888963407)))
def spec_l01Below.f (s0_0 : List Int) (s0_1 : Int) (s0_2 : Int) (a1 : Int) : Option (Int × Int × Int) := if a1 ≤ 0 then (some (0, s0_1, s0_2)) else (if a1 ≤ 256 then ((spec_l01Byte.f s0_0 s0_1 s0_2).bind fun bt799 => (if a1 = 0 then (none) else (some (Int.tmod bt799.1 a1, bt799.2.1, bt799.2.2)))) else ((spec_l01Byte.f s0_0 s0_1 s0_2).bind fun bt802 => ((spec_l01Byte.f s0_0 bt802.2.1 bt802.2.2).bind fun bt805 => ((spec_l01Byte.f s0_0 bt805.2.1 bt805.2.2).bind fun bt808 => ((spec_l01Byte.f s0_0 bt808.2.1 bt808.2.2).bind fun bt811 => (if a1 = 0 then (none) else (some (Int.tmod (wrap64 ((wrap64 ((wrap64 ((wrap64 (bt802.1 * 16777216)) + (wrap64 (bt805.1 * 65536)))) + (wrap64 (bt808.1 * 256)))) + bt811.1)) a1, bt811.2.1, bt811.2.2))))))))
def spec_l01Once.f (s0_0 : List Int) (s0_1 : Int) (s0_2 : Int) (a1 : Int) : Option (Bool × Int × Int) := (spec_l01Below.f s0_0 s0_1 s0_2 a1).bind fun bt844 => (some ((bt844.1 == 0), bt844.2.1, bt844.2.2))
def spec_l01New.l0 : Nat → List Int → Int → Int → Option (List Int × Int × Int)
  | 0, _, _, _ => none
  | k + 1, x0, x3, x4 => if x4 < (x0.length : Int) then (if x4 < 4000 then (if 0 ≤ x4 then (spec_l01New.l0 k x0 (Go.bits .and .i64 (wrap64 ((wrap64 ((wrap64 (x3 * 131)) + (wrap64 (rd x0 x4)))) + 7)) 1073741823) (wrap64 (x4 + 1))) else (none)) else (some (x0, 0, x3))) else (some (x0, 0, x3))
def spec_l01New.f (k : Nat) (l0 : List Int) : Option (List Int × Int × Int) := spec_l01New.l0 k l0 (wrap64 (36501 + (l0.length : Int))) 0
def spec_l01In.f (a0 : Int) (a1 : Int) (a2 : Int) : Option (Bool) := if a0 ≥ a1 then (some (decide (a0 ≤ a2))) else (some false)
mutual
def spec_ArenaOk.l0 : Nat → Int → List (S88) → Option (Bool)
  | 0, _, _ => none
  | k + 1, x3, x111000 => if x3 < (x111000.length : Int) then (if 0 ≤ x3 then (if (((rd_T88 x111000 x3).f1).length : Int) = 4 then (spec_ArenaOk.l1 k x3 0 x111000 ((rd_T88 x111000 x3).f0) ((rd_T88 x111000 x3).f1)) else (some false)) else (none)) else (some true)
def spec_ArenaOk.l1 : Nat → Int → Int → List (S88) → Bool → List Int → Option (Bool)
  | 0, _, _, _, _, _ => none
  | k + 1, x3, x5, x111000, x113000, x113001 => if x5 < 4 then (if 0 ≤ x5 then (if x5 < (x113001.length : Int) then (if x113000 = true then (if (rd x113001 x5) < 0 then (some false) else (spec_ArenaOk.l1 k x3 (wrap64 (x5 + 1)) x111000 x113000 x113001)) else (if (rd x113001 x5) = (-1) then (spec_ArenaOk.l1 k x3 (wrap64 (x5 + 1)) x111000 x113000 x113001) else ((spec_l01In.f (rd x113001 x5) 0 (wrap64 (x3 - 1))).bind fun t114 => (if t114 = true then (if 0 ≤ (rd x113001 x5) then (if (rd x113001 x5) < (x111000.length : Int) then (if ((rd_T88 x111000 (rd x113001 x5)).f0 = true) then (spec_ArenaOk.l1 k x3 (wrap64 (x5 + 1)) x111000 x113000 x113001) else (some false)) else (none)) else (none)) else (some false))))) else (none)) else (none)) else (spec_ArenaOk.l0 k (wrap64 (x3 + 1)) x111000)
end
def spec_ArenaOk.f (k : Nat) (l0_0 : List (S88)) : Option (Bool) := spec_ArenaOk.l0 k 0 l0_0
def spec_RecOk.j0 : Nat → Bool → Int → Int → Int → Int → Option (Bool)
  | 0, _, _, _, _, _ => none
  | k + 1, x37, x228000, x228001, x228002, x228003 => if x37 = true then (some false) else (if x228000 = 2 then (some (decide (x228002 ≤ 9))) else (if x228000 = 3 then (some (x228002 == 0)) else (if x228000 = 4 then (if x228002 < 16 then ((spec_l01In.f x228003 1 1000000000).bind fun t231 => (some t231)) else (some false)) else (some (decide (x228002 < 16))))))
def spec_RecOk.f (k : Nat) (a0_0 : Int) (a0_1 : Int) (a0_2 : Int) (a0_3 : Int) : Option (Bool) := (spec_l01In.f a0_2 0 1000000000).bind fun t228 => (if t228 = true then (if a0_0 = 1 then (if a0_1 = 0 then (some (a0_3 == 0)) else (some false)) else ((spec_l01In.f a0_0 2 5).bind fun t229 => (if t229 = true then ((spec_l01In.f a0_1 1 9).bind fun t230 => (if t230 = true then (if a0_0 = 4 then (spec_RecOk.j0 k false a0_0 a0_1 a0_2 a0_3) else (spec_RecOk.j0 k (a0_3 != 0) a0_0 a0_1 a0_2 a0_3)) else (spec_RecOk.j0 k true a0_0 a0_1 a0_2 a0_3))) else (spec_RecOk.j0 k true a0_0 a0_1 a0_2 a0_3)))) else (some false))
def spec_l11Copy.l0 : Nat → Int → List (S88) → List (S88) → Option ((List (S88)))
  | 0, _, _, _ => none
  | k + 1, x4, x125000, x127000 => if x4 < (x125000.length : Int) then (if 0 ≤ x4 then ((some (([] : List Int) : List Int)).bind fun y128 => (if y128.length + ((rd_T88 x125000 x4).f1).length < 17592186044416 then (if x127000.length < 4398046511104 then (spec_l11Copy.l0 k (wrap64 (x4 + 1)) x125000 (x127000 ++ [(⟨(rd_T88 x125000 x4).f0, (y128 ++ ((rd_T88 x125000 x4).f1))⟩ : S88)])) else (none)) else (none))) else (none)) else (some x127000)
def spec_l11Copy.f (k : Nat) (l0_0 : List (S88)) : Option ((List (S88))) := spec_l11Copy.l0 k 0 l0_0 ([] : List (S88))
def spec_l11Root.f (l0_0 : List (S88)) (a1 : Int) : Option (Bool) := if a1 = (-1) then (some true) else ((spec_l01In.f a1 0 (wrap64 ((l0_0.length : Int) - 1))).bind fun t117 => (if t117 = true then (if 0 ≤ a1 then (if a1 < (l0_0.length : Int) then (some (!((rd_T88 l0_0 a1).f0))) else (none)) else (none)) else (some false)))
def spec_l11Get.f (l0_0 : List (S88)) (a1 : Int) (a2 : Int) : Option (Int) := if a1 < 0 then (some 0) else (if 0 ≤ a1 then (if a1 < (l0_0.length : Int) then (if 0 ≤ (wrap64 (Int.tdiv a2 4)) then (if (wrap64 (Int.tdiv a2 4)) < (((rd_T88 l0_0 a1).f1).length : Int) then (if (rd ((rd_T88 l0_0 a1).f1) (wrap64 (Int.tdiv a2 4))) < 0 then (some 0) else (if 0 ≤ (rd ((rd_T88 l0_0 a1).f1) (wrap64 (Int.tdiv a2 4))) then (if (rd ((rd_T88 l0_0 a1).f1) (wrap64 (Int.tdiv a2 4))) < (l0_0.length : Int) then (if 0 ≤ (Int.tmod a2 4) then (if (Int.tmod a2 4) < (((rd_T88 l0_0 (rd ((rd_T88 l0_0 a1).f1) (wrap64 (Int.tdiv a2 4)))).f1).length : Int) then (some (rd ((rd_T88 l0_0 (rd ((rd_T88 l0_0 a1).f1) (wrap64 (Int.tdiv a2 4)))).f1) (Int.tmod a2 4))) else (none)) else (none)) else (none)) else (none))) else (none)) else (none)) else (none)) else (none))
def spec_l12At.l0 : Nat → Int → Int → List (S53) → List (S88) → Int → Option (Int)
  | 0, _, _, _, _, _ => none
  | k + 1, x1, x5, x244000, x244001, x244002 => if x5 < (x244000.length : Int) then (if 0 ≤ x5 then (if ((rd_T53 x244000 x5).f0) = x1 then (some x5) else (spec_l12At.l0 k x1 (wrap64 (x5 + 1)) x244000 x244001 x244002)) else (none)) else (some (-1))
def spec_l12At.f (k : Nat) (l0_0 : List (S53)) (l0_1 : List (S88)) (a0_2 : Int) (a1 : Int) : Option (Int) := spec_l12At.l0 k a1 0 l0_0 l0_1 a0_2
def spec_l11Has.l0 : Nat → Int → List Bool → Int → List (S88) → Option (List Bool)
  | 0, _, _, _, _ => none
  | k + 1, x1, x5, x6, x139000 => if x6 < 4 then (if 0 ≤ x1 then (if x1 < (x139000.length : Int) then (if 0 ≤ x6 then (if x6 < (((rd_T88 x139000 x1).f1).length : Int) then (if (rd ((rd_T88 x139000 x1).f1) x6) ≥ 0 then (if 0 ≤ (rd ((rd_T88 x139000 x1).f1) x6) then (if (rd ((rd_T88 x139000 x1).f1) x6) < (x5.length : Int) then (spec_l11Has.l0 k x1 (x5.set ((rd ((rd_T88 x139000 x1).f1) x6) : Int).toNat true) (wrap64 (x6 + 1)) x139000) else (none)) else (none)) else (spec_l11Has.l0 k x1 x5 (wrap64 (x6 + 1)) x139000)) else (none)) else (none)) else (none)) else (none)) else (some x5)
def spec_l11Has.f (k : Nat) (l0_0 : List (S88)) (a1 : Int) : Option (List Bool) := if 0 ≤ (l0_0.length : Int) then (if ((l0_0.length : Int) : Int).toNat ≤ 281474976710656 then ((some (List.replicate ((l0_0.length : Int) : Int).toNat false : List Bool)).bind fun y139 => (if a1 < 0 then (some y139) else (if 0 ≤ a1 then (if a1 < (y139.length : Int) then (spec_l11Has.l0 k a1 (y139.set (a1 : Int).toNat true) 0 l0_0) else (none)) else (none)))) else (none)) else (none)
mutual
def spec_SweepArena.j1 : Nat → List Int → List Int → Bool → List (S88) → Option ((List (S88)) × List Int)
  | 0, _, _, _, _ => none
  | k + 1, x1, x6, x7, x149000 => if x7 = true then (if 0 ≤ (x149000.length : Int) then (if ((x149000.length : Int) : Int).toNat ≤ 281474976710656 then (spec_SweepArena.l1 k x1 x6 (List.replicate ((x149000.length : Int) : Int).toNat false) 0 x149000) else (none)) else (none)) else ((spec_l11Copy.f k x149000).bind fun t159 => (some (t159, x6)))
def spec_SweepArena.l1 : Nat → List Int → List Int → List Bool → Int → List (S88) → Option ((List (S88)) × List Int)
  | 0, _, _, _, _, _ => none
  | k + 1, x1, x6, x9, x10, x149000 => if x10 < (x1.length : Int) then (if 0 ≤ x10 then ((spec_l11Has.f k x149000 (rd x1 x10)).bind fun t166 => (spec_SweepArena.l2 k x1 x6 x9 x10 t166 0 x149000)) else (none)) else (if 0 ≤ (x149000.length : Int) then (if ((x149000.length : Int) : Int).toNat ≤ 35184372088832 then (spec_SweepArena.l3 k x6 x9 (List.replicate ((x149000.length : Int) : Int).toNat 0) 0 x149000 ([] : List (S88))) else (none)) else (none))
def spec_SweepArena.l2 : Nat → List Int → List Int → List Bool → Int → List Bool → Int → List (S88) → Option ((List (S88)) × List Int)
  | 0, _, _, _, _, _, _, _ => none
  | k + 1, x1, x6, x9, x10, x11, x12, x149000 => if x12 < (x11.length : Int) then (if 0 ≤ x12 then (if x12 < (x9.length : Int) then (if rdOf false x9 x12 = true then (spec_SweepArena.l2 k x1 x6 (x9.set (x12 : Int).toNat true) x10 x11 (wrap64 (x12 + 1)) x149000) else (spec_SweepArena.l2 k x1 x6 (x9.set (x12 : Int).toNat (rdOf false x11 x12)) x10 x11 (wrap64 (x12 + 1)) x149000)) else (none)) else (none)) else (spec_SweepArena.l1 k x1 x6 x9 (wrap64 (x10 + 1)) x149000)
def spec_SweepArena.l3 : Nat → List Int → List Bool → List Int → Int → List (S88) → List (S88) → Option ((List (S88)) × List Int)
  | 0, _, _, _, _, _, _ => none
  | k + 1, x6, x9, x13, x15, x149000, x177000 => if x15 < (x149000.length : Int) then (if 0 ≤ x15 then (if x15 < (x9.length : Int) then (if rdOf false x9 x15 = true then ((some (([] : List Int) : List Int)).bind fun y179 => (if y179.length + ((rd_T88 x149000 x15).f1).length < 17592186044416 then (spec_SweepArena.l4 k x6 x9 x13 x15 0 x149000 x177000 ((rd_T88 x149000 x15).f0) (y179 ++ ((rd_T88 x149000 x15).f1))) else (none))) else (spec_SweepArena.l3 k x6 x9 x13 (wrap64 (x15 + 1)) x149000 x177000)) else (none)) else (none)) else (spec_SweepArena.l5 k x6 x13 0 x177000)
def spec_SweepArena.l4 : Nat → List Int → List Bool → List Int → Int → Int → List (S88) → List (S88) → Bool → List Int → Option ((List (S88)) × List Int)
  | 0, _, _, _, _, _, _, _, _, _ => none
  | k + 1, x6, x9, x13, x15, x17, x149000, x177000, x187000, x187001 => if x17 < 4 then (spec_SweepArena.j6 k x6 x9 x13 x15 x17 (!x187000) x149000 x177000 x187000 x187001) else (spec_SweepArena.j6 k x6 x9 x13 x15 x17 false x149000 x177000 x187000 x187001)
def spec_SweepArena.j6 : Nat → List Int → List Bool → List Int → Int → Int → Bool → List (S88) → List (S88) → Bool → List Int → Option ((List (S88)) × List Int)
  | 0, _, _, _, _, _, _, _, _, _, _ => none
  | k + 1, x6, x9, x13, x15, x17, x117, x149000, x177000, x187000, x187001 => if x117 = true then (if 0 ≤ x17 then (if x17 < (x187001.length : Int) then (if (rd x187001 x17) ≥ 0 then (if 0 ≤ (rd x187001 x17) then (if (rd x187001 x17) < (x13.length : Int) then (spec_SweepArena.l4 k x6 x9 x13 x15 (wrap64 (x17 + 1)) x149000 x177000 x187000 (x187001.set (x17 : Int).toNat (rd x13 (rd x187001 x17)))) else (none)) else (none)) else (spec_SweepArena.l4 k x6 x9 x13 x15 (wrap64 (x17 + 1)) x149000 x177000 x187000 x187001)) else (none)) else (none)) else (if 0 ≤ x15 then (if x15 < (x13.length : Int) then (if x177000.length < 4398046511104 then (spec_SweepArena.l3 k x6 x9 (x13.set (x15 : Int).toNat (x177000.length : Int)) (wrap64 (x15 + 1)) x149000 (x177000 ++ [(⟨x187000, x187001⟩ : S88)])) else (none)) else (none)) else (none))
def spec_SweepArena.l5 : Nat → List Int → List Int → Int → List (S88) → Option ((List (S88)) × List Int)
  | 0, _, _, _, _ => none
  | k + 1, x6, x13, x18, x177000 => if x18 < (x6.length : Int) then (if 0 ≤ x18 then (if (rd x6 x18) ≥ 0 then (if 0 ≤ (rd x6 x18) then (if (rd x6 x18) < (x13.length : Int) then (spec_SweepArena.l5 k (x6.set (x18 : Int).toNat (rd x13 (rd x6 x18))) x13 (wrap64 (x18 + 1)) x177000) else (none)) else (none)) else (spec_SweepArena.l5 k x6 x13 (wrap64 (x18 + 1)) x177000)) else (none)) else (some (x177000, x6))
def spec_SweepArena.l0 : Nat → List Int → List Int → Bool → Int → List (S88) → Option ((List (S88)) × List Int)
  | 0, _, _, _, _, _ => none
  | k + 1, x1, x6, x7, x8, x149000 => if x8 < (x1.length : Int) then (if x7 = true then (if 0 ≤ x8 then ((spec_l11Root.f x149000 (rd x1 x8)).bind fun t158 => (spec_SweepArena.l0 k x1 x6 t158 (wrap64 (x8 + 1)) x149000)) else (none)) else (spec_SweepArena.j1 k x1 x6 x7 x149000)) else (spec_SweepArena.j1 k x1 x6 x7 x149000)
end
def spec_SweepArena.f (k : Nat) (l0_0 : List (S88)) (l1 : List Int) : Option ((List (S88)) × List Int) := (some (([] : List Int) : List Int)).bind fun y150 => (if y150.length + l1.length < 17592186044416 then ((spec_ArenaOk.f k l0_0).bind fun t156 => (spec_SweepArena.l0 k l1 (y150 ++ l1) t156 0 l0_0)) else (none))
def spec_l12Roots.l0 : Nat → List Int → Int → List (S53) → List (S88) → Int → Option (List Int)
  | 0, _, _, _, _, _ => none
  | k + 1, x3, x4, x200000, x200001, x200002 => if x4 < (x200000.length : Int) then (if 0 ≤ x4 then (if x3.length < 17592186044416 then (spec_l12Roots.l0 k (x3 ++ [(rd_T53 x200000 x4).f1]) (wrap64 (x4 + 1)) x200000 x200001 x200002) else (none)) else (none)) else (some x3)
def spec_l12Roots.f (k : Nat) (l0_0 : List (S53)) (l0_1 : List (S88)) (a0_2 : Int) : Option (List Int) := spec_l12Roots.l0 k (([] : List Int)) 0 l0_0 l0_1 a0_2
def impl_volAt.l0 : Nat → Int → List (S53) → Int → Int → Option (Int)
  | 0, _, _, _, _ => none
  | k + 1, x1, x8, x9, x10 => if x10 < x9 then (if 0 ≤ x10 then (if x10 < (x8.length : Int) then (if ((rd_T53 x8 x10).f0) = x1 then (some x10) else (impl_volAt.l0 k x1 x8 x9 (wrap64 (x10 + 1)))) else (none)) else (none)) else (some (-1))
def impl_volAt.f (k : Nat) (l0_0 : List (S53)) (l0_1 : List (S88)) (a0_2 : Int) (a1 : Int) : Option (Int) := impl_volAt.l0 k a1 l0_0 (l0_0.length : Int) 0
def impl_in.f (a0 : Int) (a1 : Int) (a2 : Int) : Option (Bool) := if a0 ≥ a1 then (some (decide (a0 ≤ a2))) else (some false)
def impl_RecOk.j0 : Nat → Bool → Int → Int → Int → Int → Option (Bool)
  | 0, _, _, _, _, _ => none
  | k + 1, x32, x577000, x577001, x577002, x577003 => if x32 = true then (some false) else (if x577000 = 2 then ((impl_in.f x577002 0 9).bind fun t579 => (some t579)) else (if x577000 = 3 then (some (x577002 == 0)) else (if x577000 = 4 then ((impl_in.f x577002 0 15).bind fun t580 => (if t580 = true then ((impl_in.f x577003 1 1000000000).bind fun t581 => (some t581)) else (some false))) else (if x577000 = 5 then ((impl_in.f x577002 0 15).bind fun t582 => (some t582)) else (some false)))))
def impl_RecOk.f (k : Nat) (a0_0 : Int) (a0_1 : Int) (a0_2 : Int) (a0_3 : Int) : Option (Bool) := if a0_0 = 1 then (if a0_1 = 0 then ((impl_in.f a0_2 0 1000000000).bind fun t577 => (if t577 = true then (some (a0_3 == 0)) else (some false))) else (some false)) else ((impl_in.f a0_1 1 9).bind fun t578 => (if t578 = true then (if a0_0 = 4 then (impl_RecOk.j0 k false a0_0 a0_1 a0_2 a0_3) else (impl_RecOk.j0 k (a0_3 != 0) a0_0 a0_1 a0_2 a0_3)) else (impl_RecOk.j0 k true a0_0 a0_1 a0_2 a0_3)))
mutual
def impl_ArenaOk.l0 : Nat → List (S88) → Int → Int → List (S88) → Option (Bool)
  | 0, _, _, _, _ => none
  | k + 1, x8, x9, x10, x496000 => if x10 < x9 then (if 0 ≤ x10 then (if x10 < (x8.length : Int) then (if (((rd_T88 x8 x10).f1).length : Int) = 4 then (impl_ArenaOk.l1 k x10 x8 x9 x10 ((rd_T88 x8 x10).f1) (((rd_T88 x8 x10).f1).length : Int) 0 x496000 ((rd_T88 x8 x10).f0) ((rd_T88 x8 x10).f1)) else (some false)) else (none)) else (none)) else (some true)
def impl_ArenaOk.l1 : Nat → Int → List (S88) → Int → Int → List Int → Int → Int → List (S88) → Bool → List Int → Option (Bool)
  | 0, _, _, _, _, _, _, _, _, _, _ => none
  | k + 1, x3, x8, x9, x10, x20, x21, x22, x496000, x498000, x498001 => if x22 < x21 then (if 0 ≤ x22 then (if x22 < (x20.length : Int) then (if x498000 = true then (if (rd x20 x22) < 0 then (some false) else (impl_ArenaOk.l1 k x3 x8 x9 x10 x20 x21 (wrap64 (x22 + 1)) x496000 x498000 x498001)) else (if (rd x20 x22) = (-1) then (impl_ArenaOk.l1 k x3 x8 x9 x10 x20 x21 (wrap64 (x22 + 1)) x496000 x498000 x498001) else ((impl_in.f (rd x20 x22) 0 (wrap64 (x3 - 1))).bind fun t499 => (if t499 = true then (if 0 ≤ (rd x20 x22) then (if (rd x20 x22) < (x496000.length : Int) then (if ((rd_T88 x496000 (rd x20 x22)).f0 = true) then (impl_ArenaOk.l1 k x3 x8 x9 x10 x20 x21 (wrap64 (x22 + 1)) x496000 x498000 x498001) else (some false)) else (none)) else (none)) else (some false))))) else (none)) else (none)) else (impl_ArenaOk.l0 k x8 x9 (wrap64 (x10 + 1)) x496000)
end
def impl_ArenaOk.f (k : Nat) (l0_0 : List (S88)) : Option (Bool) := impl_ArenaOk.l0 k l0_0 (l0_0.length : Int) 0 l0_0
def impl_hasInt.l0 : Nat → Int → List Int → Int → Int → Option (Bool)
  | 0, _, _, _, _ => none
  | k + 1, x1, x7, x8, x9 => if x9 < x8 then (if 0 ≤ x9 then (if x9 < (x7.length : Int) then (if (rd x7 x9) = x1 then (some true) else (impl_hasInt.l0 k x1 x7 x8 (wrap64 (x9 + 1)))) else (none)) else (none)) else (some false)
def impl_hasInt.f (k : Nat) (l0 : List Int) (a1 : Int) : Option (Bool) := impl_hasInt.l0 k a1 l0 (l0.length : Int) 0
def impl_isRoot.f (l0_0 : List (S88)) (a1 : Int) : Option (Bool) := (impl_in.f a1 0 (wrap64 ((l0_0.length : Int) - 1))).bind fun t502 => (if t502 = true then (if 0 ≤ a1 then (if a1 < (l0_0.length : Int) then (some (!((rd_T88 l0_0 a1).f0))) else (none)) else (none)) else (some false))
def impl_knotsOf.l0 : Nat → List Int → List Int → Int → Int → List (S88) → Option (List Int)
  | 0, _, _, _, _, _ => none
  | k + 1, x5, x19, x20, x21, x506000 => if x21 < x20 then (if 0 ≤ x21 then (if x21 < (x19.length : Int) then ((impl_in.f (rd x19 x21) 0 (wrap64 ((x506000.length : Int) - 1))).bind fun t512 => (if t512 = true then ((impl_hasInt.f k x5 (rd x19 x21)).bind fun t513 => (if t513 = true then (impl_knotsOf.l0 k x5 x19 x20 (wrap64 (x21 + 1)) x506000) else (if x5.length < 17592186044416 then (impl_knotsOf.l0 k (x5 ++ [rd x19 x21]) x19 x20 (wrap64 (x21 + 1)) x506000) else (none)))) else (impl_knotsOf.l0 k x5 x19 x20 (wrap64 (x21 + 1)) x506000))) else (none)) else (none)) else (some x5)
def impl_knotsOf.f (k : Nat) (l0_0 : List (S88)) (a1 : Int) : Option (List Int) := (impl_isRoot.f l0_0 a1).bind fun t506 => (if t506 = true then (if 0 ≤ a1 then (if a1 < (l0_0.length : Int) then (impl_knotsOf.l0 k (([a1] : List Int)) ((rd_T88 l0_0 a1).f1) (((rd_T88 l0_0 a1).f1).length : Int) 0 l0_0) else (none)) else (none)) else (some ([] : List Int)))
mutual
def impl_StoreOk.j0 : Nat → Bool → List (S53) → List (S88) → Int → Option (Bool)
  | 0, _, _, _, _ => none
  | k + 1, x25, x518000, x518001, x518002 => if x25 = true then (some false) else (impl_StoreOk.l0 k ([] : List Int) x518000 (x518000.length : Int) 0 x518000 x518001 x518002)
def impl_StoreOk.l0 : Nat → List Int → List (S53) → Int → Int → List (S53) → List (S88) → Int → Option (Bool)
  | 0, _, _, _, _, _, _, _ => none
  | k + 1, x3, x27, x28, x29, x518000, x518001, x518002 => if x29 < x28 then (if 0 ≤ x29 then (if x29 < (x27.length : Int) then ((impl_in.f ((rd_T53 x27 x29).f0) 1 9).bind fun t522 => (if t522 = true then (if x29 > 0 then (if 0 ≤ (wrap64 (x29 - 1)) then (if (wrap64 (x29 - 1)) < (x518000.length : Int) then (if ((rd_T53 x518000 (wrap64 (x29 - 1))).f0) ≥ ((rd_T53 x27 x29).f0) then (some false) else (if ((rd_T53 x27 x29).f1) = (-1) then ((impl_knotsOf.f k x518001 ((rd_T53 x27 x29).f1)).bind fun t524 => (if x3.length + t524.length < 17592186044416 then (impl_StoreOk.l0 k (x3 ++ t524) x27 x28 (wrap64 (x29 + 1)) x518000 x518001 x518002) else (none))) else ((impl_isRoot.f x518001 ((rd_T53 x27 x29).f1)).bind fun t530 => (if t530 = true then ((impl_knotsOf.f k x518001 ((rd_T53 x27 x29).f1)).bind fun t531 => (if x3.length + t531.length < 17592186044416 then (impl_StoreOk.l0 k (x3 ++ t531) x27 x28 (wrap64 (x29 + 1)) x518000 x518001 x518002) else (none))) else (some false))))) else (none)) else (none)) else (if ((rd_T53 x27 x29).f1) = (-1) then ((impl_knotsOf.f k x518001 ((rd_T53 x27 x29).f1)).bind fun t537 => (if x3.length + t537.length < 17592186044416 then (impl_StoreOk.l0 k (x3 ++ t537) x27 x28 (wrap64 (x29 + 1)) x518000 x518001 x518002) else (none))) else ((impl_isRoot.f x518001 ((rd_T53 x27 x29).f1)).bind fun t543 => (if t543 = true then ((impl_knotsOf.f k x518001 ((rd_T53 x27 x29).f1)).bind fun t544 => (if x3.length + t544.length < 17592186044416 then (impl_StoreOk.l0 k (x3 ++ t544) x27 x28 (wrap64 (x29 + 1)) x518000 x518001 x518002) else (none))) else (some false))))) else (some false))) else (none)) else (none)) else (impl_StoreOk.l1 k x3 x518001 (x518001.length : Int) 0 x518000 x518001 x518002)
def impl_StoreOk.l1 : Nat → List Int → List (S88) → Int → Int → List (S53) → List (S88) → Int → Option (Bool)
  | 0, _, _, _, _, _, _, _ => none
  | k + 1, x3, x77, x78, x79, x518000, x518001, x518002 => if x79 < x78 then (if 0 ≤ x79 then (if x79 < (x77.length : Int) then ((impl_hasInt.f k x3 x79).bind fun t552 => (if t552 = true then (impl_StoreOk.l2 k x3 x77 x78 x79 ((rd_T88 x77 x79).f1) (((rd_T88 x77 x79).f1).length : Int) 0 x518000 x518001 x518002 ((rd_T88 x77 x79).f0) ((rd_T88 x77 x79).f1)) else (some false))) else (none)) else (none)) else (some true)
def impl_StoreOk.l2 : Nat → List Int → List (S88) → Int → Int → List Int → Int → Int → List (S53) → List (S88) → Int → Bool → List Int → Option (Bool)
  | 0, _, _, _, _, _, _, _, _, _, _, _, _ => none
  | k + 1, x3, x77, x78, x79, x89, x90, x91, x518000, x518001, x518002, x552000, x552001 => if x91 < x90 then (if 0 ≤ x91 then (if x91 < (x89.length : Int) then (if x552000 = true then (if (rd x89 x91) ≥ x518002 then (some false) else (impl_StoreOk.l2 k x3 x77 x78 x79 x89 x90 (wrap64 (x91 + 1)) x518000 x518001 x518002 x552000 x552001)) else (impl_StoreOk.l2 k x3 x77 x78 x79 x89 x90 (wrap64 (x91 + 1)) x518000 x518001 x518002 x552000 x552001)) else (none)) else (none)) else (impl_StoreOk.l1 k x3 x77 x78 (wrap64 (x79 + 1)) x518000 x518001 x518002)
end
def impl_StoreOk.f (k : Nat) (l0_0 : List (S53)) (l0_1 : List (S88)) (a0_2 : Int) : Option (Bool) := if (l0_0.length : Int) > 3 then (impl_StoreOk.j0 k true l0_0 l0_1 a0_2) else ((impl_ArenaOk.f k l0_1).bind fun t518 => (if t518 = true then ((impl_in.f a0_2 1 1000000000).bind fun t519 => (impl_StoreOk.j0 k (!t519) l0_0 l0_1 a0_2)) else (impl_StoreOk.j0 k true l0_0 l0_1 a0_2)))
def impl_copyInts.f (l0 : List Int) : Option (List Int) := if ([] : List Int).length + l0.length < 17592186044416 then (some (([] : List Int) ++ l0)) else (none)
def impl_copyArena.l0 : Nat → List (S88) → Int → Int → List (S88) → Option ((List (S88)))
  | 0, _, _, _, _ => none
  | k + 1, x7, x8, x9, x560000 => if x9 < x8 then (if 0 ≤ x9 then (if x9 < (x7.length : Int) then ((impl_copyInts.f ((rd_T88 x7 x9).f1)).bind fun t562 => (if x560000.length < 4398046511104 then (impl_copyArena.l0 k x7 x8 (wrap64 (x9 + 1)) (x560000 ++ [(⟨(rd_T88 x7 x9).f0, t562⟩ : S88)])) else (none))) else (none)) else (none)) else (some x560000)
def impl_copyArena.f (k : Nat) (l0_0 : List (S88)) : Option ((List (S88))) := impl_copyArena.l0 k l0_0 (l0_0.length : Int) 0 ([] : List (S88))
mutual
def impl_SweepArena.l0 : Nat → List Int → List Int → List Int → List Int → Int → Int → List (S88) → Option ((List (S88)) × List Int)
  | 0, _, _, _, _, _, _, _ => none
  | k + 1, x1, x6, x7, x21, x22, x23, x655000 => if x23 < x22 then (if 0 ≤ x23 then (if x23 < (x21.length : Int) then (if (rd x21 x23) = (-1) then (impl_SweepArena.j1 k x1 x6 x7 (rd x21 x23) x21 x22 x23 false x655000) else ((impl_isRoot.f x655000 (rd x21 x23)).bind fun t660 => (impl_SweepArena.j1 k x1 x6 x7 (rd x21 x23) x21 x22 x23 (!t660) x655000))) else (none)) else (none)) else ((impl_ArenaOk.f k x655000).bind fun t670 => (if t670 = true then (if 0 ≤ (x655000.length : Int) then (if ((x655000.length : Int) : Int).toNat ≤ 35184372088832 then (impl_SweepArena.l1 k x1 x6 x7 (List.replicate ((x655000.length : Int) : Int).toNat 0) x655000 (x655000.length : Int) 0 ([] : List (S88))) else (none)) else (none)) else ((impl_copyArena.f k x655000).bind fun t671 => (some (t671, x6)))))
def impl_SweepArena.j1 : Nat → List Int → List Int → List Int → Int → List Int → Int → Int → Bool → List (S88) → Option ((List (S88)) × List Int)
  | 0, _, _, _, _, _, _, _, _, _ => none
  | k + 1, x1, x6, x7, x9, x21, x22, x23, x34, x655000 => if x34 = true then ((impl_copyArena.f k x655000).bind fun t661 => (some (t661, x6))) else ((impl_knotsOf.f k x655000 x9).bind fun t664 => (if x7.length + t664.length < 17592186044416 then (impl_SweepArena.l0 k x1 x6 (x7 ++ t664) x21 x22 (wrap64 (x23 + 1)) x655000) else (none)))
def impl_SweepArena.l1 : Nat → List Int → List Int → List Int → List Int → List (S88) → Int → Int → List (S88) → Option ((List (S88)) × List Int)
  | 0, _, _, _, _, _, _, _, _ => none
  | k + 1, x1, x6, x7, x11, x55, x56, x57, x675000 => if x57 < x56 then (if 0 ≤ x57 then (if x57 < (x55.length : Int) then ((impl_hasInt.f k x7 x57).bind fun t680 => (if t680 = true then (if x57 < (x11.length : Int) then ((impl_copyInts.f ((rd_T88 x55 x57).f1)).bind fun t682 => (impl_SweepArena.l2 k x1 x6 x7 (x11.set (x57 : Int).toNat (x675000.length : Int)) x55 x56 x57 ((rd_T88 x55 x57).f1) (((rd_T88 x55 x57).f1).length : Int) 0 x675000 ((rd_T88 x55 x57).f0) ((rd_T88 x55 x57).f1) ((rd_T88 x55 x57).f0) t682)) else (none)) else (impl_SweepArena.l1 k x1 x6 x7 x11 x55 x56 (wrap64 (x57 + 1)) x675000))) else (none)) else (none)) else (impl_SweepArena.l3 k x6 x11 x1 (x1.length : Int) 0 x675000)
def impl_SweepArena.l2 : Nat → List Int → List Int → List Int → List Int → List (S88) → Int → Int → List Int → Int → Int → List (S88) → Bool → List Int → Bool → List Int → Option ((List (S88)) × List Int)
  | 0, _, _, _, _, _, _, _, _, _, _, _, _, _, _, _ => none
  | k + 1, x1, x6, x7, x11, x55, x56, x57, x79, x80, x81, x675000, x680000, x680001, x686000, x686001 => if x81 < x80 then (if 0 ≤ x81 then (if x81 < (x79.length : Int) then (if x680000 = true then (impl_SweepArena.l2 k x1 x6 x7 x11 x55 x56 x57 x79 x80 (wrap64 (x81 + 1)) x675000 x680000 x680001 x686000 x686001) else (if (rd x79 x81) ≥ 0 then (if 0 ≤ (rd x79 x81) then (if (rd x79 x81) < (x11.length : Int) then (if x81 < (x686001.length : Int) then (impl_SweepArena.l2 k x1 x6 x7 x11 x55 x56 x57 x79 x80 (wrap64 (x81 + 1)) x675000 x680000 x680001 x686000 (x686001.set (x81 : Int).toNat (rd x11 (rd x79 x81)))) else (none)) else (none)) else (none)) else (impl_SweepArena.l2 k x1 x6 x7 x11 x55 x56 x57 x79 x80 (wrap64 (x81 + 1)) x675000 x680000 x680001 x686000 x686001))) else (none)) else (none)) else (if x675000.length < 4398046511104 then (impl_SweepArena.l1 k x1 x6 x7 x11 x55 x56 (wrap64 (x57 + 1)) (x675000 ++ [(⟨x686000, x686001⟩ : S88)])) else (none))
def impl_SweepArena.l3 : Nat → List Int → List Int → List Int → Int → Int → List (S88) → Option ((List (S88)) × List Int)
  | 0, _, _, _, _, _, _ => none
  | k + 1, x6, x11, x109, x110, x111, x675000 => if x111 < x110 then (if 0 ≤ x111 then (if x111 < (x109.length : Int) then (if (rd x109 x111) ≥ 0 then (if 0 ≤ (rd x109 x111) then (if (rd x109 x111) < (x11.length : Int) then (if x111 < (x6.length : Int) then (impl_SweepArena.l3 k (x6.set (x111 : Int).toNat (rd x11 (rd x109 x111))) x11 x109 x110 (wrap64 (x111 + 1)) x675000) else (none)) else (none)) else (none)) else (impl_SweepArena.l3 k x6 x11 x109 x110 (wrap64 (x111 + 1)) x675000)) else (none)) else (none)) else (some (x675000, x6))
end
def impl_SweepArena.f (k : Nat) (l0_0 : List (S88)) (l1 : List Int) : Option ((List (S88)) × List Int) := (impl_copyInts.f l1).bind fun t656 => (impl_SweepArena.l0 k l1 t656 ([] : List Int) l1 (l1.length : Int) 0 l0_0)
def impl_numberAt.f (l0_0 : List (S88)) (a1 : Int) (a2 : Int) : Option (Int) := if 0 ≤ a1 then (if a1 < (l0_0.length : Int) then (if 0 ≤ (wrap64 (Int.tdiv a2 4)) then (if (wrap64 (Int.tdiv a2 4)) < (((rd_T88 l0_0 a1).f1).length : Int) then (if (rd ((rd_T88 l0_0 a1).f1) (wrap64 (Int.tdiv a2 4))) < 0 then (some 0) else (if 0 ≤ (rd ((rd_T88 l0_0 a1).f1) (wrap64 (Int.tdiv a2 4))) then (if (rd ((rd_T88 l0_0 a1).f1) (wrap64 (Int.tdiv a2 4))) < (l0_0.length : Int) then (if 0 ≤ (Int.tmod a2 4) then (if (Int.tmod a2 4) < (((rd_T88 l0_0 (rd ((rd_T88 l0_0 a1).f1) (wrap64 (Int.tdiv a2 4)))).f1).length : Int) then (some (rd ((rd_T88 l0_0 (rd ((rd_T88 l0_0 a1).f1) (wrap64 (Int.tdiv a2 4)))).f1) (Int.tmod a2 4))) else (none)) else (none)) else (none)) else (none))) else (none)) else (none)) else (none)) else (none)
def impl_GetAt.f (k : Nat) (l0_0 : List (S88)) (a1 : Int) (a2 : Int) : Option (Int) := (impl_in.f a2 0 15).bind fun t947 => (if t947 = true then ((impl_isRoot.f l0_0 a1).bind fun t948 => (if t948 = true then ((impl_ArenaOk.f k l0_0).bind fun t949 => (if t949 = true then ((impl_numberAt.f l0_0 a1 a2).bind fun t950 => (some t950)) else (some 0))) else (some 0))) else (some 0))
def impl_AllAt.l0 : Nat → Int → List Int → Int → List (S88) → Option (List Int)
  | 0, _, _, _, _ => none
  | k + 1, x1, x5, x7, x952000 => if x7 < 16 then ((impl_GetAt.f k x952000 x1 x7).bind fun t952 => (if x5.length < 17592186044416 then (impl_AllAt.l0 k x1 (x5 ++ [t952]) (wrap64 (x7 + 1)) x952000) else (none))) else (some x5)
def impl_AllAt.f (k : Nat) (l0_0 : List (S88)) (a1 : Int) : Option (List Int) := impl_AllAt.l0 k a1 ([] : List Int) 0 l0_0
mutual
def impl_SameStore.j0 : Nat → Bool → List (S53) → List (S88) → Int → List (S53) → List (S88) → Int → Option (Bool)
  | 0, _, _, _, _, _, _, _ => none
  | k + 1, x24, x1188000, x1188001, x1188002, x1189000, x1189001, x1189002 => if x24 = true then (some false) else (impl_SameStore.l0 k x1188000 (x1188000.length : Int) 0 x1188000 x1188001 x1188002 x1189000 x1189001 x1189002)
def impl_SameStore.l0 : Nat → List (S53) → Int → Int → List (S53) → List (S88) → Int → List (S53) → List (S88) → Int → Option (Bool)
  | 0, _, _, _, _, _, _, _, _, _ => none
  | k + 1, x26, x27, x28, x1188000, x1188001, x1188002, x1189000, x1189001, x1189002 => if x28 < x27 then (if 0 ≤ x28 then (if x28 < (x26.length : Int) then (if x28 < (x1189000.length : Int) then ((impl_AllAt.f k x1189001 ((rd_T53 x1189000 x28).f1)).bind fun t1193 => (if ((rd_T53 x26 x28).f0) = ((rd_T53 x1189000 x28).f0) then ((impl_AllAt.f k x1188001 ((rd_T53 x26 x28).f1)).bind fun t1196 => (impl_SameStore.l1 k t1193 x26 x27 x28 t1196 (t1196.length : Int) 0 x1188000 x1188001 x1188002 x1189000 x1189001 x1189002)) else (some false))) else (none)) else (none)) else (none)) else (some true)
def impl_SameStore.l1 : Nat → List Int → List (S53) → Int → Int → List Int → Int → Int → List (S53) → List (S88) → Int → List (S53) → List (S88) → Int → Option (Bool)
  | 0, _, _, _, _, _, _, _, _, _, _, _, _, _ => none
  | k + 1, x8, x26, x27, x28, x52, x53, x54, x1188000, x1188001, x1188002, x1189000, x1189001, x1189002 => if x54 < x53 then (if 0 ≤ x54 then (if x54 < (x52.length : Int) then (if x54 < (x8.length : Int) then (if (rd x52 x54) = (rd x8 x54) then (impl_SameStore.l1 k x8 x26 x27 x28 x52 x53 (wrap64 (x54 + 1)) x1188000 x1188001 x1188002 x1189000 x1189001 x1189002) else (some false)) else (none)) else (none)) else (none)) else (impl_SameStore.l0 k x26 x27 (wrap64 (x28 + 1)) x1188000 x1188001 x1188002 x1189000 x1189001 x1189002)
end
def impl_SameStore.f (k : Nat) (l0_0 : List (S53)) (l0_1 : List (S88)) (a0_2 : Int) (l1_0 : List (S53)) (l1_1 : List (S88)) (a1_2 : Int) : Option (Bool) := if (l0_0.length : Int) = (l1_0.length : Int) then (impl_SameStore.j0 k (a0_2 != a1_2) l0_0 l0_1 a0_2 l1_0 l1_1 a1_2) else (impl_SameStore.j0 k true l0_0 l0_1 a0_2 l1_0 l1_1 a1_2)
def spec_DrawPlaces.l0 : Nat → List Int → Int → List Int → Int → Int → Option (List Int)
  | 0, _, _, _, _, _ => none
  | k + 1, x4, x5, x1248000, x1248001, x1248002 => if x5 < 12 then ((spec_l01Below.f x1248000 x1248001 x1248002 10000).bind fun bt1254 => (if x4.length < 17592186044416 then (spec_DrawPlaces.l0 k (x4 ++ [bt1254.1]) (wrap64 (x5 + 1)) x1248000 bt1254.2.1 bt1254.2.2) else (none))) else (some x4)
def spec_DrawPlaces.f (k : Nat) (l0 : List Int) : Option (List Int) := (spec_l01New.f k l0).bind fun bt1244 => ((spec_l01Byte.f bt1244.1 bt1244.2.1 bt1244.2.2).bind fun bt1248 => (spec_DrawPlaces.l0 k (([] : List Int)) 0 bt1244.1 bt1248.2.1 bt1248.2.2))
mutual
def impl_BaseRecs.l0 : Nat → List (S40) → List (S53) → Int → Int → List (S53) → List (S88) → Int → Option ((List (S40)))
  | 0, _, _, _, _, _, _, _ => none
  | k + 1, x3, x13, x14, x15, x1285000, x1285001, x1285002 => if x15 < x14 then (if 0 ≤ x15 then (if x15 < (x13.length : Int) then (if x3.length < 4398046511104 then ((impl_AllAt.f k x1285001 ((rd_T53 x13 x15).f1)).bind fun t1293 => (impl_BaseRecs.l1 k (x3 ++ [(⟨2, (rd_T53 x13 x15).f0, 0, 0⟩ : S40)]) x13 x14 x15 t1293 (t1293.length : Int) 0 x1285000 x1285001 x1285002 ((rd_T53 x13 x15).f0) ((rd_T53 x13 x15).f1))) else (none)) else (none)) else (none)) else (some x3)
def impl_BaseRecs.l1 : Nat → List (S40) → List (S53) → Int → Int → List Int → Int → Int → List (S53) → List (S88) → Int → Int → Int → Option ((List (S40)))
  | 0, _, _, _, _, _, _, _, _, _, _, _, _ => none
  | k + 1, x3, x13, x14, x15, x29, x30, x31, x1285000, x1285001, x1285002, x1290000, x1290001 => if x31 < x30 then (if 0 ≤ x31 then (if x31 < (x29.length : Int) then (if (rd x29 x31) > 0 then (if x3.length < 4398046511104 then (impl_BaseRecs.l1 k (x3 ++ [(⟨4, x1290000, x31, rd x29 x31⟩ : S40)]) x13 x14 x15 x29 x30 (wrap64 (x31 + 1)) x1285000 x1285001 x1285002 x1290000 x1290001) else (none)) else (impl_BaseRecs.l1 k x3 x13 x14 x15 x29 x30 (wrap64 (x31 + 1)) x1285000 x1285001 x1285002 x1290000 x1290001)) else (none)) else (none)) else (impl_BaseRecs.l0 k x3 x13 x14 (wrap64 (x15 + 1)) x1285000 x1285001 x1285002)
end
def impl_BaseRecs.f (k : Nat) (l0_0 : List (S53)) (l0_1 : List (S88)) (a0_2 : Int) : Option ((List (S40))) := impl_BaseRecs.l0 k (([(⟨1, 0, a0_2, 0⟩ : S40)] : List (S40))) l0_0 (l0_0.length : Int) 0 l0_0 l0_1 a0_2
def spec_GetAt.f (k : Nat) (l0_0 : List (S88)) (a1 : Int) (a2 : Int) : Option (Int) := (spec_ArenaOk.f k l0_0).bind fun t1104 => (if t1104 = true then ((spec_l11Root.f l0_0 a1).bind fun t1105 => (if t1105 = true then ((spec_l01In.f a2 0 15).bind fun t1106 => (if t1106 = true then ((spec_l11Get.f l0_0 a1 a2).bind fun t1107 => (some t1107)) else (some 0))) else (some 0))) else (some 0))
def spec_AllAt.l0 : Nat → Int → List Int → Int → List (S88) → Option (List Int)
  | 0, _, _, _, _ => none
  | k + 1, x1, x5, x6, x1109000 => if x6 < 16 then ((spec_GetAt.f k x1109000 x1 x6).bind fun t1112 => (if x5.length < 17592186044416 then (spec_AllAt.l0 k x1 (x5 ++ [t1112]) (wrap64 (x6 + 1)) x1109000) else (none))) else (some x5)
def spec_AllAt.f (k : Nat) (l0_0 : List (S88)) (a1 : Int) : Option (List Int) := spec_AllAt.l0 k a1 (([] : List Int)) 0 l0_0
mutual
def spec_BaseRecs.l0 : Nat → List (S40) → Int → List (S53) → List (S88) → Int → Option ((List (S40)))
  | 0, _, _, _, _, _ => none
  | k + 1, x3, x4, x1304000, x1304001, x1304002 => if x4 < (x1304000.length : Int) then (if 0 ≤ x4 then (if x3.length < 4398046511104 then ((spec_AllAt.f k x1304001 ((rd_T53 x1304000 x4).f1)).bind fun t1312 => (spec_BaseRecs.l1 k (x3 ++ [(⟨2, (rd_T53 x1304000 x4).f0, 0, 0⟩ : S40)]) x4 t1312 0 x1304000 x1304001 x1304002)) else (none)) else (none)) else (some x3)
def spec_BaseRecs.l1 : Nat → List (S40) → Int → List Int → Int → List (S53) → List (S88) → Int → Option ((List (S40)))
  | 0, _, _, _, _, _, _, _ => none
  | k + 1, x3, x4, x5, x6, x1304000, x1304001, x1304002 => if x6 < (x5.length : Int) then (if 0 ≤ x6 then (if (rd x5 x6) > 0 then (if 0 ≤ x4 then (if x4 < (x1304000.length : Int) then (if x3.length < 4398046511104 then (spec_BaseRecs.l1 k (x3 ++ [(⟨4, (rd_T53 x1304000 x4).f0, x6, rd x5 x6⟩ : S40)]) x4 x5 (wrap64 (x6 + 1)) x1304000 x1304001 x1304002) else (none)) else (none)) else (none)) else (spec_BaseRecs.l1 k x3 x4 x5 (wrap64 (x6 + 1)) x1304000 x1304001 x1304002)) else (none)) else (spec_BaseRecs.l0 k x3 (wrap64 (x4 + 1)) x1304000 x1304001 x1304002)
end
def spec_BaseRecs.f (k : Nat) (l0_0 : List (S53)) (l0_1 : List (S88)) (a0_2 : Int) : Option ((List (S40))) := spec_BaseRecs.l0 k (([(⟨1, 0, a0_2, 0⟩ : S40)] : List (S40))) 0 l0_0 l0_1 a0_2
def laws_sameRecs.l0 : Nat → List (S40) → List (S40) → Int → Option (Bool)
  | 0, _, _, _ => none
  | k + 1, x0, x1, x5 => if x5 < (x0.length : Int) then (if 0 ≤ x5 then (if x5 < (x1.length : Int) then (if (!(((rd_T40 x0 x5).f0) == ((rd_T40 x1 x5).f0)) || (!(((rd_T40 x0 x5).f1) == ((rd_T40 x1 x5).f1)) || (!(((rd_T40 x0 x5).f2) == ((rd_T40 x1 x5).f2)) || (!(((rd_T40 x0 x5).f3) == ((rd_T40 x1 x5).f3)))))) = true then (some false) else (laws_sameRecs.l0 k x0 x1 (wrap64 (x5 + 1)))) else (none)) else (none)) else (some true)
def laws_sameRecs.f (k : Nat) (l0 : List (S40)) (l1 : List (S40)) : Option (Bool) := if (l0.length : Int) = (l1.length : Int) then (laws_sameRecs.l0 k l0 l1 0) else (some false)
end Go.Proofs.Yteideicglgpfiaa.PK

/- From the print's plain functions to the own ones: small words. -/
namespace Go.Proofs.Yteideicglgpfiaa.M2
open Go Go.RowKit Go.Proofs.YteideicglgpfiaaW.PrintWords Go.Proofs.Yteideicglgpfiaa.PK
theorem w64_eq (n : Int) : w64 n = wrap64 n := IntWalk.i64_left n
theorem wu8_eq (n : Int) : Go.IntKind.wrap .u8 n = n % 256 := by simp [IntKind.wrap, IntKind.signed, IntKind.bits]
theorem int_beq (a b : Int) : (a == b) = decide (a = b) := rfl
theorem emp_eq : (⟨#[]⟩ : ByteArray).toList = [] := by kernel_rfl
theorem itE {α : Type} {c : Prop} [Decidable c] {a b : Option α} {r : α} {G : Prop} (h : (if c then a else b) = some r) (x : c → a = some r → G) (y : ¬ c → b = some r → G) : G := by
  by_cases hc : c
  · rw [if_pos hc] at h; exact x hc h
  · rw [if_neg hc] at h; exact y hc h
theorem bnE {α β : Type} {o : Option α} {f : α → Option β} {r : β} {G : Prop} (h : o.bind f = some r) (x : ∀ t, o = some t → f t = some r → G) : G := by
  obtain ⟨t, h1, h2⟩ := Option.bind_eq_some_iff.1 h; exact x t h1 h2
theorem bsE {α β : Type} {a : α} {f : α → Option β} {r : β} {G : Prop} (h : (some a).bind f = some r) (x : f a = some r → G) : G := x h
theorem noE {α : Type} {r : α} {G : Prop} (h : none = some r) : G := by cases h
theorem ite_inv {α : Type} {c : Prop} [Decidable c] {a b : Option α} {r : α} (h : (if c then a else b) = some r) : (c ∧ a = some r) ∨ (¬ c ∧ b = some r) := by
  by_cases hc : c
  · rw [if_pos hc] at h; exact .inl ⟨hc, h⟩
  · rw [if_neg hc] at h; exact .inr ⟨hc, h⟩
theorem fdiv33 (a : Int) : Int.fdiv a 8589934592 = a / 8589934592 := Int.fdiv_eq_ediv_of_nonneg a (by decide)
theorem fdiv45 (a : Int) : Int.fdiv a 35184372088832 = a / 35184372088832 := Int.fdiv_eq_ediv_of_nonneg a (by decide)
theorem shlR (x y : Int) : w64 (x * 2 ^ (min y.toNat 64)) = Go.Proofs.YteideicglgpfiaaW.PrintWords.shl .i64 x y := rfl
theorem bt_eq (s : ByteArray) (i : Int) : bt s i = Go.Proofs.YteideicglgpfiaaW.PrintWords.bt s i := rfl
theorem tmodN (n : Nat) (k : Int) : Int.tmod (n : Int) k = (n : Int) % k := Int.tmod_eq_emod_of_nonneg (Int.natCast_nonneg n)
theorem rdOfB (a b : Int) : (a - b < 0) = (a < b) := by simp only [eq_iff_iff]; omega
theorem rdOfL (l : List Bool) (i : Int) : rdOf false l i = rd_T4 l i := rfl
theorem rdT3_eq (l : List Int) (i : Int) : rd_T3 l i = rd l i := rfl
theorem rdT5_eq (l : List Int) (i : Int) : rd_T5 l i = rd l i := rfl
theorem rdn3 (l : List Int) (i : Int) : rd_T3 l ((i.toNat : Nat) : Int) = rd_T3 l i := rfl
theorem rdset3 (l : List Int) (i : Int) (y : Int) (h : i < (l.length : Int)) (h0 : 0 ≤ i) : rd_T3 (l.set i.toNat y) i = y := by
  unfold rd_T3; rw [List.getD_eq_getElem?_getD, List.getElem?_set_self (by omega)]; rfl
theorem rdn5 (l : List Int) (i : Int) : rd_T5 l ((i.toNat : Nat) : Int) = rd_T5 l i := rfl
theorem rdset5 (l : List Int) (i : Int) (y : Int) (h : i < (l.length : Int)) (h0 : 0 ≤ i) : rd_T5 (l.set i.toNat y) i = y := by
  unfold rd_T5; rw [List.getD_eq_getElem?_getD, List.getElem?_set_self (by omega)]; rfl
theorem rdn88 (l : List S88) (i : Int) : rd_T88 l ((i.toNat : Nat) : Int) = rd_T88 l i := rfl
theorem rdset88 (l : List S88) (i : Int) (y : S88) (h : i < (l.length : Int)) (h0 : 0 ≤ i) : rd_T88 (l.set i.toNat y) i = y := by
  unfold rd_T88; rw [List.getD_eq_getElem?_getD, List.getElem?_set_self (by omega)]; rfl
theorem rdn4 (l : List Bool) (i : Int) : rd_T4 l ((i.toNat : Nat) : Int) = rd_T4 l i := rfl
theorem rdset4 (l : List Bool) (i : Int) (y : Bool) (h : i < (l.length : Int)) (h0 : 0 ≤ i) : rd_T4 (l.set i.toNat y) i = y := by
  unfold rd_T4; rw [List.getD_eq_getElem?_getD, List.getElem?_set_self (by omega)]; rfl
theorem rdn53 (l : List S53) (i : Int) : rd_T53 l ((i.toNat : Nat) : Int) = rd_T53 l i := rfl
theorem rdset53 (l : List S53) (i : Int) (y : S53) (h : i < (l.length : Int)) (h0 : 0 ≤ i) : rd_T53 (l.set i.toNat y) i = y := by
  unfold rd_T53; rw [List.getD_eq_getElem?_getD, List.getElem?_set_self (by omega)]; rfl
theorem rdn40 (l : List S40) (i : Int) : rd_T40 l ((i.toNat : Nat) : Int) = rd_T40 l i := rfl
theorem rdset40 (l : List S40) (i : Int) (y : S40) (h : i < (l.length : Int)) (h0 : 0 ≤ i) : rd_T40 (l.set i.toNat y) i = y := by
  unfold rd_T40; rw [List.getD_eq_getElem?_getD, List.getElem?_set_self (by omega)]; rfl
end Go.Proofs.Yteideicglgpfiaa.M2

/- What the print's plain functions answer, the own ones answer. Written by a program of this session. -/
namespace Go.Proofs.Yteideicglgpfiaa.M2
open Go Go.RowKit Go.Proofs.YteideicglgpfiaaW.PrintWords Go.Proofs.Yteideicglgpfiaa.PK
set_option linter.unusedVariables false
set_option linter.unusedSimpArgs false
theorem laws_big.rel (k : Nat) (l0 : List Int) (r) (h : PK.laws_big.f l0 = some r) (m : Nat) (hm : k ≤ m) : laws_big.f m l0 = some r := by
  rw [PK.laws_big.f] at h
  rw [laws_big.f]
  try simp only [w64_eq, wu8_eq, gt_iff_lt, ge_iff_le, int_beq, fdiv33, fdiv45, bt_eq, tmodN, rdOfB, rdOfL] at h
  try simp only [shlR]
  try simp only [w64_eq, wu8_eq, gt_iff_lt, ge_iff_le, int_beq, fdiv33, fdiv45, bt_eq, tmodN, rdOfB, rdOfL, rdT3_eq, rdT5_eq, seq, maxI, minI, emp_eq, rdn3, rdn5, rdn88, rdn4, rdn53, rdn40]
  refine ?_
  all_goals (try cases h)
  all_goals (try simp only [*, if_true, if_false, ↓reduceIte, Option.bind_some, List.length_cons, List.length_nil, List.length_append, Bool.not_true, Bool.not_false, Bool.true_eq_false, Bool.false_eq_true])
  all_goals (repeat first | rw [if_pos (by omega)] | rw [if_neg (by omega)])
  all_goals first | exact h | apply h | rfl | (simp_all [-Bool.forall_bool]; done) | (simp_all [-Bool.forall_bool]; first | exact h | apply h) | (simp_all [-Bool.forall_bool, emp_eq, int_beq]; done) | (simp_all [-Bool.forall_bool]; (intros; simp_all; done)) | (simp_all [-Bool.forall_bool, rdset3, rdset5, rdset88, rdset4, rdset53, rdset40]; done) | grind

theorem spec_l01Byte.rel (k : Nat) (s0_0 : List Int) (s0_1 : Int) (s0_2 : Int) (r) (h : PK.spec_l01Byte.f s0_0 s0_1 s0_2 = some r) (m : Nat) (hm : k ≤ m) : spec_l01Byte.f m s0_0 s0_1 s0_2 = some (r.1, s0_0, r.2.1, r.2.2) := by
  rw [PK.spec_l01Byte.f] at h
  rw [spec_l01Byte.f]
  try simp only [w64_eq, wu8_eq, gt_iff_lt, ge_iff_le, int_beq, fdiv33, fdiv45, bt_eq, tmodN, rdOfB, rdOfL] at h
  try simp only [shlR]
  try simp only [w64_eq, wu8_eq, gt_iff_lt, ge_iff_le, int_beq, fdiv33, fdiv45, bt_eq, tmodN, rdOfB, rdOfL, rdT3_eq, rdT5_eq, seq, maxI, minI, emp_eq, rdn3, rdn5, rdn88, rdn4, rdn53, rdn40]
  refine (itE h (fun q h => (itE h (fun q h => ?_) (fun q h => (noE h)))) (fun q h => ?_))
  all_goals (try cases h)
  all_goals (try simp only [*, if_true, if_false, ↓reduceIte, Option.bind_some, List.length_cons, List.length_nil, List.length_append, Bool.not_true, Bool.not_false, Bool.true_eq_false, Bool.false_eq_true])
  all_goals (repeat first | rw [if_pos (by omega)] | rw [if_neg (by omega)])
  all_goals first | exact h | apply h | rfl | (simp_all [-Bool.forall_bool]; done) | (simp_all [-Bool.forall_bool]; first | exact h | apply h) | (simp_all [-Bool.forall_bool, emp_eq, int_beq]; done) | (simp_all [-Bool.forall_bool]; (intros; simp_all; done)) | (simp_all [-Bool.forall_bool, rdset3, rdset5, rdset88, rdset4, rdset53, rdset40]; done) | grind

theorem spec_l01Below.rel (k : Nat) (s0_0 : List Int) (s0_1 : Int) (s0_2 : Int) (a1 : Int) (r) (h : PK.spec_l01Below.f s0_0 s0_1 s0_2 a1 = some r) (m : Nat) (hm : k ≤ m) : spec_l01Below.f m a1 s0_0 s0_1 s0_2 = some (r.1, s0_0, r.2.1, r.2.2) := by
  rw [PK.spec_l01Below.f] at h
  rw [spec_l01Below.f]
  try simp only [w64_eq, wu8_eq, gt_iff_lt, ge_iff_le, int_beq, fdiv33, fdiv45, bt_eq, tmodN, rdOfB, rdOfL] at h
  try simp only [shlR]
  try simp only [w64_eq, wu8_eq, gt_iff_lt, ge_iff_le, int_beq, fdiv33, fdiv45, bt_eq, tmodN, rdOfB, rdOfL, rdT3_eq, rdT5_eq, seq, maxI, minI, emp_eq, rdn3, rdn5, rdn88, rdn4, rdn53, rdn40]
  refine (itE h (fun q h => ?_) (fun q h => (itE h (fun q h => (bnE h (fun _ g h => (fun g => (itE h (fun q h => (noE h)) (fun q h => ?_))) (spec_l01Byte.rel m _ _ _ _ g m (by omega))))) (fun q h => (bnE h (fun _ g h => (fun g => (bnE h (fun _ g h => (fun g => (bnE h (fun _ g h => (fun g => (bnE h (fun _ g h => (fun g => (itE h (fun q h => (noE h)) (fun q h => ?_))) (spec_l01Byte.rel m _ _ _ _ g m (by omega))))) (spec_l01Byte.rel m _ _ _ _ g m (by omega))))) (spec_l01Byte.rel m _ _ _ _ g m (by omega))))) (spec_l01Byte.rel m _ _ _ _ g m (by omega))))))))
  all_goals (try cases h)
  all_goals (try simp only [*, if_true, if_false, ↓reduceIte, Option.bind_some, List.length_cons, List.length_nil, List.length_append, Bool.not_true, Bool.not_false, Bool.true_eq_false, Bool.false_eq_true])
  all_goals (repeat first | rw [if_pos (by omega)] | rw [if_neg (by omega)])
  all_goals first | exact h | apply h | rfl | (simp_all [-Bool.forall_bool]; done) | (simp_all [-Bool.forall_bool]; first | exact h | apply h) | (simp_all [-Bool.forall_bool, emp_eq, int_beq]; done) | (simp_all [-Bool.forall_bool]; (intros; simp_all; done)) | (simp_all [-Bool.forall_bool, rdset3, rdset5, rdset88, rdset4, rdset53, rdset40]; done) | grind

theorem spec_l01Once.rel (k : Nat) (s0_0 : List Int) (s0_1 : Int) (s0_2 : Int) (a1 : Int) (r) (h : PK.spec_l01Once.f s0_0 s0_1 s0_2 a1 = some r) (m : Nat) (hm : k ≤ m) : spec_l01Once.f m a1 s0_0 s0_1 s0_2 = some (r.1, s0_0, r.2.1, r.2.2) := by
  rw [PK.spec_l01Once.f] at h
  rw [spec_l01Once.f]
  try simp only [w64_eq, wu8_eq, gt_iff_lt, ge_iff_le, int_beq, fdiv33, fdiv45, bt_eq, tmodN, rdOfB, rdOfL] at h
  try simp only [shlR]
  try simp only [w64_eq, wu8_eq, gt_iff_lt, ge_iff_le, int_beq, fdiv33, fdiv45, bt_eq, tmodN, rdOfB, rdOfL, rdT3_eq, rdT5_eq, seq, maxI, minI, emp_eq, rdn3, rdn5, rdn88, rdn4, rdn53, rdn40]
  refine (bnE h (fun _ g h => (fun g => ?_) (spec_l01Below.rel m _ _ _ _ _ g m (by omega))))
  all_goals (try cases h)
  all_goals (try simp only [*, if_true, if_false, ↓reduceIte, Option.bind_some, List.length_cons, List.length_nil, List.length_append, Bool.not_true, Bool.not_false, Bool.true_eq_false, Bool.false_eq_true])
  all_goals (repeat first | rw [if_pos (by omega)] | rw [if_neg (by omega)])
  all_goals first | exact h | apply h | rfl | (simp_all [-Bool.forall_bool]; done) | (simp_all [-Bool.forall_bool]; first | exact h | apply h) | (simp_all [-Bool.forall_bool, emp_eq, int_beq]; done) | (simp_all [-Bool.forall_bool]; (intros; simp_all; done)) | (simp_all [-Bool.forall_bool, rdset3, rdset5, rdset88, rdset4, rdset53, rdset40]; done) | grind

theorem spec_l01New.rel_l (k : Nat) : (∀ x0 x3 x4 r, PK.spec_l01New.l0 k x0 x3 x4 = some r → ∀ m, k ≤ m → spec_l01New.c3 m x0 x3 x4 = some (r.1, r.2.1, r.2.2)) := by
  induction k using Nat.strongRecOn with
  | _ k ih =>
  have il0 := fun k' hk' => (ih k' hk')
  clear ih
  intro x0 x3 x4 r h m hm
  cases k with
  | zero => simp only [PK.spec_l01New.l0] at h; cases h
  | succ k =>
    obtain ⟨m, rfl⟩ : ∃ m', m = m' + 1 := ⟨m - 1, by omega⟩
    rw [PK.spec_l01New.l0] at h
    rw [spec_l01New.c3]
    try simp only [w64_eq, wu8_eq, gt_iff_lt, ge_iff_le, int_beq, fdiv33, fdiv45, bt_eq, tmodN, rdOfB, rdOfL] at h
    try simp only [shlR]
    try simp only [w64_eq, wu8_eq, gt_iff_lt, ge_iff_le, int_beq, fdiv33, fdiv45, bt_eq, tmodN, rdOfB, rdOfL, rdT3_eq, rdT5_eq, seq, maxI, minI, emp_eq, rdn3, rdn5, rdn88, rdn4, rdn53, rdn40]
    refine (itE h (fun q h => (itE h (fun q h => (itE h (fun q h => ((fun h => ?_) (il0 _ (by omega) _ _ _ _ h m (by omega)))) (fun q h => (noE h)))) (fun q h => ?_))) (fun q h => ?_))
    all_goals clear il0
    all_goals (try cases h)
    all_goals (try simp only [*, if_true, if_false, ↓reduceIte, Option.bind_some, List.length_cons, List.length_nil, List.length_append, Bool.not_true, Bool.not_false, Bool.true_eq_false, Bool.false_eq_true])
    all_goals (repeat first | rw [if_pos (by omega)] | rw [if_neg (by omega)])
    all_goals first | exact h | apply h | rfl | (simp_all [-Bool.forall_bool]; done) | (simp_all [-Bool.forall_bool]; first | exact h | apply h) | (simp_all [-Bool.forall_bool, emp_eq, int_beq]; done) | (simp_all [-Bool.forall_bool]; (intros; simp_all; done)) | (simp_all [-Bool.forall_bool, rdset3, rdset5, rdset88, rdset4, rdset53, rdset40]; done) | grind
theorem spec_l01New.rel (k : Nat) (l0 : List Int) (r) (h : PK.spec_l01New.f k l0 = some r) (m : Nat) (hm : k ≤ m) : spec_l01New.f m l0 = some (r.1, r.2.1, r.2.2) := by
  have il0 := fun k' (_ : k' < k + 1) => (spec_l01New.rel_l k')
  rw [PK.spec_l01New.f] at h
  rw [spec_l01New.f]
  try simp only [w64_eq, wu8_eq, gt_iff_lt, ge_iff_le, int_beq, fdiv33, fdiv45, bt_eq, tmodN, rdOfB, rdOfL] at h
  try simp only [shlR]
  try simp only [w64_eq, wu8_eq, gt_iff_lt, ge_iff_le, int_beq, fdiv33, fdiv45, bt_eq, tmodN, rdOfB, rdOfL, rdT3_eq, rdT5_eq, seq, maxI, minI, emp_eq, rdn3, rdn5, rdn88, rdn4, rdn53, rdn40]
  refine ((fun h => ?_) (il0 _ (by omega) _ _ _ _ h m (by omega)))
  all_goals clear il0
  all_goals (try cases h)
  all_goals (try simp only [*, if_true, if_false, ↓reduceIte, Option.bind_some, List.length_cons, List.length_nil, List.length_append, Bool.not_true, Bool.not_false, Bool.true_eq_false, Bool.false_eq_true])
  all_goals (repeat first | rw [if_pos (by omega)] | rw [if_neg (by omega)])
  all_goals first | exact h | apply h | rfl | (simp_all [-Bool.forall_bool]; done) | (simp_all [-Bool.forall_bool]; first | exact h | apply h) | (simp_all [-Bool.forall_bool, emp_eq, int_beq]; done) | (simp_all [-Bool.forall_bool]; (intros; simp_all; done)) | (simp_all [-Bool.forall_bool, rdset3, rdset5, rdset88, rdset4, rdset53, rdset40]; done) | grind
end Go.Proofs.Yteideicglgpfiaa.M2

/- What the print's plain functions answer, the own ones answer. Written by a program of this session. -/
namespace Go.Proofs.Yteideicglgpfiaa.M2
open Go Go.RowKit Go.Proofs.YteideicglgpfiaaW.PrintWords Go.Proofs.Yteideicglgpfiaa.PK
set_option linter.unusedVariables false
set_option linter.unusedSimpArgs false
theorem spec_l01In.rel (k : Nat) (a0 : Int) (a1 : Int) (a2 : Int) (r) (h : PK.spec_l01In.f a0 a1 a2 = some r) (m : Nat) (hm : k ≤ m) : spec_l01In.f m a0 a1 a2 = some r := by
  rw [PK.spec_l01In.f] at h
  rw [spec_l01In.f]
  try simp only [w64_eq, wu8_eq, gt_iff_lt, ge_iff_le, int_beq, fdiv33, fdiv45, bt_eq, tmodN, rdOfB, rdOfL] at h
  try simp only [shlR]
  try simp only [w64_eq, wu8_eq, gt_iff_lt, ge_iff_le, int_beq, fdiv33, fdiv45, bt_eq, tmodN, rdOfB, rdOfL, rdT3_eq, rdT5_eq, seq, maxI, minI, emp_eq, rdn3, rdn5, rdn88, rdn4, rdn53, rdn40]
  refine (itE h (fun q h => ?_) (fun q h => ?_))
  all_goals (try cases h)
  all_goals (try simp only [*, if_true, if_false, ↓reduceIte, Option.bind_some, List.length_cons, List.length_nil, List.length_append, Bool.not_true, Bool.not_false, Bool.true_eq_false, Bool.false_eq_true])
  all_goals (repeat first | rw [if_pos (by omega)] | rw [if_neg (by omega)])
  all_goals first | exact h | apply h | rfl | (simp_all [-Bool.forall_bool]; done) | (simp_all [-Bool.forall_bool]; first | exact h | apply h) | (simp_all [-Bool.forall_bool, emp_eq, int_beq]; done) | (simp_all [-Bool.forall_bool]; (intros; simp_all; done)) | (simp_all [-Bool.forall_bool, rdset3, rdset5, rdset88, rdset4, rdset53, rdset40]; done) | grind

theorem spec_ArenaOk.rel_l (k : Nat) : (∀ x3 x111000 r, PK.spec_ArenaOk.l0 k x3 x111000 = some r → ∀ m, k ≤ m → spec_ArenaOk.c2 m x3 x111000 = some r) ∧ (∀ x3 x5 x111000 x113000 x113001 r, PK.spec_ArenaOk.l1 k x3 x5 x111000 x113000 x113001 = some r → ∀ m, k ≤ m → spec_ArenaOk.c8 m x3 x5 x111000 x113000 x113001 = some r) := by
  induction k using Nat.strongRecOn with
  | _ k ih =>
  have il0 := fun k' hk' => (ih k' hk').1
  have il1 := fun k' hk' => (ih k' hk').2
  clear ih
  refine ⟨?_, ?_⟩
  · intro x3 x111000 r h m hm
    cases k with
    | zero => simp only [PK.spec_ArenaOk.l0] at h; cases h
    | succ k =>
      obtain ⟨m, rfl⟩ : ∃ m', m = m' + 1 := ⟨m - 1, by omega⟩
      rw [PK.spec_ArenaOk.l0] at h
      rw [spec_ArenaOk.c2]
      try simp only [w64_eq, wu8_eq, gt_iff_lt, ge_iff_le, int_beq, fdiv33, fdiv45, bt_eq, tmodN, rdOfB, rdOfL] at h
      try simp only [shlR]
      try simp only [w64_eq, wu8_eq, gt_iff_lt, ge_iff_le, int_beq, fdiv33, fdiv45, bt_eq, tmodN, rdOfB, rdOfL, rdT3_eq, rdT5_eq, seq, maxI, minI, emp_eq, rdn3, rdn5, rdn88, rdn4, rdn53, rdn40]
      refine (itE h (fun q h => (itE h (fun q h => (itE h (fun q h => ((fun h => ?_) (il1 _ (by omega) _ _ _ _ _ _ h m (by omega)))) (fun q h => ?_))) (fun q h => (noE h)))) (fun q h => ?_))
      all_goals clear il0 il1
      all_goals (try cases h)
      all_goals (try simp only [*, if_true, if_false, ↓reduceIte, Option.bind_some, List.length_cons, List.length_nil, List.length_append, Bool.not_true, Bool.not_false, Bool.true_eq_false, Bool.false_eq_true])
      all_goals (repeat first | rw [if_pos (by omega)] | rw [if_neg (by omega)])
      all_goals first | exact h | apply h | rfl | (simp_all [-Bool.forall_bool]; done) | (simp_all [-Bool.forall_bool]; first | exact h | apply h) | (simp_all [-Bool.forall_bool, emp_eq, int_beq]; done) | (simp_all [-Bool.forall_bool]; (intros; simp_all; done)) | (simp_all [-Bool.forall_bool, rdset3, rdset5, rdset88, rdset4, rdset53, rdset40]; done) | grind
  · intro x3 x5 x111000 x113000 x113001 r h m hm
    cases k with
    | zero => simp only [PK.spec_ArenaOk.l1] at h; cases h
    | succ k =>
      obtain ⟨m, rfl⟩ : ∃ m', m = m' + 1 := ⟨m - 1, by omega⟩
      rw [PK.spec_ArenaOk.l1] at h
      rw [spec_ArenaOk.c8]
      try simp only [w64_eq, wu8_eq, gt_iff_lt, ge_iff_le, int_beq, fdiv33, fdiv45, bt_eq, tmodN, rdOfB, rdOfL] at h
      try simp only [shlR]
      try simp only [w64_eq, wu8_eq, gt_iff_lt, ge_iff_le, int_beq, fdiv33, fdiv45, bt_eq, tmodN, rdOfB, rdOfL, rdT3_eq, rdT5_eq, seq, maxI, minI, emp_eq, rdn3, rdn5, rdn88, rdn4, rdn53, rdn40]
      refine (itE h (fun q h => (itE h (fun q h => (itE h (fun q h => (itE h (fun q h => (itE h (fun q h => ?_) (fun q h => ((fun h => ?_) (il1 _ (by omega) _ _ _ _ _ _ h m (by omega)))))) (fun q h => (itE h (fun q h => ((fun h => ?_) (il1 _ (by omega) _ _ _ _ _ _ h m (by omega)))) (fun q h => (bnE h (fun _ g h => (fun g => (itE h (fun q h => (itE h (fun q h => (itE h (fun q h => (itE h (fun q h => ((fun h => ?_) (il1 _ (by omega) _ _ _ _ _ _ h m (by omega)))) (fun q h => ?_))) (fun q h => (noE h)))) (fun q h => (noE h)))) (fun q h => ?_))) (spec_l01In.rel m _ _ _ _ g m (by omega))))))))) (fun q h => (noE h)))) (fun q h => (noE h)))) (fun q h => ((fun h => ?_) (il0 _ (by omega) _ _ _ h m (by omega)))))
      all_goals clear il0 il1
      all_goals (try cases h)
      all_goals (try simp only [*, if_true, if_false, ↓reduceIte, Option.bind_some, List.length_cons, List.length_nil, List.length_append, Bool.not_true, Bool.not_false, Bool.true_eq_false, Bool.false_eq_true])
      all_goals (repeat first | rw [if_pos (by omega)] | rw [if_neg (by omega)])
      all_goals first | exact h | apply h | rfl | (simp_all [-Bool.forall_bool]; done) | (simp_all [-Bool.forall_bool]; first | exact h | apply h) | (simp_all [-Bool.forall_bool, emp_eq, int_beq]; done) | (simp_all [-Bool.forall_bool]; (intros; simp_all; done)) | (simp_all [-Bool.forall_bool, rdset3, rdset5, rdset88, rdset4, rdset53, rdset40]; done) | grind
theorem spec_ArenaOk.rel (k : Nat) (l0_0 : List (S88)) (r) (h : PK.spec_ArenaOk.f k l0_0 = some r) (m : Nat) (hm : k ≤ m) : spec_ArenaOk.f m l0_0 = some r := by
  have il0 := fun k' (_ : k' < k + 1) => (spec_ArenaOk.rel_l k').1
  have il1 := fun k' (_ : k' < k + 1) => (spec_ArenaOk.rel_l k').2
  rw [PK.spec_ArenaOk.f] at h
  rw [spec_ArenaOk.f]
  try simp only [w64_eq, wu8_eq, gt_iff_lt, ge_iff_le, int_beq, fdiv33, fdiv45, bt_eq, tmodN, rdOfB, rdOfL] at h
  try simp only [shlR]
  try simp only [w64_eq, wu8_eq, gt_iff_lt, ge_iff_le, int_beq, fdiv33, fdiv45, bt_eq, tmodN, rdOfB, rdOfL, rdT3_eq, rdT5_eq, seq, maxI, minI, emp_eq, rdn3, rdn5, rdn88, rdn4, rdn53, rdn40]
  refine ((fun h => ?_) (il0 _ (by omega) _ _ _ h m (by omega)))
  all_goals clear il0 il1
  all_goals (try cases h)
  all_goals (try simp only [*, if_true, if_false, ↓reduceIte, Option.bind_some, List.length_cons, List.length_nil, List.length_append, Bool.not_true, Bool.not_false, Bool.true_eq_false, Bool.false_eq_true])
  all_goals (repeat first | rw [if_pos (by omega)] | rw [if_neg (by omega)])
  all_goals first | exact h | apply h | rfl | (simp_all [-Bool.forall_bool]; done) | (simp_all [-Bool.forall_bool]; first | exact h | apply h) | (simp_all [-Bool.forall_bool, emp_eq, int_beq]; done) | (simp_all [-Bool.forall_bool]; (intros; simp_all; done)) | (simp_all [-Bool.forall_bool, rdset3, rdset5, rdset88, rdset4, rdset53, rdset40]; done) | grind
end Go.Proofs.Yteideicglgpfiaa.M2

/- What the print's plain functions answer, the own ones answer. Written by a program of this session. -/
namespace Go.Proofs.Yteideicglgpfiaa.M2
open Go Go.RowKit Go.Proofs.YteideicglgpfiaaW.PrintWords Go.Proofs.Yteideicglgpfiaa.PK
set_option linter.unusedVariables false
set_option linter.unusedSimpArgs false
theorem impl_in.rel (k : Nat) (a0 : Int) (a1 : Int) (a2 : Int) (r) (h : PK.impl_in.f a0 a1 a2 = some r) (m : Nat) (hm : k ≤ m) : impl_in.f m a0 a1 a2 = some r := by
  rw [PK.impl_in.f] at h
  rw [impl_in.f]
  try simp only [w64_eq, wu8_eq, gt_iff_lt, ge_iff_le, int_beq, fdiv33, fdiv45, bt_eq, tmodN, rdOfB, rdOfL] at h
  try simp only [shlR]
  try simp only [w64_eq, wu8_eq, gt_iff_lt, ge_iff_le, int_beq, fdiv33, fdiv45, bt_eq, tmodN, rdOfB, rdOfL, rdT3_eq, rdT5_eq, seq, maxI, minI, emp_eq, rdn3, rdn5, rdn88, rdn4, rdn53, rdn40]
  refine (itE h (fun q h => ?_) (fun q h => ?_))
  all_goals (try cases h)
  all_goals (try simp only [*, if_true, if_false, ↓reduceIte, Option.bind_some, List.length_cons, List.length_nil, List.length_append, Bool.not_true, Bool.not_false, Bool.true_eq_false, Bool.false_eq_true])
  all_goals (repeat first | rw [if_pos (by omega)] | rw [if_neg (by omega)])
  all_goals first | exact h | apply h | rfl | (simp_all [-Bool.forall_bool]; done) | (simp_all [-Bool.forall_bool]; first | exact h | apply h) | (simp_all [-Bool.forall_bool, emp_eq, int_beq]; done) | (simp_all [-Bool.forall_bool]; (intros; simp_all; done)) | (simp_all [-Bool.forall_bool, rdset3, rdset5, rdset88, rdset4, rdset53, rdset40]; done) | grind

theorem impl_RecOk.rel (k : Nat) (a0_0 : Int) (a0_1 : Int) (a0_2 : Int) (a0_3 : Int) (r) (h : PK.impl_RecOk.f k a0_0 a0_1 a0_2 a0_3 = some r) (m : Nat) (hm : k ≤ m) : impl_RecOk.f m a0_0 a0_1 a0_2 a0_3 = some r := by
  rw [PK.impl_RecOk.f] at h
  rw [impl_RecOk.f]
  try simp only [w64_eq, wu8_eq, gt_iff_lt, ge_iff_le, int_beq, fdiv33, fdiv45, bt_eq, tmodN, rdOfB, rdOfL] at h
  try simp only [shlR]
  try simp only [w64_eq, wu8_eq, gt_iff_lt, ge_iff_le, int_beq, fdiv33, fdiv45, bt_eq, tmodN, rdOfB, rdOfL, rdT3_eq, rdT5_eq, seq, maxI, minI, emp_eq, rdn3, rdn5, rdn88, rdn4, rdn53, rdn40]
  refine (itE h (fun q h => (itE h (fun q h => (bnE h (fun _ g h => (fun g => (itE h (fun q h => ?_) (fun q h => ?_))) (impl_in.rel m _ _ _ _ g m (by omega))))) (fun q h => ?_))) (fun q h => (bnE h (fun _ g h => (fun g => (itE h (fun q h => (itE h (fun q h => (by cases k with | zero => (simp only [PK.impl_RecOk.j0] at h; cases h) | succ k => (rw [PK.impl_RecOk.j0] at h; (try simp only [w64_eq, wu8_eq, gt_iff_lt, ge_iff_le, int_beq, fdiv33, fdiv45, bt_eq, tmodN, rdOfB, rdOfL] at h); refine (itE h (fun q h => ?_) (fun q h => (itE h (fun q h => (bnE h (fun _ g h => (fun g => ?_) (impl_in.rel m _ _ _ _ g m (by omega))))) (fun q h => (itE h (fun q h => ?_) (fun q h => (itE h (fun q h => (bnE h (fun _ g h => (fun g => (itE h (fun q h => (bnE h (fun _ g h => (fun g => ?_) (impl_in.rel m _ _ _ _ g m (by omega))))) (fun q h => ?_))) (impl_in.rel m _ _ _ _ g m (by omega))))) (fun q h => (itE h (fun q h => (bnE h (fun _ g h => (fun g => ?_) (impl_in.rel m _ _ _ _ g m (by omega))))) (fun q h => ?_)))))))))) <;> ((try cases h); (try simp only [*, if_true, if_false, ↓reduceIte, Option.bind_some, List.length_cons, List.length_nil, List.length_append, Bool.not_true, Bool.not_false, Bool.true_eq_false, Bool.false_eq_true]); all_goals (repeat first | rw [if_pos (by omega)] | rw [if_neg (by omega)]); all_goals (first | exact h | apply h | rfl | (simp_all [-Bool.forall_bool]; done) | (simp_all [-Bool.forall_bool]; first | exact h | apply h) | (simp_all [-Bool.forall_bool, emp_eq, int_beq]; done) | (simp_all [-Bool.forall_bool]; (intros; simp_all; done)) | (simp_all [-Bool.forall_bool, rdset3, rdset5, rdset88, rdset4, rdset53, rdset40]; done) | grind))))) (fun q h => (by cases k with | zero => (simp only [PK.impl_RecOk.j0] at h; cases h) | succ k => (rw [PK.impl_RecOk.j0] at h; (try simp only [w64_eq, wu8_eq, gt_iff_lt, ge_iff_le, int_beq, fdiv33, fdiv45, bt_eq, tmodN, rdOfB, rdOfL] at h); refine (itE h (fun q h => ?_) (fun q h => (itE h (fun q h => (bnE h (fun _ g h => (fun g => ?_) (impl_in.rel m _ _ _ _ g m (by omega))))) (fun q h => (itE h (fun q h => ?_) (fun q h => (itE h (fun q h => (bnE h (fun _ g h => (fun g => (itE h (fun q h => (bnE h (fun _ g h => (fun g => ?_) (impl_in.rel m _ _ _ _ g m (by omega))))) (fun q h => ?_))) (impl_in.rel m _ _ _ _ g m (by omega))))) (fun q h => (itE h (fun q h => (bnE h (fun _ g h => (fun g => ?_) (impl_in.rel m _ _ _ _ g m (by omega))))) (fun q h => ?_)))))))))) <;> ((try cases h); (try simp only [*, if_true, if_false, ↓reduceIte, Option.bind_some, List.length_cons, List.length_nil, List.length_append, Bool.not_true, Bool.not_false, Bool.true_eq_false, Bool.false_eq_true]); all_goals (repeat first | rw [if_pos (by omega)] | rw [if_neg (by omega)]); all_goals (first | exact h | apply h | rfl | (simp_all [-Bool.forall_bool]; done) | (simp_all [-Bool.forall_bool]; first | exact h | apply h) | (simp_all [-Bool.forall_bool, emp_eq, int_beq]; done) | (simp_all [-Bool.forall_bool]; (intros; simp_all; done)) | (simp_all [-Bool.forall_bool, rdset3, rdset5, rdset88, rdset4, rdset53, rdset40]; done) | grind))))))) (fun q h => (by cases k with | zero => (simp only [PK.impl_RecOk.j0] at h; cases h) | succ k => (rw [PK.impl_RecOk.j0] at h; (try simp only [w64_eq, wu8_eq, gt_iff_lt, ge_iff_le, int_beq, fdiv33, fdiv45, bt_eq, tmodN, rdOfB, rdOfL] at h); refine (itE h (fun q h => ?_) (fun q h => (itE h (fun q h => (bnE h (fun _ g h => (fun g => ?_) (impl_in.rel m _ _ _ _ g m (by omega))))) (fun q h => (itE h (fun q h => ?_) (fun q h => (itE h (fun q h => (bnE h (fun _ g h => (fun g => (itE h (fun q h => (bnE h (fun _ g h => (fun g => ?_) (impl_in.rel m _ _ _ _ g m (by omega))))) (fun q h => ?_))) (impl_in.rel m _ _ _ _ g m (by omega))))) (fun q h => (itE h (fun q h => (bnE h (fun _ g h => (fun g => ?_) (impl_in.rel m _ _ _ _ g m (by omega))))) (fun q h => ?_)))))))))) <;> ((try cases h); (try simp only [*, if_true, if_false, ↓reduceIte, Option.bind_some, List.length_cons, List.length_nil, List.length_append, Bool.not_true, Bool.not_false, Bool.true_eq_false, Bool.false_eq_true]); all_goals (repeat first | rw [if_pos (by omega)] | rw [if_neg (by omega)]); all_goals (first | exact h | apply h | rfl | (simp_all [-Bool.forall_bool]; done) | (simp_all [-Bool.forall_bool]; first | exact h | apply h) | (simp_all [-Bool.forall_bool, emp_eq, int_beq]; done) | (simp_all [-Bool.forall_bool]; (intros; simp_all; done)) | (simp_all [-Bool.forall_bool, rdset3, rdset5, rdset88, rdset4, rdset53, rdset40]; done) | grind))))))) (impl_in.rel m _ _ _ _ g m (by omega))))))
  all_goals (try cases h)
  all_goals (try simp only [*, if_true, if_false, ↓reduceIte, Option.bind_some, List.length_cons, List.length_nil, List.length_append, Bool.not_true, Bool.not_false, Bool.true_eq_false, Bool.false_eq_true])
  all_goals (repeat first | rw [if_pos (by omega)] | rw [if_neg (by omega)])
  all_goals first | exact h | apply h | rfl | (simp_all [-Bool.forall_bool]; done) | (simp_all [-Bool.forall_bool]; first | exact h | apply h) | (simp_all [-Bool.forall_bool, emp_eq, int_beq]; done) | (simp_all [-Bool.forall_bool]; (intros; simp_all; done)) | (simp_all [-Bool.forall_bool, rdset3, rdset5, rdset88, rdset4, rdset53, rdset40]; done) | grind
end Go.Proofs.Yteideicglgpfiaa.M2

/- What the print's plain functions answer, the own ones answer. Written by a program of this session. -/
namespace Go.Proofs.Yteideicglgpfiaa.M2
open Go Go.RowKit Go.Proofs.YteideicglgpfiaaW.PrintWords Go.Proofs.Yteideicglgpfiaa.PK
set_option linter.unusedVariables false
set_option linter.unusedSimpArgs false
theorem impl_ArenaOk.rel_l (k : Nat) : (∀ x8 x9 x10 x496000 r, PK.impl_ArenaOk.l0 k x8 x9 x10 x496000 = some r → ∀ m, k ≤ m → impl_ArenaOk.c2 m x8 x9 x10 x496000 = some r) ∧ (∀ x3 x8 x9 x10 x20 x21 x22 x496000 x498000 x498001 r, PK.impl_ArenaOk.l1 k x3 x8 x9 x10 x20 x21 x22 x496000 x498000 x498001 = some r → ∀ m, k ≤ m → impl_ArenaOk.c7 m x3 x8 x9 x10 x20 x21 x22 x496000 x498000 x498001 = some r) := by
  induction k using Nat.strongRecOn with
  | _ k ih =>
  have il0 := fun k' hk' => (ih k' hk').1
  have il1 := fun k' hk' => (ih k' hk').2
  clear ih
  refine ⟨?_, ?_⟩
  · intro x8 x9 x10 x496000 r h m hm
    cases k with
    | zero => simp only [PK.impl_ArenaOk.l0] at h; cases h
    | succ k =>
      obtain ⟨m, rfl⟩ : ∃ m', m = m' + 1 := ⟨m - 1, by omega⟩
      rw [PK.impl_ArenaOk.l0] at h
      rw [impl_ArenaOk.c2]
      try simp only [w64_eq, wu8_eq, gt_iff_lt, ge_iff_le, int_beq, fdiv33, fdiv45, bt_eq, tmodN, rdOfB, rdOfL] at h
      try simp only [shlR]
      try simp only [w64_eq, wu8_eq, gt_iff_lt, ge_iff_le, int_beq, fdiv33, fdiv45, bt_eq, tmodN, rdOfB, rdOfL, rdT3_eq, rdT5_eq, seq, maxI, minI, emp_eq, rdn3, rdn5, rdn88, rdn4, rdn53, rdn40]
      refine (itE h (fun q h => (itE h (fun q h => (itE h (fun q h => (itE h (fun q h => ((fun h => ?_) (il1 _ (by omega) _ _ _ _ _ _ _ _ _ _ _ h m (by omega)))) (fun q h => ?_))) (fun q h => (noE h)))) (fun q h => (noE h)))) (fun q h => ?_))
      all_goals clear il0 il1
      all_goals (try cases h)
      all_goals (try simp only [*, if_true, if_false, ↓reduceIte, Option.bind_some, List.length_cons, List.length_nil, List.length_append, Bool.not_true, Bool.not_false, Bool.true_eq_false, Bool.false_eq_true])
      all_goals (repeat first | rw [if_pos (by omega)] | rw [if_neg (by omega)])
      all_goals first | exact h | apply h | rfl | (simp_all [-Bool.forall_bool]; done) | (simp_all [-Bool.forall_bool]; first | exact h | apply h) | (simp_all [-Bool.forall_bool, emp_eq, int_beq]; done) | (simp_all [-Bool.forall_bool]; (intros; simp_all; done)) | (simp_all [-Bool.forall_bool, rdset3, rdset5, rdset88, rdset4, rdset53, rdset40]; done) | grind
  · intro x3 x8 x9 x10 x20 x21 x22 x496000 x498000 x498001 r h m hm
    cases k with
    | zero => simp only [PK.impl_ArenaOk.l1] at h; cases h
    | succ k =>
      obtain ⟨m, rfl⟩ : ∃ m', m = m' + 1 := ⟨m - 1, by omega⟩
      rw [PK.impl_ArenaOk.l1] at h
      rw [impl_ArenaOk.c7]
      try simp only [w64_eq, wu8_eq, gt_iff_lt, ge_iff_le, int_beq, fdiv33, fdiv45, bt_eq, tmodN, rdOfB, rdOfL] at h
      try simp only [shlR]
      try simp only [w64_eq, wu8_eq, gt_iff_lt, ge_iff_le, int_beq, fdiv33, fdiv45, bt_eq, tmodN, rdOfB, rdOfL, rdT3_eq, rdT5_eq, seq, maxI, minI, emp_eq, rdn3, rdn5, rdn88, rdn4, rdn53, rdn40]
      refine (itE h (fun q h => (itE h (fun q h => (itE h (fun q h => (itE h (fun q h => (itE h (fun q h => ?_) (fun q h => ((fun h => ?_) (il1 _ (by omega) _ _ _ _ _ _ _ _ _ _ _ h m (by omega)))))) (fun q h => (itE h (fun q h => ((fun h => ?_) (il1 _ (by omega) _ _ _ _ _ _ _ _ _ _ _ h m (by omega)))) (fun q h => (bnE h (fun _ g h => (fun g => (itE h (fun q h => (itE h (fun q h => (itE h (fun q h => (itE h (fun q h => ((fun h => ?_) (il1 _ (by omega) _ _ _ _ _ _ _ _ _ _ _ h m (by omega)))) (fun q h => ?_))) (fun q h => (noE h)))) (fun q h => (noE h)))) (fun q h => ?_))) (impl_in.rel m _ _ _ _ g m (by omega))))))))) (fun q h => (noE h)))) (fun q h => (noE h)))) (fun q h => ((fun h => ?_) (il0 _ (by omega) _ _ _ _ _ h m (by omega)))))
      all_goals clear il0 il1
      all_goals (try cases h)
      all_goals (try simp only [*, if_true, if_false, ↓reduceIte, Option.bind_some, List.length_cons, List.length_nil, List.length_append, Bool.not_true, Bool.not_false, Bool.true_eq_false, Bool.false_eq_true])
      all_goals (repeat first | rw [if_pos (by omega)] | rw [if_neg (by omega)])
      all_goals first | exact h | apply h | rfl | (simp_all [-Bool.forall_bool]; done) | (simp_all [-Bool.forall_bool]; first | exact h | apply h) | (simp_all [-Bool.forall_bool, emp_eq, int_beq]; done) | (simp_all [-Bool.forall_bool]; (intros; simp_all; done)) | (simp_all [-Bool.forall_bool, rdset3, rdset5, rdset88, rdset4, rdset53, rdset40]; done) | grind
theorem impl_ArenaOk.rel (k : Nat) (l0_0 : List (S88)) (r) (h : PK.impl_ArenaOk.f k l0_0 = some r) (m : Nat) (hm : k ≤ m) : impl_ArenaOk.f m l0_0 = some r := by
  have il0 := fun k' (_ : k' < k + 1) => (impl_ArenaOk.rel_l k').1
  have il1 := fun k' (_ : k' < k + 1) => (impl_ArenaOk.rel_l k').2
  rw [PK.impl_ArenaOk.f] at h
  rw [impl_ArenaOk.f]
  try simp only [w64_eq, wu8_eq, gt_iff_lt, ge_iff_le, int_beq, fdiv33, fdiv45, bt_eq, tmodN, rdOfB, rdOfL] at h
  try simp only [shlR]
  try simp only [w64_eq, wu8_eq, gt_iff_lt, ge_iff_le, int_beq, fdiv33, fdiv45, bt_eq, tmodN, rdOfB, rdOfL, rdT3_eq, rdT5_eq, seq, maxI, minI, emp_eq, rdn3, rdn5, rdn88, rdn4, rdn53, rdn40]
  refine ((fun h => ?_) (il0 _ (by omega) _ _ _ _ _ h m (by omega)))
  all_goals clear il0 il1
  all_goals (try cases h)
  all_goals (try simp only [*, if_true, if_false, ↓reduceIte, Option.bind_some, List.length_cons, List.length_nil, List.length_append, Bool.not_true, Bool.not_false, Bool.true_eq_false, Bool.false_eq_true])
  all_goals (repeat first | rw [if_pos (by omega)] | rw [if_neg (by omega)])
  all_goals first | exact h | apply h | rfl | (simp_all [-Bool.forall_bool]; done) | (simp_all [-Bool.forall_bool]; first | exact h | apply h) | (simp_all [-Bool.forall_bool, emp_eq, int_beq]; done) | (simp_all [-Bool.forall_bool]; (intros; simp_all; done)) | (simp_all [-Bool.forall_bool, rdset3, rdset5, rdset88, rdset4, rdset53, rdset40]; done) | grind

theorem impl_hasInt.rel_l (k : Nat) : (∀ x1 x7 x8 x9 r, PK.impl_hasInt.l0 k x1 x7 x8 x9 = some r → ∀ m, k ≤ m → impl_hasInt.c2 m x1 x7 x8 x9 = some r) := by
  induction k using Nat.strongRecOn with
  | _ k ih =>
  have il0 := fun k' hk' => (ih k' hk')
  clear ih
  intro x1 x7 x8 x9 r h m hm
  cases k with
  | zero => simp only [PK.impl_hasInt.l0] at h; cases h
  | succ k =>
    obtain ⟨m, rfl⟩ : ∃ m', m = m' + 1 := ⟨m - 1, by omega⟩
    rw [PK.impl_hasInt.l0] at h
    rw [impl_hasInt.c2]
    try simp only [w64_eq, wu8_eq, gt_iff_lt, ge_iff_le, int_beq, fdiv33, fdiv45, bt_eq, tmodN, rdOfB, rdOfL] at h
    try simp only [shlR]
    try simp only [w64_eq, wu8_eq, gt_iff_lt, ge_iff_le, int_beq, fdiv33, fdiv45, bt_eq, tmodN, rdOfB, rdOfL, rdT3_eq, rdT5_eq, seq, maxI, minI, emp_eq, rdn3, rdn5, rdn88, rdn4, rdn53, rdn40]
    refine (itE h (fun q h => (itE h (fun q h => (itE h (fun q h => (itE h (fun q h => ?_) (fun q h => ((fun h => ?_) (il0 _ (by omega) _ _ _ _ _ h m (by omega)))))) (fun q h => (noE h)))) (fun q h => (noE h)))) (fun q h => ?_))
    all_goals clear il0
    all_goals (try cases h)
    all_goals (try simp only [*, if_true, if_false, ↓reduceIte, Option.bind_some, List.length_cons, List.length_nil, List.length_append, Bool.not_true, Bool.not_false, Bool.true_eq_false, Bool.false_eq_true])
    all_goals (repeat first | rw [if_pos (by omega)] | rw [if_neg (by omega)])
    all_goals first | exact h | apply h | rfl | (simp_all [-Bool.forall_bool]; done) | (simp_all [-Bool.forall_bool]; first | exact h | apply h) | (simp_all [-Bool.forall_bool, emp_eq, int_beq]; done) | (simp_all [-Bool.forall_bool]; (intros; simp_all; done)) | (simp_all [-Bool.forall_bool, rdset3, rdset5, rdset88, rdset4, rdset53, rdset40]; done) | grind
theorem impl_hasInt.rel (k : Nat) (l0 : List Int) (a1 : Int) (r) (h : PK.impl_hasInt.f k l0 a1 = some r) (m : Nat) (hm : k ≤ m) : impl_hasInt.f m l0 a1 = some r := by
  have il0 := fun k' (_ : k' < k + 1) => (impl_hasInt.rel_l k')
  rw [PK.impl_hasInt.f] at h
  rw [impl_hasInt.f]
  try simp only [w64_eq, wu8_eq, gt_iff_lt, ge_iff_le, int_beq, fdiv33, fdiv45, bt_eq, tmodN, rdOfB, rdOfL] at h
  try simp only [shlR]
  try simp only [w64_eq, wu8_eq, gt_iff_lt, ge_iff_le, int_beq, fdiv33, fdiv45, bt_eq, tmodN, rdOfB, rdOfL, rdT3_eq, rdT5_eq, seq, maxI, minI, emp_eq, rdn3, rdn5, rdn88, rdn4, rdn53, rdn40]
  refine ((fun h => ?_) (il0 _ (by omega) _ _ _ _ _ h m (by omega)))
  all_goals clear il0
  all_goals (try cases h)
  all_goals (try simp only [*, if_true, if_false, ↓reduceIte, Option.bind_some, List.length_cons, List.length_nil, List.length_append, Bool.not_true, Bool.not_false, Bool.true_eq_false, Bool.false_eq_true])
  all_goals (repeat first | rw [if_pos (by omega)] | rw [if_neg (by omega)])
  all_goals first | exact h | apply h | rfl | (simp_all [-Bool.forall_bool]; done) | (simp_all [-Bool.forall_bool]; first | exact h | apply h) | (simp_all [-Bool.forall_bool, emp_eq, int_beq]; done) | (simp_all [-Bool.forall_bool]; (intros; simp_all; done)) | (simp_all [-Bool.forall_bool, rdset3, rdset5, rdset88, rdset4, rdset53, rdset40]; done) | grind
end Go.Proofs.Yteideicglgpfiaa.M2

/- What the print's plain functions answer, the own ones answer. Written by a program of this session. -/
namespace Go.Proofs.Yteideicglgpfiaa.M2
open Go Go.RowKit Go.Proofs.YteideicglgpfiaaW.PrintWords Go.Proofs.Yteideicglgpfiaa.PK
set_option linter.unusedVariables false
set_option linter.unusedSimpArgs false
theorem impl_isRoot.rel (k : Nat) (l0_0 : List (S88)) (a1 : Int) (r) (h : PK.impl_isRoot.f l0_0 a1 = some r) (m : Nat) (hm : k ≤ m) : impl_isRoot.f m l0_0 a1 = some r := by
  rw [PK.impl_isRoot.f] at h
  rw [impl_isRoot.f]
  try simp only [w64_eq, wu8_eq, gt_iff_lt, ge_iff_le, int_beq, fdiv33, fdiv45, bt_eq, tmodN, rdOfB, rdOfL] at h
  try simp only [shlR]
  try simp only [w64_eq, wu8_eq, gt_iff_lt, ge_iff_le, int_beq, fdiv33, fdiv45, bt_eq, tmodN, rdOfB, rdOfL, rdT3_eq, rdT5_eq, seq, maxI, minI, emp_eq, rdn3, rdn5, rdn88, rdn4, rdn53, rdn40]
  refine (bnE h (fun _ g h => (fun g => (itE h (fun q h => (itE h (fun q h => (itE h (fun q h => ?_) (fun q h => (noE h)))) (fun q h => (noE h)))) (fun q h => ?_))) (impl_in.rel m _ _ _ _ g m (by omega))))
  all_goals (try cases h)
  all_goals (try simp only [*, if_true, if_false, ↓reduceIte, Option.bind_some, List.length_cons, List.length_nil, List.length_append, Bool.not_true, Bool.not_false, Bool.true_eq_false, Bool.false_eq_true])
  all_goals (repeat first | rw [if_pos (by omega)] | rw [if_neg (by omega)])
  all_goals first | exact h | apply h | rfl | (simp_all [-Bool.forall_bool]; done) | (simp_all [-Bool.forall_bool]; first | exact h | apply h) | (simp_all [-Bool.forall_bool, emp_eq, int_beq]; done) | (simp_all [-Bool.forall_bool]; (intros; simp_all; done)) | (simp_all [-Bool.forall_bool, rdset3, rdset5, rdset88, rdset4, rdset53, rdset40]; done) | grind

theorem impl_knotsOf.rel_l (k : Nat) : (∀ x5 x19 x20 x21 x506000 r, PK.impl_knotsOf.l0 k x5 x19 x20 x21 x506000 = some r → ∀ m, k ≤ m → impl_knotsOf.c5 m x19 x20 x21 x506000 x5 = some r) := by
  induction k using Nat.strongRecOn with
  | _ k ih =>
  have il0 := fun k' hk' => (ih k' hk')
  clear ih
  intro x5 x19 x20 x21 x506000 r h m hm
  cases k with
  | zero => simp only [PK.impl_knotsOf.l0] at h; cases h
  | succ k =>
    obtain ⟨m, rfl⟩ : ∃ m', m = m' + 1 := ⟨m - 1, by omega⟩
    rw [PK.impl_knotsOf.l0] at h
    rw [impl_knotsOf.c5]
    try simp only [w64_eq, wu8_eq, gt_iff_lt, ge_iff_le, int_beq, fdiv33, fdiv45, bt_eq, tmodN, rdOfB, rdOfL] at h
    try simp only [shlR]
    try simp only [w64_eq, wu8_eq, gt_iff_lt, ge_iff_le, int_beq, fdiv33, fdiv45, bt_eq, tmodN, rdOfB, rdOfL, rdT3_eq, rdT5_eq, seq, maxI, minI, emp_eq, rdn3, rdn5, rdn88, rdn4, rdn53, rdn40]
    refine (itE h (fun q h => (itE h (fun q h => (itE h (fun q h => (bnE h (fun _ g h => (fun g => (itE h (fun q h => (bnE h (fun _ g h => (fun g => (itE h (fun q h => ((fun h => ?_) (il0 _ (by omega) _ _ _ _ _ _ h m (by omega)))) (fun q h => (itE h (fun q h => ((fun h => ?_) (il0 _ (by omega) _ _ _ _ _ _ h m (by omega)))) (fun q h => (noE h)))))) (impl_hasInt.rel _ _ _ _ g m (by omega))))) (fun q h => ((fun h => ?_) (il0 _ (by omega) _ _ _ _ _ _ h m (by omega)))))) (impl_in.rel m _ _ _ _ g m (by omega))))) (fun q h => (noE h)))) (fun q h => (noE h)))) (fun q h => ?_))
    all_goals clear il0
    all_goals (try cases h)
    all_goals (try simp only [*, if_true, if_false, ↓reduceIte, Option.bind_some, List.length_cons, List.length_nil, List.length_append, Bool.not_true, Bool.not_false, Bool.true_eq_false, Bool.false_eq_true])
    all_goals (repeat first | rw [if_pos (by omega)] | rw [if_neg (by omega)])
    all_goals first | exact h | apply h | rfl | (simp_all [-Bool.forall_bool]; done) | (simp_all [-Bool.forall_bool]; first | exact h | apply h) | (simp_all [-Bool.forall_bool, emp_eq, int_beq]; done) | (simp_all [-Bool.forall_bool]; (intros; simp_all; done)) | (simp_all [-Bool.forall_bool, rdset3, rdset5, rdset88, rdset4, rdset53, rdset40]; done) | grind
theorem impl_knotsOf.rel (k : Nat) (l0_0 : List (S88)) (a1 : Int) (r) (h : PK.impl_knotsOf.f k l0_0 a1 = some r) (m : Nat) (hm : k ≤ m) : impl_knotsOf.f m l0_0 a1 = some r := by
  have il0 := fun k' (_ : k' < k + 1) => (impl_knotsOf.rel_l k')
  rw [PK.impl_knotsOf.f] at h
  rw [impl_knotsOf.f]
  try simp only [w64_eq, wu8_eq, gt_iff_lt, ge_iff_le, int_beq, fdiv33, fdiv45, bt_eq, tmodN, rdOfB, rdOfL] at h
  try simp only [shlR]
  try simp only [w64_eq, wu8_eq, gt_iff_lt, ge_iff_le, int_beq, fdiv33, fdiv45, bt_eq, tmodN, rdOfB, rdOfL, rdT3_eq, rdT5_eq, seq, maxI, minI, emp_eq, rdn3, rdn5, rdn88, rdn4, rdn53, rdn40]
  refine (bnE h (fun _ g h => (fun g => (itE h (fun q h => (itE h (fun q h => (itE h (fun q h => ((fun h => ?_) (il0 _ (by omega) _ _ _ _ _ _ h m (by omega)))) (fun q h => (noE h)))) (fun q h => (noE h)))) (fun q h => ?_))) (impl_isRoot.rel m _ _ _ g m (by omega))))
  all_goals clear il0
  all_goals (try cases h)
  all_goals (try simp only [*, if_true, if_false, ↓reduceIte, Option.bind_some, List.length_cons, List.length_nil, List.length_append, Bool.not_true, Bool.not_false, Bool.true_eq_false, Bool.false_eq_true])
  all_goals (repeat first | rw [if_pos (by omega)] | rw [if_neg (by omega)])
  all_goals first | exact h | apply h | rfl | (simp_all [-Bool.forall_bool]; done) | (simp_all [-Bool.forall_bool]; first | exact h | apply h) | (simp_all [-Bool.forall_bool, emp_eq, int_beq]; done) | (simp_all [-Bool.forall_bool]; (intros; simp_all; done)) | (simp_all [-Bool.forall_bool, rdset3, rdset5, rdset88, rdset4, rdset53, rdset40]; done) | grind

theorem impl_StoreOk.rel_l (k : Nat) : (∀ x3 x27 x28 x29 x518000 x518001 x518002 r, PK.impl_StoreOk.l0 k x3 x27 x28 x29 x518000 x518001 x518002 = some r → ∀ m, k ≤ m → impl_StoreOk.c5 m x27 x28 x29 x518000 x518001 x518002 x3 = some r) ∧ (∀ x3 x77 x78 x79 x518000 x518001 x518002 r, PK.impl_StoreOk.l1 k x3 x77 x78 x79 x518000 x518001 x518002 = some r → ∀ m, k ≤ m → impl_StoreOk.c12 m x77 x78 x79 x518000 x518001 x518002 x3 = some r) ∧ (∀ x3 x77 x78 x79 x89 x90 x91 x518000 x518001 x518002 x552000 x552001 r, PK.impl_StoreOk.l2 k x3 x77 x78 x79 x89 x90 x91 x518000 x518001 x518002 x552000 x552001 = some r → ∀ m, k ≤ m → impl_StoreOk.c17 m x77 x78 x79 x89 x90 x91 x518000 x518001 x518002 x3 x552000 x552001 = some r) := by
  induction k using Nat.strongRecOn with
  | _ k ih =>
  have il0 := fun k' hk' => (ih k' hk').1
  have il1 := fun k' hk' => (ih k' hk').2.1
  have il2 := fun k' hk' => (ih k' hk').2.2
  clear ih
  refine ⟨?_, ?_, ?_⟩
  · intro x3 x27 x28 x29 x518000 x518001 x518002 r h m hm
    cases k with
    | zero => simp only [PK.impl_StoreOk.l0] at h; cases h
    | succ k =>
      obtain ⟨m, rfl⟩ : ∃ m', m = m' + 1 := ⟨m - 1, by omega⟩
      rw [PK.impl_StoreOk.l0] at h
      rw [impl_StoreOk.c5]
      try simp only [w64_eq, wu8_eq, gt_iff_lt, ge_iff_le, int_beq, fdiv33, fdiv45, bt_eq, tmodN, rdOfB, rdOfL] at h
      try simp only [shlR]
      try simp only [w64_eq, wu8_eq, gt_iff_lt, ge_iff_le, int_beq, fdiv33, fdiv45, bt_eq, tmodN, rdOfB, rdOfL, rdT3_eq, rdT5_eq, seq, maxI, minI, emp_eq, rdn3, rdn5, rdn88, rdn4, rdn53, rdn40]
      refine (itE h (fun q h => (itE h (fun q h => (itE h (fun q h => (bnE h (fun _ g h => (fun g => (itE h (fun q h => (itE h (fun q h => (itE h (fun q h => (itE h (fun q h => (itE h (fun q h => ?_) (fun q h => (itE h (fun q h => (bnE h (fun _ g h => (fun g => (itE h (fun q h => ((fun h => ?_) (il0 _ (by omega) _ _ _ _ _ _ _ _ h m (by omega)))) (fun q h => (noE h)))) (impl_knotsOf.rel _ _ _ _ g m (by omega))))) (fun q h => (bnE h (fun _ g h => (fun g => (itE h (fun q h => (bnE h (fun _ g h => (fun g => (itE h (fun q h => ((fun h => ?_) (il0 _ (by omega) _ _ _ _ _ _ _ _ h m (by omega)))) (fun q h => (noE h)))) (impl_knotsOf.rel _ _ _ _ g m (by omega))))) (fun q h => ?_))) (impl_isRoot.rel m _ _ _ g m (by omega))))))))) (fun q h => (noE h)))) (fun q h => (noE h)))) (fun q h => (itE h (fun q h => (bnE h (fun _ g h => (fun g => (itE h (fun q h => ((fun h => ?_) (il0 _ (by omega) _ _ _ _ _ _ _ _ h m (by omega)))) (fun q h => (noE h)))) (impl_knotsOf.rel _ _ _ _ g m (by omega))))) (fun q h => (bnE h (fun _ g h => (fun g => (itE h (fun q h => (bnE h (fun _ g h => (fun g => (itE h (fun q h => ((fun h => ?_) (il0 _ (by omega) _ _ _ _ _ _ _ _ h m (by omega)))) (fun q h => (noE h)))) (impl_knotsOf.rel _ _ _ _ g m (by omega))))) (fun q h => ?_))) (impl_isRoot.rel m _ _ _ g m (by omega))))))))) (fun q h => ?_))) (impl_in.rel m _ _ _ _ g m (by omega))))) (fun q h => (noE h)))) (fun q h => (noE h)))) (fun q h => ((fun h => ?_) (il1 _ (by omega) _ _ _ _ _ _ _ _ h m (by omega)))))
      all_goals clear il0 il1 il2
      all_goals (try cases h)
      all_goals (try simp only [*, if_true, if_false, ↓reduceIte, Option.bind_some, List.length_cons, List.length_nil, List.length_append, Bool.not_true, Bool.not_false, Bool.true_eq_false, Bool.false_eq_true])
      all_goals (repeat first | rw [if_pos (by omega)] | rw [if_neg (by omega)])
      all_goals first | exact h | apply h | rfl | (simp_all [-Bool.forall_bool]; done) | (simp_all [-Bool.forall_bool]; first | exact h | apply h) | (simp_all [-Bool.forall_bool, emp_eq, int_beq]; done) | (simp_all [-Bool.forall_bool]; (intros; simp_all; done)) | (simp_all [-Bool.forall_bool, rdset3, rdset5, rdset88, rdset4, rdset53, rdset40]; done) | grind
  · intro x3 x77 x78 x79 x518000 x518001 x518002 r h m hm
    cases k with
    | zero => simp only [PK.impl_StoreOk.l1] at h; cases h
    | succ k =>
      obtain ⟨m, rfl⟩ : ∃ m', m = m' + 1 := ⟨m - 1, by omega⟩
      rw [PK.impl_StoreOk.l1] at h
      rw [impl_StoreOk.c12]
      try simp only [w64_eq, wu8_eq, gt_iff_lt, ge_iff_le, int_beq, fdiv33, fdiv45, bt_eq, tmodN, rdOfB, rdOfL] at h
      try simp only [shlR]
      try simp only [w64_eq, wu8_eq, gt_iff_lt, ge_iff_le, int_beq, fdiv33, fdiv45, bt_eq, tmodN, rdOfB, rdOfL, rdT3_eq, rdT5_eq, seq, maxI, minI, emp_eq, rdn3, rdn5, rdn88, rdn4, rdn53, rdn40]
      refine (itE h (fun q h => (itE h (fun q h => (itE h (fun q h => (bnE h (fun _ g h => (fun g => (itE h (fun q h => ((fun h => ?_) (il2 _ (by omega) _ _ _ _ _ _ _ _ _ _ _ _ _ h m (by omega)))) (fun q h => ?_))) (impl_hasInt.rel _ _ _ _ g m (by omega))))) (fun q h => (noE h)))) (fun q h => (noE h)))) (fun q h => ?_))
      all_goals clear il0 il1 il2
      all_goals (try cases h)
      all_goals (try simp only [*, if_true, if_false, ↓reduceIte, Option.bind_some, List.length_cons, List.length_nil, List.length_append, Bool.not_true, Bool.not_false, Bool.true_eq_false, Bool.false_eq_true])
      all_goals (repeat first | rw [if_pos (by omega)] | rw [if_neg (by omega)])
      all_goals first | exact h | apply h | rfl | (simp_all [-Bool.forall_bool]; done) | (simp_all [-Bool.forall_bool]; first | exact h | apply h) | (simp_all [-Bool.forall_bool, emp_eq, int_beq]; done) | (simp_all [-Bool.forall_bool]; (intros; simp_all; done)) | (simp_all [-Bool.forall_bool, rdset3, rdset5, rdset88, rdset4, rdset53, rdset40]; done) | grind
  · intro x3 x77 x78 x79 x89 x90 x91 x518000 x518001 x518002 x552000 x552001 r h m hm
    cases k with
    | zero => simp only [PK.impl_StoreOk.l2] at h; cases h
    | succ k =>
      obtain ⟨m, rfl⟩ : ∃ m', m = m' + 1 := ⟨m - 1, by omega⟩
      rw [PK.impl_StoreOk.l2] at h
      rw [impl_StoreOk.c17]
      try simp only [w64_eq, wu8_eq, gt_iff_lt, ge_iff_le, int_beq, fdiv33, fdiv45, bt_eq, tmodN, rdOfB, rdOfL] at h
      try simp only [shlR]
      try simp only [w64_eq, wu8_eq, gt_iff_lt, ge_iff_le, int_beq, fdiv33, fdiv45, bt_eq, tmodN, rdOfB, rdOfL, rdT3_eq, rdT5_eq, seq, maxI, minI, emp_eq, rdn3, rdn5, rdn88, rdn4, rdn53, rdn40]
      refine (itE h (fun q h => (itE h (fun q h => (itE h (fun q h => (itE h (fun q h => (itE h (fun q h => ?_) (fun q h => ((fun h => ?_) (il2 _ (by omega) _ _ _ _ _ _ _ _ _ _ _ _ _ h m (by omega)))))) (fun q h => ((fun h => ?_) (il2 _ (by omega) _ _ _ _ _ _ _ _ _ _ _ _ _ h m (by omega)))))) (fun q h => (noE h)))) (fun q h => (noE h)))) (fun q h => ((fun h => ?_) (il1 _ (by omega) _ _ _ _ _ _ _ _ h m (by omega)))))
      all_goals clear il0 il1 il2
      all_goals (try cases h)
      all_goals (try simp only [*, if_true, if_false, ↓reduceIte, Option.bind_some, List.length_cons, List.length_nil, List.length_append, Bool.not_true, Bool.not_false, Bool.true_eq_false, Bool.false_eq_true])
      all_goals (repeat first | rw [if_pos (by omega)] | rw [if_neg (by omega)])
      all_goals first | exact h | apply h | rfl | (simp_all [-Bool.forall_bool]; done) | (simp_all [-Bool.forall_bool]; first | exact h | apply h) | (simp_all [-Bool.forall_bool, emp_eq, int_beq]; done) | (simp_all [-Bool.forall_bool]; (intros; simp_all; done)) | (simp_all [-Bool.forall_bool, rdset3, rdset5, rdset88, rdset4, rdset53, rdset40]; done) | grind
theorem impl_StoreOk.rel (k : Nat) (l0_0 : List (S53)) (l0_1 : List (S88)) (a0_2 : Int) (r) (h : PK.impl_StoreOk.f k l0_0 l0_1 a0_2 = some r) (m : Nat) (hm : k ≤ m) : impl_StoreOk.f m l0_0 l0_1 a0_2 = some r := by
  have il0 := fun k' (_ : k' < k + 1) => (impl_StoreOk.rel_l k').1
  have il1 := fun k' (_ : k' < k + 1) => (impl_StoreOk.rel_l k').2.1
  have il2 := fun k' (_ : k' < k + 1) => (impl_StoreOk.rel_l k').2.2
  rw [PK.impl_StoreOk.f] at h
  rw [impl_StoreOk.f]
  try simp only [w64_eq, wu8_eq, gt_iff_lt, ge_iff_le, int_beq, fdiv33, fdiv45, bt_eq, tmodN, rdOfB, rdOfL] at h
  try simp only [shlR]
  try simp only [w64_eq, wu8_eq, gt_iff_lt, ge_iff_le, int_beq, fdiv33, fdiv45, bt_eq, tmodN, rdOfB, rdOfL, rdT3_eq, rdT5_eq, seq, maxI, minI, emp_eq, rdn3, rdn5, rdn88, rdn4, rdn53, rdn40]
  refine (itE h (fun q h => (by cases k with | zero => (simp only [PK.impl_StoreOk.j0] at h; cases h) | succ k => (rw [PK.impl_StoreOk.j0] at h; (try simp only [w64_eq, wu8_eq, gt_iff_lt, ge_iff_le, int_beq, fdiv33, fdiv45, bt_eq, tmodN, rdOfB, rdOfL] at h); refine (itE h (fun q h => ?_) (fun q h => ((fun h => ?_) (il0 _ (by omega) _ _ _ _ _ _ _ _ h m (by omega))))) <;> ((try cases h); (try simp only [*, if_true, if_false, ↓reduceIte, Option.bind_some, List.length_cons, List.length_nil, List.length_append, Bool.not_true, Bool.not_false, Bool.true_eq_false, Bool.false_eq_true]); all_goals (repeat first | rw [if_pos (by omega)] | rw [if_neg (by omega)]); all_goals (first | exact h | apply h | rfl | (simp_all [-Bool.forall_bool]; done) | (simp_all [-Bool.forall_bool]; first | exact h | apply h) | (simp_all [-Bool.forall_bool, emp_eq, int_beq]; done) | (simp_all [-Bool.forall_bool]; (intros; simp_all; done)) | (simp_all [-Bool.forall_bool, rdset3, rdset5, rdset88, rdset4, rdset53, rdset40]; done) | grind))))) (fun q h => (bnE h (fun _ g h => (fun g => (itE h (fun q h => (bnE h (fun _ g h => (fun g => (by cases k with | zero => (simp only [PK.impl_StoreOk.j0] at h; cases h) | succ k => (rw [PK.impl_StoreOk.j0] at h; (try simp only [w64_eq, wu8_eq, gt_iff_lt, ge_iff_le, int_beq, fdiv33, fdiv45, bt_eq, tmodN, rdOfB, rdOfL] at h); refine (itE h (fun q h => ?_) (fun q h => ((fun h => ?_) (il0 _ (by omega) _ _ _ _ _ _ _ _ h m (by omega))))) <;> ((try cases h); (try simp only [*, if_true, if_false, ↓reduceIte, Option.bind_some, List.length_cons, List.length_nil, List.length_append, Bool.not_true, Bool.not_false, Bool.true_eq_false, Bool.false_eq_true]); all_goals (repeat first | rw [if_pos (by omega)] | rw [if_neg (by omega)]); all_goals (first | exact h | apply h | rfl | (simp_all [-Bool.forall_bool]; done) | (simp_all [-Bool.forall_bool]; first | exact h | apply h) | (simp_all [-Bool.forall_bool, emp_eq, int_beq]; done) | (simp_all [-Bool.forall_bool]; (intros; simp_all; done)) | (simp_all [-Bool.forall_bool, rdset3, rdset5, rdset88, rdset4, rdset53, rdset40]; done) | grind))))) (impl_in.rel m _ _ _ _ g m (by omega))))) (fun q h => (by cases k with | zero => (simp only [PK.impl_StoreOk.j0] at h; cases h) | succ k => (rw [PK.impl_StoreOk.j0] at h; (try simp only [w64_eq, wu8_eq, gt_iff_lt, ge_iff_le, int_beq, fdiv33, fdiv45, bt_eq, tmodN, rdOfB, rdOfL] at h); refine (itE h (fun q h => ?_) (fun q h => ((fun h => ?_) (il0 _ (by omega) _ _ _ _ _ _ _ _ h m (by omega))))) <;> ((try cases h); (try simp only [*, if_true, if_false, ↓reduceIte, Option.bind_some, List.length_cons, List.length_nil, List.length_append, Bool.not_true, Bool.not_false, Bool.true_eq_false, Bool.false_eq_true]); all_goals (repeat first | rw [if_pos (by omega)] | rw [if_neg (by omega)]); all_goals (first | exact h | apply h | rfl | (simp_all [-Bool.forall_bool]; done) | (simp_all [-Bool.forall_bool]; first | exact h | apply h) | (simp_all [-Bool.forall_bool, emp_eq, int_beq]; done) | (simp_all [-Bool.forall_bool]; (intros; simp_all; done)) | (simp_all [-Bool.forall_bool, rdset3, rdset5, rdset88, rdset4, rdset53, rdset40]; done) | grind))))))) (impl_ArenaOk.rel _ _ _ g m (by omega))))))
  all_goals clear il0 il1 il2
  all_goals (try cases h)
  all_goals (try simp only [*, if_true, if_false, ↓reduceIte, Option.bind_some, List.length_cons, List.length_nil, List.length_append, Bool.not_true, Bool.not_false, Bool.true_eq_false, Bool.false_eq_true])
  all_goals (repeat first | rw [if_pos (by omega)] | rw [if_neg (by omega)])
  all_goals first | exact h | apply h | rfl | (simp_all [-Bool.forall_bool]; done) | (simp_all [-Bool.forall_bool]; first | exact h | apply h) | (simp_all [-Bool.forall_bool, emp_eq, int_beq]; done) | (simp_all [-Bool.forall_bool]; (intros; simp_all; done)) | (simp_all [-Bool.forall_bool, rdset3, rdset5, rdset88, rdset4, rdset53, rdset40]; done) | grind
end Go.Proofs.Yteideicglgpfiaa.M2

/- What the print's plain functions answer, the own ones answer. Written by a program of this session. -/
namespace Go.Proofs.Yteideicglgpfiaa.M2
open Go Go.RowKit Go.Proofs.YteideicglgpfiaaW.PrintWords Go.Proofs.Yteideicglgpfiaa.PK
set_option linter.unusedVariables false
set_option linter.unusedSimpArgs false
theorem impl_copyInts.rel (k : Nat) (l0 : List Int) (r) (h : PK.impl_copyInts.f l0 = some r) (m : Nat) (hm : k ≤ m) : impl_copyInts.f m l0 = some r := by
  rw [PK.impl_copyInts.f] at h
  rw [impl_copyInts.f]
  try simp only [w64_eq, wu8_eq, gt_iff_lt, ge_iff_le, int_beq, fdiv33, fdiv45, bt_eq, tmodN, rdOfB, rdOfL] at h
  try simp only [shlR]
  try simp only [w64_eq, wu8_eq, gt_iff_lt, ge_iff_le, int_beq, fdiv33, fdiv45, bt_eq, tmodN, rdOfB, rdOfL, rdT3_eq, rdT5_eq, seq, maxI, minI, emp_eq, rdn3, rdn5, rdn88, rdn4, rdn53, rdn40]
  refine (itE h (fun q h => ?_) (fun q h => (noE h)))
  all_goals (try cases h)
  all_goals (try simp only [*, if_true, if_false, ↓reduceIte, Option.bind_some, List.length_cons, List.length_nil, List.length_append, Bool.not_true, Bool.not_false, Bool.true_eq_false, Bool.false_eq_true])
  all_goals (repeat first | rw [if_pos (by omega)] | rw [if_neg (by omega)])
  all_goals first | exact h | apply h | rfl | (simp_all [-Bool.forall_bool]; done) | (simp_all [-Bool.forall_bool]; first | exact h | apply h) | (simp_all [-Bool.forall_bool, emp_eq, int_beq]; done) | (simp_all [-Bool.forall_bool]; (intros; simp_all; done)) | (simp_all [-Bool.forall_bool, rdset3, rdset5, rdset88, rdset4, rdset53, rdset40]; done) | grind

theorem impl_copyArena.rel_l (k : Nat) : (∀ x7 x8 x9 x560000 r, PK.impl_copyArena.l0 k x7 x8 x9 x560000 = some r → ∀ m, k ≤ m → ∀ (h65 : List S88), impl_copyArena.c3 m x7 x8 x9 h65 x560000 = some r) := by
  induction k using Nat.strongRecOn with
  | _ k ih =>
  have il0 := fun k' hk' => (ih k' hk')
  clear ih
  intro x7 x8 x9 x560000 r h m hm h65
  cases k with
  | zero => simp only [PK.impl_copyArena.l0] at h; cases h
  | succ k =>
    obtain ⟨m, rfl⟩ : ∃ m', m = m' + 1 := ⟨m - 1, by omega⟩
    rw [PK.impl_copyArena.l0] at h
    rw [impl_copyArena.c3]
    try simp only [w64_eq, wu8_eq, gt_iff_lt, ge_iff_le, int_beq, fdiv33, fdiv45, bt_eq, tmodN, rdOfB, rdOfL] at h
    try simp only [shlR]
    try simp only [w64_eq, wu8_eq, gt_iff_lt, ge_iff_le, int_beq, fdiv33, fdiv45, bt_eq, tmodN, rdOfB, rdOfL, rdT3_eq, rdT5_eq, seq, maxI, minI, emp_eq, rdn3, rdn5, rdn88, rdn4, rdn53, rdn40]
    refine (itE h (fun q h => (itE h (fun q h => (itE h (fun q h => (bnE h (fun _ g h => (fun g => (itE h (fun q h => ((fun h => ?_) (il0 _ (by omega) _ _ _ _ _ h m (by omega)))) (fun q h => (noE h)))) (impl_copyInts.rel m _ _ g m (by omega))))) (fun q h => (noE h)))) (fun q h => (noE h)))) (fun q h => ?_))
    all_goals clear il0
    all_goals (try cases h)
    all_goals (try simp only [*, if_true, if_false, ↓reduceIte, Option.bind_some, List.length_cons, List.length_nil, List.length_append, Bool.not_true, Bool.not_false, Bool.true_eq_false, Bool.false_eq_true])
    all_goals (repeat first | rw [if_pos (by omega)] | rw [if_neg (by omega)])
    all_goals first | exact h | apply h | rfl | (simp_all [-Bool.forall_bool]; done) | (simp_all [-Bool.forall_bool]; first | exact h | apply h) | (simp_all [-Bool.forall_bool, emp_eq, int_beq]; done) | (simp_all [-Bool.forall_bool]; (intros; simp_all; done)) | (simp_all [-Bool.forall_bool, rdset3, rdset5, rdset88, rdset4, rdset53, rdset40]; done) | grind
theorem impl_copyArena.rel (k : Nat) (l0_0 : List (S88)) (r) (h : PK.impl_copyArena.f k l0_0 = some r) (m : Nat) (hm : k ≤ m) : impl_copyArena.f m l0_0 = some r := by
  have il0 := fun k' (_ : k' < k + 1) => (impl_copyArena.rel_l k')
  rw [PK.impl_copyArena.f] at h
  rw [impl_copyArena.f]
  try simp only [w64_eq, wu8_eq, gt_iff_lt, ge_iff_le, int_beq, fdiv33, fdiv45, bt_eq, tmodN, rdOfB, rdOfL] at h
  try simp only [shlR]
  try simp only [w64_eq, wu8_eq, gt_iff_lt, ge_iff_le, int_beq, fdiv33, fdiv45, bt_eq, tmodN, rdOfB, rdOfL, rdT3_eq, rdT5_eq, seq, maxI, minI, emp_eq, rdn3, rdn5, rdn88, rdn4, rdn53, rdn40]
  refine ((fun h => ?_) (il0 _ (by omega) _ _ _ _ _ h m (by omega)))
  all_goals clear il0
  all_goals (try cases h)
  all_goals (try simp only [*, if_true, if_false, ↓reduceIte, Option.bind_some, List.length_cons, List.length_nil, List.length_append, Bool.not_true, Bool.not_false, Bool.true_eq_false, Bool.false_eq_true])
  all_goals (repeat first | rw [if_pos (by omega)] | rw [if_neg (by omega)])
  all_goals first | exact h | apply h | rfl | (simp_all [-Bool.forall_bool]; done) | (simp_all [-Bool.forall_bool]; first | exact h | apply h) | (simp_all [-Bool.forall_bool, emp_eq, int_beq]; done) | (simp_all [-Bool.forall_bool]; (intros; simp_all; done)) | (simp_all [-Bool.forall_bool, rdset3, rdset5, rdset88, rdset4, rdset53, rdset40]; done) | grind

theorem impl_SweepArena.rel_l (k : Nat) : (∀ x1 x6 x7 x21 x22 x23 x655000 r, PK.impl_SweepArena.l0 k x1 x6 x7 x21 x22 x23 x655000 = some r → ∀ m, k ≤ m → ∀ (h66 : List S88), impl_SweepArena.c4 m x1 x21 x22 x23 x655000 h66 x6 x7 = some (r.1, r.2)) ∧ (∀ x1 x6 x7 x11 x55 x56 x57 x675000 r, PK.impl_SweepArena.l1 k x1 x6 x7 x11 x55 x56 x57 x675000 = some r → ∀ m, k ≤ m → ∀ (h65 : List S88), impl_SweepArena.c15 m x1 x55 x56 x57 h65 x6 x7 x675000 x11 = some (r.1, r.2)) ∧ (∀ x1 x6 x7 x11 x55 x56 x57 x79 x80 x81 x675000 x680000 x680001 x686000 x686001 r, PK.impl_SweepArena.l2 k x1 x6 x7 x11 x55 x56 x57 x79 x80 x81 x675000 x680000 x680001 x686000 x686001 = some r → ∀ m, k ≤ m → ∀ (h65 : List S88), impl_SweepArena.c21 m x1 x55 x56 x57 x79 x80 x81 h65 x6 x7 (x675000) x11 x680000 x680001 x686001 x686000 = some (r.1, r.2)) ∧ (∀ x6 x11 x109 x110 x111 x675000 r, PK.impl_SweepArena.l3 k x6 x11 x109 x110 x111 x675000 = some r → ∀ m, k ≤ m → ∀ (h65 : List S88), impl_SweepArena.c29 m x109 x110 x111 h65 x6 x675000 x11 = some (r.1, r.2)) := by
  induction k using Nat.strongRecOn with
  | _ k ih =>
  have il0 := fun k' hk' => (ih k' hk').1
  have il1 := fun k' hk' => (ih k' hk').2.1
  have il2 := fun k' hk' => (ih k' hk').2.2.1
  have il3 := fun k' hk' => (ih k' hk').2.2.2
  clear ih
  refine ⟨?_, ?_, ?_, ?_⟩
  · intro x1 x6 x7 x21 x22 x23 x655000 r h m hm h66
    cases k with
    | zero => simp only [PK.impl_SweepArena.l0] at h; cases h
    | succ k =>
      obtain ⟨m, rfl⟩ : ∃ m', m = m' + 1 := ⟨m - 1, by omega⟩
      rw [PK.impl_SweepArena.l0] at h
      rw [impl_SweepArena.c4]
      try simp only [w64_eq, wu8_eq, gt_iff_lt, ge_iff_le, int_beq, fdiv33, fdiv45, bt_eq, tmodN, rdOfB, rdOfL] at h
      try simp only [shlR]
      try simp only [w64_eq, wu8_eq, gt_iff_lt, ge_iff_le, int_beq, fdiv33, fdiv45, bt_eq, tmodN, rdOfB, rdOfL, rdT3_eq, rdT5_eq, seq, maxI, minI, emp_eq, rdn3, rdn5, rdn88, rdn4, rdn53, rdn40]
      refine (itE h (fun q h => (itE h (fun q h => (itE h (fun q h => (itE h (fun q h => (by cases k with | zero => (simp only [PK.impl_SweepArena.j1] at h; cases h) | succ k => (rw [PK.impl_SweepArena.j1] at h; (try simp only [w64_eq, wu8_eq, gt_iff_lt, ge_iff_le, int_beq, fdiv33, fdiv45, bt_eq, tmodN, rdOfB, rdOfL] at h); refine (itE h (fun q h => (bnE h (fun _ g h => (fun g => ?_) (impl_copyArena.rel _ _ _ g m (by omega))))) (fun q h => (bnE h (fun _ g h => (fun g => (itE h (fun q h => ((fun h => ?_) (il0 _ (by omega) _ _ _ _ _ _ _ _ h m (by omega)))) (fun q h => (noE h)))) (impl_knotsOf.rel _ _ _ _ g m (by omega)))))) <;> ((try cases h); (try simp only [*, if_true, if_false, ↓reduceIte, Option.bind_some, List.length_cons, List.length_nil, List.length_append, Bool.not_true, Bool.not_false, Bool.true_eq_false, Bool.false_eq_true]); all_goals (repeat first | rw [if_pos (by omega)] | rw [if_neg (by omega)]); all_goals (first | exact h | apply h | rfl | (simp_all [-Bool.forall_bool]; done) | (simp_all [-Bool.forall_bool]; first | exact h | apply h) | (simp_all [-Bool.forall_bool, emp_eq, int_beq]; done) | (simp_all [-Bool.forall_bool]; (intros; simp_all; done)) | (simp_all [-Bool.forall_bool, rdset3, rdset5, rdset88, rdset4, rdset53, rdset40]; done) | grind))))) (fun q h => (bnE h (fun _ g h => (fun g => (by cases k with | zero => (simp only [PK.impl_SweepArena.j1] at h; cases h) | succ k => (rw [PK.impl_SweepArena.j1] at h; (try simp only [w64_eq, wu8_eq, gt_iff_lt, ge_iff_le, int_beq, fdiv33, fdiv45, bt_eq, tmodN, rdOfB, rdOfL] at h); refine (itE h (fun q h => (bnE h (fun _ g h => (fun g => ?_) (impl_copyArena.rel _ _ _ g m (by omega))))) (fun q h => (bnE h (fun _ g h => (fun g => (itE h (fun q h => ((fun h => ?_) (il0 _ (by omega) _ _ _ _ _ _ _ _ h m (by omega)))) (fun q h => (noE h)))) (impl_knotsOf.rel _ _ _ _ g m (by omega)))))) <;> ((try cases h); (try simp only [*, if_true, if_false, ↓reduceIte, Option.bind_some, List.length_cons, List.length_nil, List.length_append, Bool.not_true, Bool.not_false, Bool.true_eq_false, Bool.false_eq_true]); all_goals (repeat first | rw [if_pos (by omega)] | rw [if_neg (by omega)]); all_goals (first | exact h | apply h | rfl | (simp_all [-Bool.forall_bool]; done) | (simp_all [-Bool.forall_bool]; first | exact h | apply h) | (simp_all [-Bool.forall_bool, emp_eq, int_beq]; done) | (simp_all [-Bool.forall_bool]; (intros; simp_all; done)) | (simp_all [-Bool.forall_bool, rdset3, rdset5, rdset88, rdset4, rdset53, rdset40]; done) | grind))))) (impl_isRoot.rel m _ _ _ g m (by omega))))))) (fun q h => (noE h)))) (fun q h => (noE h)))) (fun q h => (bnE h (fun _ g h => (fun g => (itE h (fun q h => (itE h (fun q h => (itE h (fun q h => ((fun h => ?_) (il1 _ (by omega) _ _ _ _ _ _ _ _ _ h m (by omega)))) (fun q h => (noE h)))) (fun q h => (noE h)))) (fun q h => (bnE h (fun _ g h => (fun g => ?_) (impl_copyArena.rel _ _ _ g m (by omega))))))) (impl_ArenaOk.rel _ _ _ g m (by omega))))))
      all_goals clear il0 il1 il2 il3
      all_goals (try cases h)
      all_goals (try simp only [*, if_true, if_false, ↓reduceIte, Option.bind_some, List.length_cons, List.length_nil, List.length_append, Bool.not_true, Bool.not_false, Bool.true_eq_false, Bool.false_eq_true])
      all_goals (repeat first | rw [if_pos (by omega)] | rw [if_neg (by omega)])
      all_goals first | exact h | apply h | rfl | (simp_all [-Bool.forall_bool]; done) | (simp_all [-Bool.forall_bool]; first | exact h | apply h) | (simp_all [-Bool.forall_bool, emp_eq, int_beq]; done) | (simp_all [-Bool.forall_bool]; (intros; simp_all; done)) | (simp_all [-Bool.forall_bool, rdset3, rdset5, rdset88, rdset4, rdset53, rdset40]; done) | grind
  · intro x1 x6 x7 x11 x55 x56 x57 x675000 r h m hm h65
    cases k with
    | zero => simp only [PK.impl_SweepArena.l1] at h; cases h
    | succ k =>
      obtain ⟨m, rfl⟩ : ∃ m', m = m' + 1 := ⟨m - 1, by omega⟩
      rw [PK.impl_SweepArena.l1] at h
      rw [impl_SweepArena.c15]
      try simp only [w64_eq, wu8_eq, gt_iff_lt, ge_iff_le, int_beq, fdiv33, fdiv45, bt_eq, tmodN, rdOfB, rdOfL] at h
      try simp only [shlR]
      try simp only [w64_eq, wu8_eq, gt_iff_lt, ge_iff_le, int_beq, fdiv33, fdiv45, bt_eq, tmodN, rdOfB, rdOfL, rdT3_eq, rdT5_eq, seq, maxI, minI, emp_eq, rdn3, rdn5, rdn88, rdn4, rdn53, rdn40]
      refine (itE h (fun q h => (itE h (fun q h => (itE h (fun q h => (bnE h (fun _ g h => (fun g => (itE h (fun q h => (itE h (fun q h => (bnE h (fun _ g h => (fun g => ((fun h => ?_) (il2 _ (by omega) _ _ _ _ _ _ _ _ _ _ _ _ _ _ _ _ h m (by omega)))) (impl_copyInts.rel m _ _ g m (by omega))))) (fun q h => (noE h)))) (fun q h => ((fun h => ?_) (il1 _ (by omega) _ _ _ _ _ _ _ _ _ h m (by omega)))))) (impl_hasInt.rel _ _ _ _ g m (by omega))))) (fun q h => (noE h)))) (fun q h => (noE h)))) (fun q h => ((fun h => ?_) (il3 _ (by omega) _ _ _ _ _ _ _ h m (by omega)))))
      all_goals clear il0 il1 il2 il3
      all_goals (try cases h)
      all_goals (try simp only [*, if_true, if_false, ↓reduceIte, Option.bind_some, List.length_cons, List.length_nil, List.length_append, Bool.not_true, Bool.not_false, Bool.true_eq_false, Bool.false_eq_true])
      all_goals (repeat first | rw [if_pos (by omega)] | rw [if_neg (by omega)])
      all_goals first | exact h | apply h | rfl | (simp_all [-Bool.forall_bool]; done) | (simp_all [-Bool.forall_bool]; first | exact h | apply h) | (simp_all [-Bool.forall_bool, emp_eq, int_beq]; done) | (simp_all [-Bool.forall_bool]; (intros; simp_all; done)) | (simp_all [-Bool.forall_bool, rdset3, rdset5, rdset88, rdset4, rdset53, rdset40]; done) | grind
  · intro x1 x6 x7 x11 x55 x56 x57 x79 x80 x81 x675000 x680000 x680001 x686000 x686001 r h m hm h65
    cases k with
    | zero => simp only [PK.impl_SweepArena.l2] at h; cases h
    | succ k =>
      obtain ⟨m, rfl⟩ : ∃ m', m = m' + 1 := ⟨m - 1, by omega⟩
      rw [PK.impl_SweepArena.l2] at h
      rw [impl_SweepArena.c21]
      try simp only [w64_eq, wu8_eq, gt_iff_lt, ge_iff_le, int_beq, fdiv33, fdiv45, bt_eq, tmodN, rdOfB, rdOfL] at h
      try simp only [shlR]
      try simp only [w64_eq, wu8_eq, gt_iff_lt, ge_iff_le, int_beq, fdiv33, fdiv45, bt_eq, tmodN, rdOfB, rdOfL, rdT3_eq, rdT5_eq, seq, maxI, minI, emp_eq, rdn3, rdn5, rdn88, rdn4, rdn53, rdn40]
      refine (itE h (fun q h => (itE h (fun q h => (itE h (fun q h => (itE h (fun q h => ((fun h => ?_) (il2 _ (by omega) _ _ _ _ _ _ _ _ _ _ _ _ _ _ _ _ h m (by omega)))) (fun q h => (itE h (fun q h => (itE h (fun q h => (itE h (fun q h => (itE h (fun q h => ((fun h => ?_) (il2 _ (by omega) _ _ _ _ _ _ _ _ _ _ _ _ _ _ _ _ h m (by omega)))) (fun q h => (noE h)))) (fun q h => (noE h)))) (fun q h => (noE h)))) (fun q h => ((fun h => ?_) (il2 _ (by omega) _ _ _ _ _ _ _ _ _ _ _ _ _ _ _ _ h m (by omega)))))))) (fun q h => (noE h)))) (fun q h => (noE h)))) (fun q h => (itE h (fun q h => ((fun h => ?_) (il1 _ (by omega) _ _ _ _ _ _ _ _ _ h m (by omega)))) (fun q h => (noE h)))))
      all_goals clear il0 il1 il2 il3
      all_goals (try cases h)
      all_goals (try simp only [*, if_true, if_false, ↓reduceIte, Option.bind_some, List.length_cons, List.length_nil, List.length_append, Bool.not_true, Bool.not_false, Bool.true_eq_false, Bool.false_eq_true])
      all_goals (repeat first | rw [if_pos (by omega)] | rw [if_neg (by omega)])
      all_goals first | exact h | apply h | rfl | (simp_all [-Bool.forall_bool]; done) | (simp_all [-Bool.forall_bool]; first | exact h | apply h) | (simp_all [-Bool.forall_bool, emp_eq, int_beq]; done) | (simp_all [-Bool.forall_bool]; (intros; simp_all; done)) | (simp_all [-Bool.forall_bool, rdset3, rdset5, rdset88, rdset4, rdset53, rdset40]; done) | grind
  · intro x6 x11 x109 x110 x111 x675000 r h m hm h65
    cases k with
    | zero => simp only [PK.impl_SweepArena.l3] at h; cases h
    | succ k =>
      obtain ⟨m, rfl⟩ : ∃ m', m = m' + 1 := ⟨m - 1, by omega⟩
      rw [PK.impl_SweepArena.l3] at h
      rw [impl_SweepArena.c29]
      try simp only [w64_eq, wu8_eq, gt_iff_lt, ge_iff_le, int_beq, fdiv33, fdiv45, bt_eq, tmodN, rdOfB, rdOfL] at h
      try simp only [shlR]
      try simp only [w64_eq, wu8_eq, gt_iff_lt, ge_iff_le, int_beq, fdiv33, fdiv45, bt_eq, tmodN, rdOfB, rdOfL, rdT3_eq, rdT5_eq, seq, maxI, minI, emp_eq, rdn3, rdn5, rdn88, rdn4, rdn53, rdn40]
      refine (itE h (fun q h => (itE h (fun q h => (itE h (fun q h => (itE h (fun q h => (itE h (fun q h => (itE h (fun q h => (itE h (fun q h => ((fun h => ?_) (il3 _ (by omega) _ _ _ _ _ _ _ h m (by omega)))) (fun q h => (noE h)))) (fun q h => (noE h)))) (fun q h => (noE h)))) (fun q h => ((fun h => ?_) (il3 _ (by omega) _ _ _ _ _ _ _ h m (by omega)))))) (fun q h => (noE h)))) (fun q h => (noE h)))) (fun q h => ?_))
      all_goals clear il0 il1 il2 il3
      all_goals (try cases h)
      all_goals (try simp only [*, if_true, if_false, ↓reduceIte, Option.bind_some, List.length_cons, List.length_nil, List.length_append, Bool.not_true, Bool.not_false, Bool.true_eq_false, Bool.false_eq_true])
      all_goals (repeat first | rw [if_pos (by omega)] | rw [if_neg (by omega)])
      all_goals first | exact h | apply h | rfl | (simp_all [-Bool.forall_bool]; done) | (simp_all [-Bool.forall_bool]; first | exact h | apply h) | (simp_all [-Bool.forall_bool, emp_eq, int_beq]; done) | (simp_all [-Bool.forall_bool]; (intros; simp_all; done)) | (simp_all [-Bool.forall_bool, rdset3, rdset5, rdset88, rdset4, rdset53, rdset40]; done) | grind
theorem impl_SweepArena.rel (k : Nat) (l0_0 : List (S88)) (l1 : List Int) (r) (h : PK.impl_SweepArena.f k l0_0 l1 = some r) (m : Nat) (hm : k ≤ m) : impl_SweepArena.f m l0_0 l1 = some (r.1, r.2) := by
  have il0 := fun k' (_ : k' < k + 1) => (impl_SweepArena.rel_l k').1
  have il1 := fun k' (_ : k' < k + 1) => (impl_SweepArena.rel_l k').2.1
  have il2 := fun k' (_ : k' < k + 1) => (impl_SweepArena.rel_l k').2.2.1
  have il3 := fun k' (_ : k' < k + 1) => (impl_SweepArena.rel_l k').2.2.2
  rw [PK.impl_SweepArena.f] at h
  rw [impl_SweepArena.f]
  try simp only [w64_eq, wu8_eq, gt_iff_lt, ge_iff_le, int_beq, fdiv33, fdiv45, bt_eq, tmodN, rdOfB, rdOfL] at h
  try simp only [shlR]
  try simp only [w64_eq, wu8_eq, gt_iff_lt, ge_iff_le, int_beq, fdiv33, fdiv45, bt_eq, tmodN, rdOfB, rdOfL, rdT3_eq, rdT5_eq, seq, maxI, minI, emp_eq, rdn3, rdn5, rdn88, rdn4, rdn53, rdn40]
  refine (bnE h (fun _ g h => (fun g => ((fun h => ?_) (il0 _ (by omega) _ _ _ _ _ _ _ _ h m (by omega)))) (impl_copyInts.rel m _ _ g m (by omega))))
  all_goals clear il0 il1 il2 il3
  all_goals (try cases h)
  all_goals (try simp only [*, if_true, if_false, ↓reduceIte, Option.bind_some, List.length_cons, List.length_nil, List.length_append, Bool.not_true, Bool.not_false, Bool.true_eq_false, Bool.false_eq_true])
  all_goals (repeat first | rw [if_pos (by omega)] | rw [if_neg (by omega)])
  all_goals first | exact h | apply h | rfl | (simp_all [-Bool.forall_bool]; done) | (simp_all [-Bool.forall_bool]; first | exact h | apply h) | (simp_all [-Bool.forall_bool, emp_eq, int_beq]; done) | (simp_all [-Bool.forall_bool]; (intros; simp_all; done)) | (simp_all [-Bool.forall_bool, rdset3, rdset5, rdset88, rdset4, rdset53, rdset40]; done) | grind
end Go.Proofs.Yteideicglgpfiaa.M2

/- What the print's plain functions answer, the own ones answer. Written by a program of this session. -/
namespace Go.Proofs.Yteideicglgpfiaa.M2
open Go Go.RowKit Go.Proofs.YteideicglgpfiaaW.PrintWords Go.Proofs.Yteideicglgpfiaa.PK
set_option linter.unusedVariables false
set_option linter.unusedSimpArgs false
theorem impl_numberAt.rel (k : Nat) (l0_0 : List (S88)) (a1 : Int) (a2 : Int) (r) (h : PK.impl_numberAt.f l0_0 a1 a2 = some r) (m : Nat) (hm : k ≤ m) : impl_numberAt.f m l0_0 a1 a2 = some r := by
  rw [PK.impl_numberAt.f] at h
  rw [impl_numberAt.f]
  try simp only [w64_eq, wu8_eq, gt_iff_lt, ge_iff_le, int_beq, fdiv33, fdiv45, bt_eq, tmodN, rdOfB, rdOfL] at h
  try simp only [shlR]
  try simp only [w64_eq, wu8_eq, gt_iff_lt, ge_iff_le, int_beq, fdiv33, fdiv45, bt_eq, tmodN, rdOfB, rdOfL, rdT3_eq, rdT5_eq, seq, maxI, minI, emp_eq, rdn3, rdn5, rdn88, rdn4, rdn53, rdn40]
  refine (itE h (fun q h => (itE h (fun q h => (itE h (fun q h => (itE h (fun q h => (itE h (fun q h => ?_) (fun q h => (itE h (fun q h => (itE h (fun q h => (itE h (fun q h => (itE h (fun q h => ?_) (fun q h => (noE h)))) (fun q h => (noE h)))) (fun q h => (noE h)))) (fun q h => (noE h)))))) (fun q h => (noE h)))) (fun q h => (noE h)))) (fun q h => (noE h)))) (fun q h => (noE h)))
  all_goals (try cases h)
  all_goals (try simp only [*, if_true, if_false, ↓reduceIte, Option.bind_some, List.length_cons, List.length_nil, List.length_append, Bool.not_true, Bool.not_false, Bool.true_eq_false, Bool.false_eq_true])
  all_goals (repeat first | rw [if_pos (by omega)] | rw [if_neg (by omega)])
  all_goals first | exact h | apply h | rfl | (simp_all [-Bool.forall_bool]; done) | (simp_all [-Bool.forall_bool]; first | exact h | apply h) | (simp_all [-Bool.forall_bool, emp_eq, int_beq]; done) | (simp_all [-Bool.forall_bool]; (intros; simp_all; done)) | (simp_all [-Bool.forall_bool, rdset3, rdset5, rdset88, rdset4, rdset53, rdset40]; done) | grind

theorem impl_GetAt.rel (k : Nat) (l0_0 : List (S88)) (a1 : Int) (a2 : Int) (r) (h : PK.impl_GetAt.f k l0_0 a1 a2 = some r) (m : Nat) (hm : k ≤ m) : impl_GetAt.f m l0_0 a1 a2 = some r := by
  rw [PK.impl_GetAt.f] at h
  rw [impl_GetAt.f]
  try simp only [w64_eq, wu8_eq, gt_iff_lt, ge_iff_le, int_beq, fdiv33, fdiv45, bt_eq, tmodN, rdOfB, rdOfL] at h
  try simp only [shlR]
  try simp only [w64_eq, wu8_eq, gt_iff_lt, ge_iff_le, int_beq, fdiv33, fdiv45, bt_eq, tmodN, rdOfB, rdOfL, rdT3_eq, rdT5_eq, seq, maxI, minI, emp_eq, rdn3, rdn5, rdn88, rdn4, rdn53, rdn40]
  refine (bnE h (fun _ g h => (fun g => (itE h (fun q h => (bnE h (fun _ g h => (fun g => (itE h (fun q h => (bnE h (fun _ g h => (fun g => (itE h (fun q h => (bnE h (fun _ g h => (fun g => ?_) (impl_numberAt.rel m _ _ _ _ g m (by omega))))) (fun q h => ?_))) (impl_ArenaOk.rel _ _ _ g m (by omega))))) (fun q h => ?_))) (impl_isRoot.rel m _ _ _ g m (by omega))))) (fun q h => ?_))) (impl_in.rel m _ _ _ _ g m (by omega))))
  all_goals (try cases h)
  all_goals (try simp only [*, if_true, if_false, ↓reduceIte, Option.bind_some, List.length_cons, List.length_nil, List.length_append, Bool.not_true, Bool.not_false, Bool.true_eq_false, Bool.false_eq_true])
  all_goals (repeat first | rw [if_pos (by omega)] | rw [if_neg (by omega)])
  all_goals first | exact h | apply h | rfl | (simp_all [-Bool.forall_bool]; done) | (simp_all [-Bool.forall_bool]; first | exact h | apply h) | (simp_all [-Bool.forall_bool, emp_eq, int_beq]; done) | (simp_all [-Bool.forall_bool]; (intros; simp_all; done)) | (simp_all [-Bool.forall_bool, rdset3, rdset5, rdset88, rdset4, rdset53, rdset40]; done) | grind

theorem impl_AllAt.rel_l (k : Nat) : (∀ x1 x5 x7 x952000 r, PK.impl_AllAt.l0 k x1 x5 x7 x952000 = some r → ∀ m, k ≤ m → impl_AllAt.c3 m x1 x7 x952000 x5 = some r) := by
  induction k using Nat.strongRecOn with
  | _ k ih =>
  have il0 := fun k' hk' => (ih k' hk')
  clear ih
  intro x1 x5 x7 x952000 r h m hm
  cases k with
  | zero => simp only [PK.impl_AllAt.l0] at h; cases h
  | succ k =>
    obtain ⟨m, rfl⟩ : ∃ m', m = m' + 1 := ⟨m - 1, by omega⟩
    rw [PK.impl_AllAt.l0] at h
    rw [impl_AllAt.c3]
    try simp only [w64_eq, wu8_eq, gt_iff_lt, ge_iff_le, int_beq, fdiv33, fdiv45, bt_eq, tmodN, rdOfB, rdOfL] at h
    try simp only [shlR]
    try simp only [w64_eq, wu8_eq, gt_iff_lt, ge_iff_le, int_beq, fdiv33, fdiv45, bt_eq, tmodN, rdOfB, rdOfL, rdT3_eq, rdT5_eq, seq, maxI, minI, emp_eq, rdn3, rdn5, rdn88, rdn4, rdn53, rdn40]
    refine (itE h (fun q h => (bnE h (fun _ g h => (fun g => (itE h (fun q h => ((fun h => ?_) (il0 _ (by omega) _ _ _ _ _ h m (by omega)))) (fun q h => (noE h)))) (impl_GetAt.rel _ _ _ _ _ g m (by omega))))) (fun q h => ?_))
    all_goals clear il0
    all_goals (try cases h)
    all_goals (try simp only [*, if_true, if_false, ↓reduceIte, Option.bind_some, List.length_cons, List.length_nil, List.length_append, Bool.not_true, Bool.not_false, Bool.true_eq_false, Bool.false_eq_true])
    all_goals (repeat first | rw [if_pos (by omega)] | rw [if_neg (by omega)])
    all_goals first | exact h | apply h | rfl | (simp_all [-Bool.forall_bool]; done) | (simp_all [-Bool.forall_bool]; first | exact h | apply h) | (simp_all [-Bool.forall_bool, emp_eq, int_beq]; done) | (simp_all [-Bool.forall_bool]; (intros; simp_all; done)) | (simp_all [-Bool.forall_bool, rdset3, rdset5, rdset88, rdset4, rdset53, rdset40]; done) | grind
theorem impl_AllAt.rel (k : Nat) (l0_0 : List (S88)) (a1 : Int) (r) (h : PK.impl_AllAt.f k l0_0 a1 = some r) (m : Nat) (hm : k ≤ m) : impl_AllAt.f m l0_0 a1 = some r := by
  have il0 := fun k' (_ : k' < k + 1) => (impl_AllAt.rel_l k')
  rw [PK.impl_AllAt.f] at h
  rw [impl_AllAt.f]
  try simp only [w64_eq, wu8_eq, gt_iff_lt, ge_iff_le, int_beq, fdiv33, fdiv45, bt_eq, tmodN, rdOfB, rdOfL] at h
  try simp only [shlR]
  try simp only [w64_eq, wu8_eq, gt_iff_lt, ge_iff_le, int_beq, fdiv33, fdiv45, bt_eq, tmodN, rdOfB, rdOfL, rdT3_eq, rdT5_eq, seq, maxI, minI, emp_eq, rdn3, rdn5, rdn88, rdn4, rdn53, rdn40]
  refine ((fun h => ?_) (il0 _ (by omega) _ _ _ _ _ h m (by omega)))
  all_goals clear il0
  all_goals (try cases h)
  all_goals (try simp only [*, if_true, if_false, ↓reduceIte, Option.bind_some, List.length_cons, List.length_nil, List.length_append, Bool.not_true, Bool.not_false, Bool.true_eq_false, Bool.false_eq_true])
  all_goals (repeat first | rw [if_pos (by omega)] | rw [if_neg (by omega)])
  all_goals first | exact h | apply h | rfl | (simp_all [-Bool.forall_bool]; done) | (simp_all [-Bool.forall_bool]; first | exact h | apply h) | (simp_all [-Bool.forall_bool, emp_eq, int_beq]; done) | (simp_all [-Bool.forall_bool]; (intros; simp_all; done)) | (simp_all [-Bool.forall_bool, rdset3, rdset5, rdset88, rdset4, rdset53, rdset40]; done) | grind
end Go.Proofs.Yteideicglgpfiaa.M2

/- What the print's plain functions answer, the own ones answer. Written by a program of this session. -/
namespace Go.Proofs.Yteideicglgpfiaa.M2
open Go Go.RowKit Go.Proofs.YteideicglgpfiaaW.PrintWords Go.Proofs.Yteideicglgpfiaa.PK
set_option linter.unusedVariables false
set_option linter.unusedSimpArgs false
theorem impl_SameStore.rel_l (k : Nat) : (∀ x26 x27 x28 x1188000 x1188001 x1188002 x1189000 x1189001 x1189002 r, PK.impl_SameStore.l0 k x26 x27 x28 x1188000 x1188001 x1188002 x1189000 x1189001 x1189002 = some r → ∀ m, k ≤ m → impl_SameStore.c4 m x26 x27 x28 x1188000 x1188001 x1188002 x1189000 x1189001 x1189002 = some r) ∧ (∀ x8 x26 x27 x28 x52 x53 x54 x1188000 x1188001 x1188002 x1189000 x1189001 x1189002 r, PK.impl_SameStore.l1 k x8 x26 x27 x28 x52 x53 x54 x1188000 x1188001 x1188002 x1189000 x1189001 x1189002 = some r → ∀ m, k ≤ m → impl_SameStore.c11 m x26 x27 x28 x53 x54 x1188000 x1188001 x1188002 x1189000 x1189001 x1189002 x8 x52 = some r) := by
  induction k using Nat.strongRecOn with
  | _ k ih =>
  have il0 := fun k' hk' => (ih k' hk').1
  have il1 := fun k' hk' => (ih k' hk').2
  clear ih
  refine ⟨?_, ?_⟩
  · intro x26 x27 x28 x1188000 x1188001 x1188002 x1189000 x1189001 x1189002 r h m hm
    cases k with
    | zero => simp only [PK.impl_SameStore.l0] at h; cases h
    | succ k =>
      obtain ⟨m, rfl⟩ : ∃ m', m = m' + 1 := ⟨m - 1, by omega⟩
      rw [PK.impl_SameStore.l0] at h
      rw [impl_SameStore.c4]
      try simp only [w64_eq, wu8_eq, gt_iff_lt, ge_iff_le, int_beq, fdiv33, fdiv45, bt_eq, tmodN, rdOfB, rdOfL] at h
      try simp only [shlR]
      try simp only [w64_eq, wu8_eq, gt_iff_lt, ge_iff_le, int_beq, fdiv33, fdiv45, bt_eq, tmodN, rdOfB, rdOfL, rdT3_eq, rdT5_eq, seq, maxI, minI, emp_eq, rdn3, rdn5, rdn88, rdn4, rdn53, rdn40]
      refine (itE h (fun q h => (itE h (fun q h => (itE h (fun q h => (itE h (fun q h => (bnE h (fun _ g h => (fun g => (itE h (fun q h => (bnE h (fun _ g h => (fun g => ((fun h => ?_) (il1 _ (by omega) _ _ _ _ _ _ _ _ _ _ _ _ _ _ h m (by omega)))) (impl_AllAt.rel _ _ _ _ g m (by omega))))) (fun q h => ?_))) (impl_AllAt.rel _ _ _ _ g m (by omega))))) (fun q h => (noE h)))) (fun q h => (noE h)))) (fun q h => (noE h)))) (fun q h => ?_))
      all_goals clear il0 il1
      all_goals (try cases h)
      all_goals (try simp only [*, if_true, if_false, ↓reduceIte, Option.bind_some, List.length_cons, List.length_nil, List.length_append, Bool.not_true, Bool.not_false, Bool.true_eq_false, Bool.false_eq_true])
      all_goals (repeat first | rw [if_pos (by omega)] | rw [if_neg (by omega)])
      all_goals first | exact h | apply h | rfl | (simp_all [-Bool.forall_bool]; done) | (simp_all [-Bool.forall_bool]; first | exact h | apply h) | (simp_all [-Bool.forall_bool, emp_eq, int_beq]; done) | (simp_all [-Bool.forall_bool]; (intros; simp_all; done)) | (simp_all [-Bool.forall_bool, rdset3, rdset5, rdset88, rdset4, rdset53, rdset40]; done) | grind
  · intro x8 x26 x27 x28 x52 x53 x54 x1188000 x1188001 x1188002 x1189000 x1189001 x1189002 r h m hm
    cases k with
    | zero => simp only [PK.impl_SameStore.l1] at h; cases h
    | succ k =>
      obtain ⟨m, rfl⟩ : ∃ m', m = m' + 1 := ⟨m - 1, by omega⟩
      rw [PK.impl_SameStore.l1] at h
      rw [impl_SameStore.c11]
      try simp only [w64_eq, wu8_eq, gt_iff_lt, ge_iff_le, int_beq, fdiv33, fdiv45, bt_eq, tmodN, rdOfB, rdOfL] at h
      try simp only [shlR]
      try simp only [w64_eq, wu8_eq, gt_iff_lt, ge_iff_le, int_beq, fdiv33, fdiv45, bt_eq, tmodN, rdOfB, rdOfL, rdT3_eq, rdT5_eq, seq, maxI, minI, emp_eq, rdn3, rdn5, rdn88, rdn4, rdn53, rdn40]
      refine (itE h (fun q h => (itE h (fun q h => (itE h (fun q h => (itE h (fun q h => (itE h (fun q h => ((fun h => ?_) (il1 _ (by omega) _ _ _ _ _ _ _ _ _ _ _ _ _ _ h m (by omega)))) (fun q h => ?_))) (fun q h => (noE h)))) (fun q h => (noE h)))) (fun q h => (noE h)))) (fun q h => ((fun h => ?_) (il0 _ (by omega) _ _ _ _ _ _ _ _ _ _ h m (by omega)))))
      all_goals clear il0 il1
      all_goals (try cases h)
      all_goals (try simp only [*, if_true, if_false, ↓reduceIte, Option.bind_some, List.length_cons, List.length_nil, List.length_append, Bool.not_true, Bool.not_false, Bool.true_eq_false, Bool.false_eq_true])
      all_goals (repeat first | rw [if_pos (by omega)] | rw [if_neg (by omega)])
      all_goals first | exact h | apply h | rfl | (simp_all [-Bool.forall_bool]; done) | (simp_all [-Bool.forall_bool]; first | exact h | apply h) | (simp_all [-Bool.forall_bool, emp_eq, int_beq]; done) | (simp_all [-Bool.forall_bool]; (intros; simp_all; done)) | (simp_all [-Bool.forall_bool, rdset3, rdset5, rdset88, rdset4, rdset53, rdset40]; done) | grind
theorem impl_SameStore.rel (k : Nat) (l0_0 : List (S53)) (l0_1 : List (S88)) (a0_2 : Int) (l1_0 : List (S53)) (l1_1 : List (S88)) (a1_2 : Int) (r) (h : PK.impl_SameStore.f k l0_0 l0_1 a0_2 l1_0 l1_1 a1_2 = some r) (m : Nat) (hm : k ≤ m) : impl_SameStore.f m l0_0 l0_1 a0_2 l1_0 l1_1 a1_2 = some r := by
  have il0 := fun k' (_ : k' < k + 1) => (impl_SameStore.rel_l k').1
  have il1 := fun k' (_ : k' < k + 1) => (impl_SameStore.rel_l k').2
  rw [PK.impl_SameStore.f] at h
  rw [impl_SameStore.f]
  try simp only [w64_eq, wu8_eq, gt_iff_lt, ge_iff_le, int_beq, fdiv33, fdiv45, bt_eq, tmodN, rdOfB, rdOfL] at h
  try simp only [shlR]
  try simp only [w64_eq, wu8_eq, gt_iff_lt, ge_iff_le, int_beq, fdiv33, fdiv45, bt_eq, tmodN, rdOfB, rdOfL, rdT3_eq, rdT5_eq, seq, maxI, minI, emp_eq, rdn3, rdn5, rdn88, rdn4, rdn53, rdn40]
  refine (itE h (fun q h => (by cases k with | zero => (simp only [PK.impl_SameStore.j0] at h; cases h) | succ k => (rw [PK.impl_SameStore.j0] at h; (try simp only [w64_eq, wu8_eq, gt_iff_lt, ge_iff_le, int_beq, fdiv33, fdiv45, bt_eq, tmodN, rdOfB, rdOfL] at h); refine (itE h (fun q h => ?_) (fun q h => ((fun h => ?_) (il0 _ (by omega) _ _ _ _ _ _ _ _ _ _ h m (by omega))))) <;> ((try cases h); (try simp only [*, if_true, if_false, ↓reduceIte, Option.bind_some, List.length_cons, List.length_nil, List.length_append, Bool.not_true, Bool.not_false, Bool.true_eq_false, Bool.false_eq_true]); all_goals (repeat first | rw [if_pos (by omega)] | rw [if_neg (by omega)]); all_goals (first | exact h | apply h | rfl | (simp_all [-Bool.forall_bool]; done) | (simp_all [-Bool.forall_bool]; first | exact h | apply h) | (simp_all [-Bool.forall_bool, emp_eq, int_beq]; done) | (simp_all [-Bool.forall_bool]; (intros; simp_all; done)) | (simp_all [-Bool.forall_bool, rdset3, rdset5, rdset88, rdset4, rdset53, rdset40]; done) | grind))))) (fun q h => (by cases k with | zero => (simp only [PK.impl_SameStore.j0] at h; cases h) | succ k => (rw [PK.impl_SameStore.j0] at h; (try simp only [w64_eq, wu8_eq, gt_iff_lt, ge_iff_le, int_beq, fdiv33, fdiv45, bt_eq, tmodN, rdOfB, rdOfL] at h); refine (itE h (fun q h => ?_) (fun q h => ((fun h => ?_) (il0 _ (by omega) _ _ _ _ _ _ _ _ _ _ h m (by omega))))) <;> ((try cases h); (try simp only [*, if_true, if_false, ↓reduceIte, Option.bind_some, List.length_cons, List.length_nil, List.length_append, Bool.not_true, Bool.not_false, Bool.true_eq_false, Bool.false_eq_true]); all_goals (repeat first | rw [if_pos (by omega)] | rw [if_neg (by omega)]); all_goals (first | exact h | apply h | rfl | (simp_all [-Bool.forall_bool]; done) | (simp_all [-Bool.forall_bool]; first | exact h | apply h) | (simp_all [-Bool.forall_bool, emp_eq, int_beq]; done) | (simp_all [-Bool.forall_bool]; (intros; simp_all; done)) | (simp_all [-Bool.forall_bool, rdset3, rdset5, rdset88, rdset4, rdset53, rdset40]; done) | grind))))))
  all_goals clear il0 il1
  all_goals (try cases h)
  all_goals (try simp only [*, if_true, if_false, ↓reduceIte, Option.bind_some, List.length_cons, List.length_nil, List.length_append, Bool.not_true, Bool.not_false, Bool.true_eq_false, Bool.false_eq_true])
  all_goals (repeat first | rw [if_pos (by omega)] | rw [if_neg (by omega)])
  all_goals first | exact h | apply h | rfl | (simp_all [-Bool.forall_bool]; done) | (simp_all [-Bool.forall_bool]; first | exact h | apply h) | (simp_all [-Bool.forall_bool, emp_eq, int_beq]; done) | (simp_all [-Bool.forall_bool]; (intros; simp_all; done)) | (simp_all [-Bool.forall_bool, rdset3, rdset5, rdset88, rdset4, rdset53, rdset40]; done) | grind
end Go.Proofs.Yteideicglgpfiaa.M2
