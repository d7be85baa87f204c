/- FnClones: functions of the translation as Lean functions with what their calls come to, plain lemmas on them, and, at the end, the row. Parts of one proof, merged by a program of this session; each part's own sentence stands at its head. -/
import Derived.IntWalk
import Derived.KernelRfl
import Derived.Test.YteideicglgpfiaaMFnClonesc
/- Plain runs of functions: each is a plain Lean function, and keeps its contract. Written by a program of this session. -/
namespace Go.Proofs.Yteideicglgpfiaa.M2
open Go Go.Proofs.Yteideicglgpfiaa.PK
set_option linter.unusedVariables false
set_option linter.unusedSimpArgs false
set_option maxHeartbeats 4000000
/-! ### spec_l01Once: function 58 -/
noncomputable def spec_l01Once.sp : Nat → Option (Spec Ty) := fun r => none
noncomputable def spec_l01Once.en : Option (Spec Ty) := none
noncomputable def spec_l01Once.ctx (k : Nat) : Ctx Ty D := (cons 59 (spec_l01Below.x k) (fun _ _ _ _ => none))
noncomputable def spec_l01Once.f (k : Nat) (a1 : Int) (a0_0 : List Int) (a0_1 : Int) (a0_2 : Int) : Option (Bool × (List Int) × Int × Int) := ((spec_l01Below.f k a1 a0_0 a0_1 a0_2).bind fun t1 => (some ((decide (t1.1 = 0)), t1.2.1, t1.2.2.1, t1.2.2.2)))
noncomputable def spec_l01Once.e (r : Bool × (List Int) × Int × Int) : Res Ty D := (.sc (.bool r.1), [some (.box [.row 1 .t5 r.2.1, .sc (.int .i64 r.2.2.1), .sc (.int .i64 r.2.2.2)])], [])
noncomputable abbrev spec_l01Once.g (rec : List Item → St Ty D → R) (k : Nat) := go1 Try.f58 (spec_l01Once.ctx k) spec_l01Once.sp 1 spec_l01Once.en rec
set_option maxRecDepth 100000 in
theorem spec_l01Once.te (rec : List Item → St Ty D → R) (k : Nat) (a1 : Int) (a0_0 : List Int) (a0_1 : Int) (a0_2 : Int) : spec_l01Once.g rec k [.code (body Try.f58)] (startSt [.pt 0 0 0, .sc (.int .i64 a1)] [.box [.row 1 .t5 a0_0, .sc (.int .i64 a0_1), .sc (.int .i64 a0_2)]]) =
  (spec_l01Below.f k a1 a0_0 a0_1 a0_2).bind fun t1 => some (spec_l01Once.e ((decide (t1.1 = 0)), t1.2.1, t1.2.2.1, t1.2.2.2)) := by kernel_rfl
set_option maxRecDepth 100000 in
theorem spec_l01Once.oke (k : Nat) (a1 : Int) (a0_0 : List Int) (a0_1 : Int) (a0_2 : Int) : goF Try.f58 spec_l01Once.ctx spec_l01Once.sp 1 spec_l01Once.en (k + 1) [.code (body Try.f58)] (startSt [.pt 0 0 0, .sc (.int .i64 a1)] [.box [.row 1 .t5 a0_0, .sc (.int .i64 a0_1), .sc (.int .i64 a0_2)]]) = (spec_l01Once.f k a1 a0_0 a0_1 a0_2).map spec_l01Once.e := by
  rw [spec_l01Once.f]; exact (spec_l01Once.te _ k a1 a0_0 a0_1 a0_2).trans (bn (fun t1 => rfl))
theorem spec_l01Once.con (k : Nat) (a1 : Int) (a0_0 : List Int) (a0_1 : Int) (a0_2 : Int) (r) (h : spec_l01Once.f k a1 a0_0 a0_1 a0_2 = some r) : Contract Try.prog kit 58 [.pt 0 0 0, .sc (.int .i64 a1)] [.box [.row 1 .t5 a0_0, .sc (.int .i64 a0_1), .sc (.int .i64 a0_2)]] (spec_l01Once.e r).1 (spec_l01Once.e r).2.1 (spec_l01Once.e r).2.2 :=
  con_okG kitOk mix (fun k => (CtxOk.cons (spec_l01Below.xok k) CtxOk.nil)) (spec_l01Once.oke k a1 a0_0 a0_1 a0_2) h (by kernel_rfl) (by kernel_rfl) (by kernel_rfl) rfl (by kernel_rfl) rfl rfl
noncomputable def spec_l01Once.x (k : Nat) : X := fun ins bs κ => match ins, bs with
  | [.pt 0 0 0, .sc (.int .i64 a1)], [.box [.row 1 .t5 a0_0, .sc (.int .i64 a0_1), .sc (.int .i64 a0_2)]] => (spec_l01Once.f k a1 a0_0 a0_1 a0_2).bind fun r => κ (spec_l01Once.e r).1 (spec_l01Once.e r).2.1 (spec_l01Once.e r).2.2
  | _, _ => none
theorem spec_l01Once.xok (k : Nat) : XOk 58 (spec_l01Once.x k) := by
  intro ins bs κ res h
  unfold spec_l01Once.x at h
  split at h
  · obtain ⟨r, hr, h⟩ := Option.bind_eq_some_iff.1 h
    exact ⟨_, _, _, spec_l01Once.con k _ _ _ _ r hr, h⟩
  · cases h

/-! ### spec_StoreNew: function 92 -/
noncomputable def spec_StoreNew.sp : Nat → Option (Spec Ty) := fun r => none
noncomputable def spec_StoreNew.en : Option (Spec Ty) := some ⟨[(0, .box [.own .t53, .own .t88, .keep])], []⟩
noncomputable def spec_StoreNew.ctx (k : Nat) : Ctx Ty D := (fun _ _ _ _ => none)
noncomputable def spec_StoreNew.f (k : Nat) : Option ((List S53) × (List S88) × Int) := (some (([] : List S53), ([] : List S88), 1))
noncomputable def spec_StoreNew.e (r : (List S53) × (List S88) × Int) : Res Ty D := (.ag [.sl 0 none, .sl 1 none, .sc (.int .i64 r.2.2)], [], [.rowb .t53 r.1 0, .rowb .t88 r.2.1 0])
noncomputable abbrev spec_StoreNew.g (rec : List Item → St Ty D → R) (k : Nat) := go1 Try.f92 (spec_StoreNew.ctx k) spec_StoreNew.sp 0 spec_StoreNew.en rec
set_option maxRecDepth 100000 in
theorem spec_StoreNew.te (rec : List Item → St Ty D → R) (k : Nat) : spec_StoreNew.g rec k [.code (body Try.f92)] (startSt [] []) =
  some (spec_StoreNew.e (([] : List S53), ([] : List S88), 1)) := by kernel_rfl
set_option maxRecDepth 100000 in
theorem spec_StoreNew.oke (k : Nat) : goF Try.f92 spec_StoreNew.ctx spec_StoreNew.sp 0 spec_StoreNew.en (k + 1) [.code (body Try.f92)] (startSt [] []) = (spec_StoreNew.f k).map spec_StoreNew.e := by
  rw [spec_StoreNew.f]; exact (spec_StoreNew.te _ k).trans rfl
theorem spec_StoreNew.con (k : Nat) (r) (h : spec_StoreNew.f k = some r) : Contract Try.prog kit 92 [] [] (spec_StoreNew.e r).1 (spec_StoreNew.e r).2.1 (spec_StoreNew.e r).2.2 :=
  con_okG kitOk mix (fun k => CtxOk.nil) (spec_StoreNew.oke k) h (by kernel_rfl) (by kernel_rfl) (by kernel_rfl) rfl (by kernel_rfl) rfl rfl
noncomputable def spec_StoreNew.x (k : Nat) : X := fun ins bs κ => match ins, bs with
  | [], [] => (spec_StoreNew.f k).bind fun r => κ (spec_StoreNew.e r).1 (spec_StoreNew.e r).2.1 (spec_StoreNew.e r).2.2
  | _, _ => none
theorem spec_StoreNew.xok (k : Nat) : XOk 92 (spec_StoreNew.x k) := by
  intro ins bs κ res h
  unfold spec_StoreNew.x at h
  split at h
  · obtain ⟨r, hr, h⟩ := Option.bind_eq_some_iff.1 h
    exact ⟨_, _, _, spec_StoreNew.con k r hr, h⟩
  · cases h

/-! ### spec_l12Store: function 56 -/
noncomputable def spec_l12Store.sp : Nat → Option (Spec Ty) := fun r => bif Nat.beq r 3 then some ⟨[(0, .box [.keep, .keep, .keep]), (2, .box [.own .t53, .own .t88, .keep]), (3, .box [.own .t53, .own .t88, .keep]), (4, .keep)], [(0, some [.keep, .keep, .keep])]⟩ else none
noncomputable def spec_l12Store.en : Option (Spec Ty) := some ⟨[(2, .box [.own .t53, .own .t88, .keep])], [(0, some [.keep, .keep, .keep])]⟩
noncomputable def spec_l12Store.s3 (x4 : Int) (h0_0 : List Int) (h0_1 : Int) (h0_2 : Int) (h65 : List S53) (h66 : List S88) (h64_2 : Int) (h68 : List S53) (h69 : List S88) (h67_2 : Int) : St Ty D := ⟨(Env.put (Env.put (Env.put (Env.put E (some 0) (.pt 0 0 0)) (some 2) (.pt 64 0 0)) (some 3) (.pt 67 0 0)) (some 4) (.sc (.int .i64 x4))), Heap.put H0 [(0, some (.box [.row 1 .t5 h0_0, .sc (.int .i64 h0_1), .sc (.int .i64 h0_2)])), (65, some (.rowb .t53 h65 0)), (66, some (.rowb .t88 h66 0)), (64, some (.box [.sl 65 none, .sl 66 none, .sc (.int .i64 h64_2)])), (68, some (.rowb .t53 h68 0)), (69, some (.rowb .t88 h69 0)), (67, some (.box [.sl 68 none, .sl 69 none, .sc (.int .i64 h67_2)]))], 1000⟩
noncomputable def spec_l12Store.ctx (k : Nat) : Ctx Ty D := (cons 10 (spec_Enter.x k) (cons 57 (spec_l09Rec.x k) (cons 58 (spec_l01Once.x k) (cons 59 (spec_l01Below.x k) (cons 92 (spec_StoreNew.x k) (fun _ _ _ _ => none))))))
noncomputable def spec_l12Store.c3 : Nat → Int → (List Int) → Int → Int → (List S53) → (List S88) → Int → (List S53) → (List S88) → Int → Option ((List S53) × (List S88) × Int × (List Int) × Int × Int)
  | 0, _, _, _, _, _, _, _, _, _, _ => none
  | k + 1, x4, h0_0, h0_1, h0_2, h65, h66, h64_2, h68, h69, h67_2 => ((spec_l01Below.f k 14 h0_0 h0_1 h0_2).bind fun t2 => (if x4 < t2.1 then ((spec_l09Rec.f k t2.2.1 t2.2.2.1 t2.2.2.2).bind fun t3 => (if (h68.length : Int) > 0 then (if t3.1 = 2 then (if (h68.length : Int) = 0 then ((spec_l01Once.f k 5 t3.2.2.2.2.1 t3.2.2.2.2.2.1 t3.2.2.2.2.2.2).bind fun t36 => (if t36.1 = true then (if t3.1 = 3 then ((spec_l01Once.f k 3 t36.2.1 t36.2.2.1 t36.2.2.2).bind fun t39 => (if t39.1 = true then ((spec_Enter.f k h67_2 t3.1 t3.2.1 t3.2.2.1 t3.2.2.2.1 h68 h69).bind fun t43 => (spec_l12Store.c3 k (w64 (x4 + 1)) t39.2.1 t39.2.2.1 t39.2.2.2 h65 h66 h64_2 t43.1 t43.2.1 t43.2.2.1)) else ((spec_l01Below.f k 16 t39.2.1 t39.2.2.1 t39.2.2.2).bind fun t40 => ((spec_l01Below.f k 9 t40.2.1 t40.2.2.1 t40.2.2.2).bind fun t41 => ((spec_Enter.f k h67_2 4 t3.2.1 t40.1 (w64 (1 + t41.1)) h68 h69).bind fun t42 => (spec_l12Store.c3 k (w64 (x4 + 1)) t41.2.1 t41.2.2.1 t41.2.2.2 h65 h66 h64_2 t42.1 t42.2.1 t42.2.2.1)))))) else ((spec_Enter.f k h67_2 t3.1 t3.2.1 t3.2.2.1 t3.2.2.2.1 h68 h69).bind fun t44 => (spec_l12Store.c3 k (w64 (x4 + 1)) t36.2.1 t36.2.2.1 t36.2.2.2 h65 h66 h64_2 t44.1 t44.2.1 t44.2.2.1))) else ((spec_l01Below.f k 3 t36.2.1 t36.2.2.1 t36.2.2.2).bind fun t37 => ((spec_Enter.f k h67_2 2 (w64 (1 + t37.1)) 0 0 h68 h69).bind fun t38 => (spec_l12Store.c3 k (w64 (x4 + 1)) t37.2.1 t37.2.2.1 t37.2.2.2 h65 h66 h64_2 t38.1 t38.2.1 t38.2.2.1))))) else (if t3.1 = 3 then ((spec_l01Once.f k 3 t3.2.2.2.2.1 t3.2.2.2.2.2.1 t3.2.2.2.2.2.2).bind fun t45 => (if t45.1 = true then ((spec_Enter.f k h67_2 t3.1 t3.2.1 t3.2.2.1 t3.2.2.2.1 h68 h69).bind fun t49 => (spec_l12Store.c3 k (w64 (x4 + 1)) t45.2.1 t45.2.2.1 t45.2.2.2 h65 h66 h64_2 t49.1 t49.2.1 t49.2.2.1)) else ((spec_l01Below.f k 16 t45.2.1 t45.2.2.1 t45.2.2.2).bind fun t46 => ((spec_l01Below.f k 9 t46.2.1 t46.2.2.1 t46.2.2.2).bind fun t47 => ((spec_Enter.f k h67_2 4 t3.2.1 t46.1 (w64 (1 + t47.1)) h68 h69).bind fun t48 => (spec_l12Store.c3 k (w64 (x4 + 1)) t47.2.1 t47.2.2.1 t47.2.2.2 h65 h66 h64_2 t48.1 t48.2.1 t48.2.2.1)))))) else ((spec_Enter.f k h67_2 t3.1 t3.2.1 t3.2.2.1 t3.2.2.2.1 h68 h69).bind fun t50 => (spec_l12Store.c3 k (w64 (x4 + 1)) t3.2.2.2.2.1 t3.2.2.2.2.2.1 t3.2.2.2.2.2.2 h65 h66 h64_2 t50.1 t50.2.1 t50.2.2.1)))) else ((spec_l01Once.f k 5 t3.2.2.2.2.1 t3.2.2.2.2.2.1 t3.2.2.2.2.2.2).bind fun t4 => (if t4.1 = true then (if (h68.length : Int) = 0 then ((spec_l01Once.f k 5 t4.2.1 t4.2.2.1 t4.2.2.2).bind fun t21 => (if t21.1 = true then (if t3.1 = 3 then ((spec_l01Once.f k 3 t21.2.1 t21.2.2.1 t21.2.2.2).bind fun t24 => (if t24.1 = true then ((spec_Enter.f k h67_2 t3.1 t3.2.1 t3.2.2.1 t3.2.2.2.1 h68 h69).bind fun t28 => (spec_l12Store.c3 k (w64 (x4 + 1)) t24.2.1 t24.2.2.1 t24.2.2.2 h65 h66 h64_2 t28.1 t28.2.1 t28.2.2.1)) else ((spec_l01Below.f k 16 t24.2.1 t24.2.2.1 t24.2.2.2).bind fun t25 => ((spec_l01Below.f k 9 t25.2.1 t25.2.2.1 t25.2.2.2).bind fun t26 => ((spec_Enter.f k h67_2 4 t3.2.1 t25.1 (w64 (1 + t26.1)) h68 h69).bind fun t27 => (spec_l12Store.c3 k (w64 (x4 + 1)) t26.2.1 t26.2.2.1 t26.2.2.2 h65 h66 h64_2 t27.1 t27.2.1 t27.2.2.1)))))) else ((spec_Enter.f k h67_2 t3.1 t3.2.1 t3.2.2.1 t3.2.2.2.1 h68 h69).bind fun t29 => (spec_l12Store.c3 k (w64 (x4 + 1)) t21.2.1 t21.2.2.1 t21.2.2.2 h65 h66 h64_2 t29.1 t29.2.1 t29.2.2.1))) else ((spec_l01Below.f k 3 t21.2.1 t21.2.2.1 t21.2.2.2).bind fun t22 => ((spec_Enter.f k h67_2 2 (w64 (1 + t22.1)) 0 0 h68 h69).bind fun t23 => (spec_l12Store.c3 k (w64 (x4 + 1)) t22.2.1 t22.2.2.1 t22.2.2.2 h65 h66 h64_2 t23.1 t23.2.1 t23.2.2.1))))) else (if t3.1 = 3 then ((spec_l01Once.f k 3 t4.2.1 t4.2.2.1 t4.2.2.2).bind fun t30 => (if t30.1 = true then ((spec_Enter.f k h67_2 t3.1 t3.2.1 t3.2.2.1 t3.2.2.2.1 h68 h69).bind fun t34 => (spec_l12Store.c3 k (w64 (x4 + 1)) t30.2.1 t30.2.2.1 t30.2.2.2 h65 h66 h64_2 t34.1 t34.2.1 t34.2.2.1)) else ((spec_l01Below.f k 16 t30.2.1 t30.2.2.1 t30.2.2.2).bind fun t31 => ((spec_l01Below.f k 9 t31.2.1 t31.2.2.1 t31.2.2.2).bind fun t32 => ((spec_Enter.f k h67_2 4 t3.2.1 t31.1 (w64 (1 + t32.1)) h68 h69).bind fun t33 => (spec_l12Store.c3 k (w64 (x4 + 1)) t32.2.1 t32.2.2.1 t32.2.2.2 h65 h66 h64_2 t33.1 t33.2.1 t33.2.2.1)))))) else ((spec_Enter.f k h67_2 t3.1 t3.2.1 t3.2.2.1 t3.2.2.2.1 h68 h69).bind fun t35 => (spec_l12Store.c3 k (w64 (x4 + 1)) t4.2.1 t4.2.2.1 t4.2.2.2 h65 h66 h64_2 t35.1 t35.2.1 t35.2.2.1)))) else ((spec_l01Below.f k (h68.length : Int) t4.2.1 t4.2.2.1 t4.2.2.2).bind fun t5 => (if 0 ≤ t5.1 then (if t5.1 < (h68.length : Int) then (if (h68.length : Int) = 0 then ((spec_l01Once.f k 5 t5.2.1 t5.2.2.1 t5.2.2.2).bind fun t6 => (if t6.1 = true then (if t3.1 = 3 then ((spec_l01Once.f k 3 t6.2.1 t6.2.2.1 t6.2.2.2).bind fun t9 => (if t9.1 = true then ((spec_Enter.f k h67_2 t3.1 ((rd_T53 h68 t5.1).f0) t3.2.2.1 t3.2.2.2.1 h68 h69).bind fun t13 => (spec_l12Store.c3 k (w64 (x4 + 1)) t9.2.1 t9.2.2.1 t9.2.2.2 h65 h66 h64_2 t13.1 t13.2.1 t13.2.2.1)) else ((spec_l01Below.f k 16 t9.2.1 t9.2.2.1 t9.2.2.2).bind fun t10 => ((spec_l01Below.f k 9 t10.2.1 t10.2.2.1 t10.2.2.2).bind fun t11 => ((spec_Enter.f k h67_2 4 ((rd_T53 h68 t5.1).f0) t10.1 (w64 (1 + t11.1)) h68 h69).bind fun t12 => (spec_l12Store.c3 k (w64 (x4 + 1)) t11.2.1 t11.2.2.1 t11.2.2.2 h65 h66 h64_2 t12.1 t12.2.1 t12.2.2.1)))))) else ((spec_Enter.f k h67_2 t3.1 ((rd_T53 h68 t5.1).f0) t3.2.2.1 t3.2.2.2.1 h68 h69).bind fun t14 => (spec_l12Store.c3 k (w64 (x4 + 1)) t6.2.1 t6.2.2.1 t6.2.2.2 h65 h66 h64_2 t14.1 t14.2.1 t14.2.2.1))) else ((spec_l01Below.f k 3 t6.2.1 t6.2.2.1 t6.2.2.2).bind fun t7 => ((spec_Enter.f k h67_2 2 (w64 (1 + t7.1)) 0 0 h68 h69).bind fun t8 => (spec_l12Store.c3 k (w64 (x4 + 1)) t7.2.1 t7.2.2.1 t7.2.2.2 h65 h66 h64_2 t8.1 t8.2.1 t8.2.2.1))))) else (if t3.1 = 3 then ((spec_l01Once.f k 3 t5.2.1 t5.2.2.1 t5.2.2.2).bind fun t15 => (if t15.1 = true then ((spec_Enter.f k h67_2 t3.1 ((rd_T53 h68 t5.1).f0) t3.2.2.1 t3.2.2.2.1 h68 h69).bind fun t19 => (spec_l12Store.c3 k (w64 (x4 + 1)) t15.2.1 t15.2.2.1 t15.2.2.2 h65 h66 h64_2 t19.1 t19.2.1 t19.2.2.1)) else ((spec_l01Below.f k 16 t15.2.1 t15.2.2.1 t15.2.2.2).bind fun t16 => ((spec_l01Below.f k 9 t16.2.1 t16.2.2.1 t16.2.2.2).bind fun t17 => ((spec_Enter.f k h67_2 4 ((rd_T53 h68 t5.1).f0) t16.1 (w64 (1 + t17.1)) h68 h69).bind fun t18 => (spec_l12Store.c3 k (w64 (x4 + 1)) t17.2.1 t17.2.2.1 t17.2.2.2 h65 h66 h64_2 t18.1 t18.2.1 t18.2.2.1)))))) else ((spec_Enter.f k h67_2 t3.1 ((rd_T53 h68 t5.1).f0) t3.2.2.1 t3.2.2.2.1 h68 h69).bind fun t20 => (spec_l12Store.c3 k (w64 (x4 + 1)) t5.2.1 t5.2.2.1 t5.2.2.2 h65 h66 h64_2 t20.1 t20.2.1 t20.2.2.1)))) else none) else none))))) else (if (h68.length : Int) = 0 then ((spec_l01Once.f k 5 t3.2.2.2.2.1 t3.2.2.2.2.2.1 t3.2.2.2.2.2.2).bind fun t51 => (if t51.1 = true then (if t3.1 = 3 then ((spec_l01Once.f k 3 t51.2.1 t51.2.2.1 t51.2.2.2).bind fun t54 => (if t54.1 = true then ((spec_Enter.f k h67_2 t3.1 t3.2.1 t3.2.2.1 t3.2.2.2.1 h68 h69).bind fun t58 => (spec_l12Store.c3 k (w64 (x4 + 1)) t54.2.1 t54.2.2.1 t54.2.2.2 h65 h66 h64_2 t58.1 t58.2.1 t58.2.2.1)) else ((spec_l01Below.f k 16 t54.2.1 t54.2.2.1 t54.2.2.2).bind fun t55 => ((spec_l01Below.f k 9 t55.2.1 t55.2.2.1 t55.2.2.2).bind fun t56 => ((spec_Enter.f k h67_2 4 t3.2.1 t55.1 (w64 (1 + t56.1)) h68 h69).bind fun t57 => (spec_l12Store.c3 k (w64 (x4 + 1)) t56.2.1 t56.2.2.1 t56.2.2.2 h65 h66 h64_2 t57.1 t57.2.1 t57.2.2.1)))))) else ((spec_Enter.f k h67_2 t3.1 t3.2.1 t3.2.2.1 t3.2.2.2.1 h68 h69).bind fun t59 => (spec_l12Store.c3 k (w64 (x4 + 1)) t51.2.1 t51.2.2.1 t51.2.2.2 h65 h66 h64_2 t59.1 t59.2.1 t59.2.2.1))) else ((spec_l01Below.f k 3 t51.2.1 t51.2.2.1 t51.2.2.2).bind fun t52 => ((spec_Enter.f k h67_2 2 (w64 (1 + t52.1)) 0 0 h68 h69).bind fun t53 => (spec_l12Store.c3 k (w64 (x4 + 1)) t52.2.1 t52.2.2.1 t52.2.2.2 h65 h66 h64_2 t53.1 t53.2.1 t53.2.2.1))))) else (if t3.1 = 3 then ((spec_l01Once.f k 3 t3.2.2.2.2.1 t3.2.2.2.2.2.1 t3.2.2.2.2.2.2).bind fun t60 => (if t60.1 = true then ((spec_Enter.f k h67_2 t3.1 t3.2.1 t3.2.2.1 t3.2.2.2.1 h68 h69).bind fun t64 => (spec_l12Store.c3 k (w64 (x4 + 1)) t60.2.1 t60.2.2.1 t60.2.2.2 h65 h66 h64_2 t64.1 t64.2.1 t64.2.2.1)) else ((spec_l01Below.f k 16 t60.2.1 t60.2.2.1 t60.2.2.2).bind fun t61 => ((spec_l01Below.f k 9 t61.2.1 t61.2.2.1 t61.2.2.2).bind fun t62 => ((spec_Enter.f k h67_2 4 t3.2.1 t61.1 (w64 (1 + t62.1)) h68 h69).bind fun t63 => (spec_l12Store.c3 k (w64 (x4 + 1)) t62.2.1 t62.2.2.1 t62.2.2.2 h65 h66 h64_2 t63.1 t63.2.1 t63.2.2.1)))))) else ((spec_Enter.f k h67_2 t3.1 t3.2.1 t3.2.2.1 t3.2.2.2.1 h68 h69).bind fun t65 => (spec_l12Store.c3 k (w64 (x4 + 1)) t3.2.2.2.2.1 t3.2.2.2.2.2.1 t3.2.2.2.2.2.2 h65 h66 h64_2 t65.1 t65.2.1 t65.2.2.1)))))) else (some (h68, h69, h67_2, t2.2.1, t2.2.2.1, t2.2.2.2))))
noncomputable def spec_l12Store.f (k : Nat) (a0_0 : List Int) (a0_1 : Int) (a0_2 : Int) : Option ((List S53) × (List S88) × Int × (List Int) × Int × Int) := ((spec_StoreNew.f k).bind fun t1 => (spec_l12Store.c3 k 0 a0_0 a0_1 a0_2 ([] : List S53) ([] : List S88) 0 t1.1 t1.2.1 t1.2.2))
noncomputable def spec_l12Store.e (r : (List S53) × (List S88) × Int × (List Int) × Int × Int) : Res Ty D := (.ag [.sl 1 none, .sl 2 none, .sc (.int .i64 r.2.2.1)], [some (.box [.row 1 .t5 r.2.2.2.1, .sc (.int .i64 r.2.2.2.2.1), .sc (.int .i64 r.2.2.2.2.2)])], [.rowb .t53 r.1 0, .rowb .t88 r.2.1 0])
noncomputable abbrev spec_l12Store.g (rec : List Item → St Ty D → R) (k : Nat) := go1 Try.f56 (spec_l12Store.ctx k) spec_l12Store.sp 1 spec_l12Store.en rec
set_option maxRecDepth 100000 in
theorem spec_l12Store.t3 (rec : List Item → St Ty D → R) (k : Nat) (x4 : Int) (h0_0 : List Int) (h0_1 : Int) (h0_2 : Int) (h65 : List S53) (h66 : List S88) (h64_2 : Int) (h68 : List S53) (h69 : List S88) (h67_2 : Int) : spec_l12Store.g rec k (td Try.f56 3) (spec_l12Store.s3 x4 h0_0 h0_1 h0_2 h65 h66 h64_2 h68 h69 h67_2) =
  (spec_l01Below.f k 14 h0_0 h0_1 h0_2).bind fun t2 => bif decide (x4 < t2.1) then (spec_l09Rec.f k t2.2.1 t2.2.2.1 t2.2.2.2).bind fun t3 => bif decide ((h68.length : Int) > 0) then bif !decide (t3.1 = 2) then (spec_l01Once.f k 5 t3.2.2.2.2.1 t3.2.2.2.2.2.1 t3.2.2.2.2.2.2).bind fun t4 => bif !t4.1 then (spec_l01Below.f k (h68.length : Int) t4.2.1 t4.2.2.1 t4.2.2.2).bind fun t5 => bif decide (0 ≤ t5.1) then bif decide (t5.1 < (h68.length : Int)) then bif decide ((h68.length : Int) = 0) then (spec_l01Once.f k 5 t5.2.1 t5.2.2.1 t5.2.2.2).bind fun t6 => bif !t6.1 then (spec_l01Below.f k 3 t6.2.1 t6.2.2.1 t6.2.2.2).bind fun t7 => (spec_Enter.f k h67_2 2 (w64 (1 + t7.1)) 0 0 h68 h69).bind fun t8 => rec (td Try.f56 3) (spec_l12Store.s3 (w64 (x4 + 1)) t7.2.1 t7.2.2.1 t7.2.2.2 h65 h66 h64_2 t8.1 t8.2.1 t8.2.2.1) else bif decide (t3.1 = 3) then (spec_l01Once.f k 3 t6.2.1 t6.2.2.1 t6.2.2.2).bind fun t9 => bif !t9.1 then (spec_l01Below.f k 16 t9.2.1 t9.2.2.1 t9.2.2.2).bind fun t10 => (spec_l01Below.f k 9 t10.2.1 t10.2.2.1 t10.2.2.2).bind fun t11 => (spec_Enter.f k h67_2 4 ((rd_T53 h68 t5.1).f0) t10.1 (w64 (1 + t11.1)) h68 h69).bind fun t12 => rec (td Try.f56 3) (spec_l12Store.s3 (w64 (x4 + 1)) t11.2.1 t11.2.2.1 t11.2.2.2 h65 h66 h64_2 t12.1 t12.2.1 t12.2.2.1) else (spec_Enter.f k h67_2 t3.1 ((rd_T53 h68 t5.1).f0) t3.2.2.1 t3.2.2.2.1 h68 h69).bind fun t13 => rec (td Try.f56 3) (spec_l12Store.s3 (w64 (x4 + 1)) t9.2.1 t9.2.2.1 t9.2.2.2 h65 h66 h64_2 t13.1 t13.2.1 t13.2.2.1) else (spec_Enter.f k h67_2 t3.1 ((rd_T53 h68 t5.1).f0) t3.2.2.1 t3.2.2.2.1 h68 h69).bind fun t14 => rec (td Try.f56 3) (spec_l12Store.s3 (w64 (x4 + 1)) t6.2.1 t6.2.2.1 t6.2.2.2 h65 h66 h64_2 t14.1 t14.2.1 t14.2.2.1) else bif decide (t3.1 = 3) then (spec_l01Once.f k 3 t5.2.1 t5.2.2.1 t5.2.2.2).bind fun t15 => bif !t15.1 then (spec_l01Below.f k 16 t15.2.1 t15.2.2.1 t15.2.2.2).bind fun t16 => (spec_l01Below.f k 9 t16.2.1 t16.2.2.1 t16.2.2.2).bind fun t17 => (spec_Enter.f k h67_2 4 ((rd_T53 h68 t5.1).f0) t16.1 (w64 (1 + t17.1)) h68 h69).bind fun t18 => rec (td Try.f56 3) (spec_l12Store.s3 (w64 (x4 + 1)) t17.2.1 t17.2.2.1 t17.2.2.2 h65 h66 h64_2 t18.1 t18.2.1 t18.2.2.1) else (spec_Enter.f k h67_2 t3.1 ((rd_T53 h68 t5.1).f0) t3.2.2.1 t3.2.2.2.1 h68 h69).bind fun t19 => rec (td Try.f56 3) (spec_l12Store.s3 (w64 (x4 + 1)) t15.2.1 t15.2.2.1 t15.2.2.2 h65 h66 h64_2 t19.1 t19.2.1 t19.2.2.1) else (spec_Enter.f k h67_2 t3.1 ((rd_T53 h68 t5.1).f0) t3.2.2.1 t3.2.2.2.1 h68 h69).bind fun t20 => rec (td Try.f56 3) (spec_l12Store.s3 (w64 (x4 + 1)) t5.2.1 t5.2.2.1 t5.2.2.2 h65 h66 h64_2 t20.1 t20.2.1 t20.2.2.1) else none else none else bif decide ((h68.length : Int) = 0) then (spec_l01Once.f k 5 t4.2.1 t4.2.2.1 t4.2.2.2).bind fun t21 => bif !t21.1 then (spec_l01Below.f k 3 t21.2.1 t21.2.2.1 t21.2.2.2).bind fun t22 => (spec_Enter.f k h67_2 2 (w64 (1 + t22.1)) 0 0 h68 h69).bind fun t23 => rec (td Try.f56 3) (spec_l12Store.s3 (w64 (x4 + 1)) t22.2.1 t22.2.2.1 t22.2.2.2 h65 h66 h64_2 t23.1 t23.2.1 t23.2.2.1) else bif decide (t3.1 = 3) then (spec_l01Once.f k 3 t21.2.1 t21.2.2.1 t21.2.2.2).bind fun t24 => bif !t24.1 then (spec_l01Below.f k 16 t24.2.1 t24.2.2.1 t24.2.2.2).bind fun t25 => (spec_l01Below.f k 9 t25.2.1 t25.2.2.1 t25.2.2.2).bind fun t26 => (spec_Enter.f k h67_2 4 t3.2.1 t25.1 (w64 (1 + t26.1)) h68 h69).bind fun t27 => rec (td Try.f56 3) (spec_l12Store.s3 (w64 (x4 + 1)) t26.2.1 t26.2.2.1 t26.2.2.2 h65 h66 h64_2 t27.1 t27.2.1 t27.2.2.1) else (spec_Enter.f k h67_2 t3.1 t3.2.1 t3.2.2.1 t3.2.2.2.1 h68 h69).bind fun t28 => rec (td Try.f56 3) (spec_l12Store.s3 (w64 (x4 + 1)) t24.2.1 t24.2.2.1 t24.2.2.2 h65 h66 h64_2 t28.1 t28.2.1 t28.2.2.1) else (spec_Enter.f k h67_2 t3.1 t3.2.1 t3.2.2.1 t3.2.2.2.1 h68 h69).bind fun t29 => rec (td Try.f56 3) (spec_l12Store.s3 (w64 (x4 + 1)) t21.2.1 t21.2.2.1 t21.2.2.2 h65 h66 h64_2 t29.1 t29.2.1 t29.2.2.1) else bif decide (t3.1 = 3) then (spec_l01Once.f k 3 t4.2.1 t4.2.2.1 t4.2.2.2).bind fun t30 => bif !t30.1 then (spec_l01Below.f k 16 t30.2.1 t30.2.2.1 t30.2.2.2).bind fun t31 => (spec_l01Below.f k 9 t31.2.1 t31.2.2.1 t31.2.2.2).bind fun t32 => (spec_Enter.f k h67_2 4 t3.2.1 t31.1 (w64 (1 + t32.1)) h68 h69).bind fun t33 => rec (td Try.f56 3) (spec_l12Store.s3 (w64 (x4 + 1)) t32.2.1 t32.2.2.1 t32.2.2.2 h65 h66 h64_2 t33.1 t33.2.1 t33.2.2.1) else (spec_Enter.f k h67_2 t3.1 t3.2.1 t3.2.2.1 t3.2.2.2.1 h68 h69).bind fun t34 => rec (td Try.f56 3) (spec_l12Store.s3 (w64 (x4 + 1)) t30.2.1 t30.2.2.1 t30.2.2.2 h65 h66 h64_2 t34.1 t34.2.1 t34.2.2.1) else (spec_Enter.f k h67_2 t3.1 t3.2.1 t3.2.2.1 t3.2.2.2.1 h68 h69).bind fun t35 => rec (td Try.f56 3) (spec_l12Store.s3 (w64 (x4 + 1)) t4.2.1 t4.2.2.1 t4.2.2.2 h65 h66 h64_2 t35.1 t35.2.1 t35.2.2.1) else bif decide ((h68.length : Int) = 0) then (spec_l01Once.f k 5 t3.2.2.2.2.1 t3.2.2.2.2.2.1 t3.2.2.2.2.2.2).bind fun t36 => bif !t36.1 then (spec_l01Below.f k 3 t36.2.1 t36.2.2.1 t36.2.2.2).bind fun t37 => (spec_Enter.f k h67_2 2 (w64 (1 + t37.1)) 0 0 h68 h69).bind fun t38 => rec (td Try.f56 3) (spec_l12Store.s3 (w64 (x4 + 1)) t37.2.1 t37.2.2.1 t37.2.2.2 h65 h66 h64_2 t38.1 t38.2.1 t38.2.2.1) else bif decide (t3.1 = 3) then (spec_l01Once.f k 3 t36.2.1 t36.2.2.1 t36.2.2.2).bind fun t39 => bif !t39.1 then (spec_l01Below.f k 16 t39.2.1 t39.2.2.1 t39.2.2.2).bind fun t40 => (spec_l01Below.f k 9 t40.2.1 t40.2.2.1 t40.2.2.2).bind fun t41 => (spec_Enter.f k h67_2 4 t3.2.1 t40.1 (w64 (1 + t41.1)) h68 h69).bind fun t42 => rec (td Try.f56 3) (spec_l12Store.s3 (w64 (x4 + 1)) t41.2.1 t41.2.2.1 t41.2.2.2 h65 h66 h64_2 t42.1 t42.2.1 t42.2.2.1) else (spec_Enter.f k h67_2 t3.1 t3.2.1 t3.2.2.1 t3.2.2.2.1 h68 h69).bind fun t43 => rec (td Try.f56 3) (spec_l12Store.s3 (w64 (x4 + 1)) t39.2.1 t39.2.2.1 t39.2.2.2 h65 h66 h64_2 t43.1 t43.2.1 t43.2.2.1) else (spec_Enter.f k h67_2 t3.1 t3.2.1 t3.2.2.1 t3.2.2.2.1 h68 h69).bind fun t44 => rec (td Try.f56 3) (spec_l12Store.s3 (w64 (x4 + 1)) t36.2.1 t36.2.2.1 t36.2.2.2 h65 h66 h64_2 t44.1 t44.2.1 t44.2.2.1) else bif decide (t3.1 = 3) then (spec_l01Once.f k 3 t3.2.2.2.2.1 t3.2.2.2.2.2.1 t3.2.2.2.2.2.2).bind fun t45 => bif !t45.1 then (spec_l01Below.f k 16 t45.2.1 t45.2.2.1 t45.2.2.2).bind fun t46 => (spec_l01Below.f k 9 t46.2.1 t46.2.2.1 t46.2.2.2).bind fun t47 => (spec_Enter.f k h67_2 4 t3.2.1 t46.1 (w64 (1 + t47.1)) h68 h69).bind fun t48 => rec (td Try.f56 3) (spec_l12Store.s3 (w64 (x4 + 1)) t47.2.1 t47.2.2.1 t47.2.2.2 h65 h66 h64_2 t48.1 t48.2.1 t48.2.2.1) else (spec_Enter.f k h67_2 t3.1 t3.2.1 t3.2.2.1 t3.2.2.2.1 h68 h69).bind fun t49 => rec (td Try.f56 3) (spec_l12Store.s3 (w64 (x4 + 1)) t45.2.1 t45.2.2.1 t45.2.2.2 h65 h66 h64_2 t49.1 t49.2.1 t49.2.2.1) else (spec_Enter.f k h67_2 t3.1 t3.2.1 t3.2.2.1 t3.2.2.2.1 h68 h69).bind fun t50 => rec (td Try.f56 3) (spec_l12Store.s3 (w64 (x4 + 1)) t3.2.2.2.2.1 t3.2.2.2.2.2.1 t3.2.2.2.2.2.2 h65 h66 h64_2 t50.1 t50.2.1 t50.2.2.1) else bif decide ((h68.length : Int) = 0) then (spec_l01Once.f k 5 t3.2.2.2.2.1 t3.2.2.2.2.2.1 t3.2.2.2.2.2.2).bind fun t51 => bif !t51.1 then (spec_l01Below.f k 3 t51.2.1 t51.2.2.1 t51.2.2.2).bind fun t52 => (spec_Enter.f k h67_2 2 (w64 (1 + t52.1)) 0 0 h68 h69).bind fun t53 => rec (td Try.f56 3) (spec_l12Store.s3 (w64 (x4 + 1)) t52.2.1 t52.2.2.1 t52.2.2.2 h65 h66 h64_2 t53.1 t53.2.1 t53.2.2.1) else bif decide (t3.1 = 3) then (spec_l01Once.f k 3 t51.2.1 t51.2.2.1 t51.2.2.2).bind fun t54 => bif !t54.1 then (spec_l01Below.f k 16 t54.2.1 t54.2.2.1 t54.2.2.2).bind fun t55 => (spec_l01Below.f k 9 t55.2.1 t55.2.2.1 t55.2.2.2).bind fun t56 => (spec_Enter.f k h67_2 4 t3.2.1 t55.1 (w64 (1 + t56.1)) h68 h69).bind fun t57 => rec (td Try.f56 3) (spec_l12Store.s3 (w64 (x4 + 1)) t56.2.1 t56.2.2.1 t56.2.2.2 h65 h66 h64_2 t57.1 t57.2.1 t57.2.2.1) else (spec_Enter.f k h67_2 t3.1 t3.2.1 t3.2.2.1 t3.2.2.2.1 h68 h69).bind fun t58 => rec (td Try.f56 3) (spec_l12Store.s3 (w64 (x4 + 1)) t54.2.1 t54.2.2.1 t54.2.2.2 h65 h66 h64_2 t58.1 t58.2.1 t58.2.2.1) else (spec_Enter.f k h67_2 t3.1 t3.2.1 t3.2.2.1 t3.2.2.2.1 h68 h69).bind fun t59 => rec (td Try.f56 3) (spec_l12Store.s3 (w64 (x4 + 1)) t51.2.1 t51.2.2.1 t51.2.2.2 h65 h66 h64_2 t59.1 t59.2.1 t59.2.2.1) else bif decide (t3.1 = 3) then (spec_l01Once.f k 3 t3.2.2.2.2.1 t3.2.2.2.2.2.1 t3.2.2.2.2.2.2).bind fun t60 => bif !t60.1 then (spec_l01Below.f k 16 t60.2.1 t60.2.2.1 t60.2.2.2).bind fun t61 => (spec_l01Below.f k 9 t61.2.1 t61.2.2.1 t61.2.2.2).bind fun t62 => (spec_Enter.f k h67_2 4 t3.2.1 t61.1 (w64 (1 + t62.1)) h68 h69).bind fun t63 => rec (td Try.f56 3) (spec_l12Store.s3 (w64 (x4 + 1)) t62.2.1 t62.2.2.1 t62.2.2.2 h65 h66 h64_2 t63.1 t63.2.1 t63.2.2.1) else (spec_Enter.f k h67_2 t3.1 t3.2.1 t3.2.2.1 t3.2.2.2.1 h68 h69).bind fun t64 => rec (td Try.f56 3) (spec_l12Store.s3 (w64 (x4 + 1)) t60.2.1 t60.2.2.1 t60.2.2.2 h65 h66 h64_2 t64.1 t64.2.1 t64.2.2.1) else (spec_Enter.f k h67_2 t3.1 t3.2.1 t3.2.2.1 t3.2.2.2.1 h68 h69).bind fun t65 => rec (td Try.f56 3) (spec_l12Store.s3 (w64 (x4 + 1)) t3.2.2.2.2.1 t3.2.2.2.2.2.1 t3.2.2.2.2.2.2 h65 h66 h64_2 t65.1 t65.2.1 t65.2.2.1) else some (spec_l12Store.e (h68, h69, h67_2, t2.2.1, t2.2.2.1, t2.2.2.2)) := by kernel_rfl
set_option maxRecDepth 100000 in
theorem spec_l12Store.te (rec : List Item → St Ty D → R) (k : Nat) (a0_0 : List Int) (a0_1 : Int) (a0_2 : Int) : spec_l12Store.g rec k [.code (body Try.f56)] (startSt [.pt 0 0 0] [.box [.row 1 .t5 a0_0, .sc (.int .i64 a0_1), .sc (.int .i64 a0_2)]]) =
  (spec_StoreNew.f k).bind fun t1 => rec (td Try.f56 3) (spec_l12Store.s3 0 a0_0 a0_1 a0_2 ([] : List S53) ([] : List S88) 0 t1.1 t1.2.1 t1.2.2) := by kernel_rfl
set_option maxRecDepth 100000 in
theorem spec_l12Store.ok : ∀ k : Nat, (∀ (x4 : Int) (h0_0 : List Int) (h0_1 : Int) (h0_2 : Int) (h65 : List S53) (h66 : List S88) (h64_2 : Int) (h68 : List S53) (h69 : List S88) (h67_2 : Int), goF Try.f56 spec_l12Store.ctx spec_l12Store.sp 1 spec_l12Store.en k (td Try.f56 3) (spec_l12Store.s3 x4 h0_0 h0_1 h0_2 h65 h66 h64_2 h68 h69 h67_2) = (spec_l12Store.c3 k x4 h0_0 h0_1 h0_2 h65 h66 h64_2 h68 h69 h67_2).map spec_l12Store.e)
  | 0 => fun _ _ _ _ _ _ _ _ _ _ => rfl
  | k + 1 => by
    have ih := spec_l12Store.ok k
    have i3 := ih
    intro x4 h0_0 h0_1 h0_2 h65 h66 h64_2 h68 h69 h67_2; rw [spec_l12Store.c3]; exact (spec_l12Store.t3 _ k x4 h0_0 h0_1 h0_2 h65 h66 h64_2 h68 h69 h67_2).trans (bn (fun t2 => (cd (bn (fun t3 => (cd (nd (bn (fun t4 => (nb (bn (fun t5 => (cd (cd (cd (bn (fun t6 => (nb (bn (fun t7 => (bn (fun t8 => (i3 _ _ _ _ _ _ _ _ _ _))))) (cd (bn (fun t9 => (nb (bn (fun t10 => (bn (fun t11 => (bn (fun t12 => (i3 _ _ _ _ _ _ _ _ _ _))))))) (bn (fun t13 => (i3 _ _ _ _ _ _ _ _ _ _)))))) (bn (fun t14 => (i3 _ _ _ _ _ _ _ _ _ _))))))) (cd (bn (fun t15 => (nb (bn (fun t16 => (bn (fun t17 => (bn (fun t18 => (i3 _ _ _ _ _ _ _ _ _ _))))))) (bn (fun t19 => (i3 _ _ _ _ _ _ _ _ _ _)))))) (bn (fun t20 => (i3 _ _ _ _ _ _ _ _ _ _))))) rfl) rfl))) (cd (bn (fun t21 => (nb (bn (fun t22 => (bn (fun t23 => (i3 _ _ _ _ _ _ _ _ _ _))))) (cd (bn (fun t24 => (nb (bn (fun t25 => (bn (fun t26 => (bn (fun t27 => (i3 _ _ _ _ _ _ _ _ _ _))))))) (bn (fun t28 => (i3 _ _ _ _ _ _ _ _ _ _)))))) (bn (fun t29 => (i3 _ _ _ _ _ _ _ _ _ _))))))) (cd (bn (fun t30 => (nb (bn (fun t31 => (bn (fun t32 => (bn (fun t33 => (i3 _ _ _ _ _ _ _ _ _ _))))))) (bn (fun t34 => (i3 _ _ _ _ _ _ _ _ _ _)))))) (bn (fun t35 => (i3 _ _ _ _ _ _ _ _ _ _)))))))) (cd (bn (fun t36 => (nb (bn (fun t37 => (bn (fun t38 => (i3 _ _ _ _ _ _ _ _ _ _))))) (cd (bn (fun t39 => (nb (bn (fun t40 => (bn (fun t41 => (bn (fun t42 => (i3 _ _ _ _ _ _ _ _ _ _))))))) (bn (fun t43 => (i3 _ _ _ _ _ _ _ _ _ _)))))) (bn (fun t44 => (i3 _ _ _ _ _ _ _ _ _ _))))))) (cd (bn (fun t45 => (nb (bn (fun t46 => (bn (fun t47 => (bn (fun t48 => (i3 _ _ _ _ _ _ _ _ _ _))))))) (bn (fun t49 => (i3 _ _ _ _ _ _ _ _ _ _)))))) (bn (fun t50 => (i3 _ _ _ _ _ _ _ _ _ _)))))) (cd (bn (fun t51 => (nb (bn (fun t52 => (bn (fun t53 => (i3 _ _ _ _ _ _ _ _ _ _))))) (cd (bn (fun t54 => (nb (bn (fun t55 => (bn (fun t56 => (bn (fun t57 => (i3 _ _ _ _ _ _ _ _ _ _))))))) (bn (fun t58 => (i3 _ _ _ _ _ _ _ _ _ _)))))) (bn (fun t59 => (i3 _ _ _ _ _ _ _ _ _ _))))))) (cd (bn (fun t60 => (nb (bn (fun t61 => (bn (fun t62 => (bn (fun t63 => (i3 _ _ _ _ _ _ _ _ _ _))))))) (bn (fun t64 => (i3 _ _ _ _ _ _ _ _ _ _)))))) (bn (fun t65 => (i3 _ _ _ _ _ _ _ _ _ _)))))))) rfl)))
set_option maxRecDepth 100000 in
theorem spec_l12Store.oke (k : Nat) (a0_0 : List Int) (a0_1 : Int) (a0_2 : Int) : goF Try.f56 spec_l12Store.ctx spec_l12Store.sp 1 spec_l12Store.en (k + 1) [.code (body Try.f56)] (startSt [.pt 0 0 0] [.box [.row 1 .t5 a0_0, .sc (.int .i64 a0_1), .sc (.int .i64 a0_2)]]) = (spec_l12Store.f k a0_0 a0_1 a0_2).map spec_l12Store.e := by
  have i3 := spec_l12Store.ok k
  rw [spec_l12Store.f]; exact (spec_l12Store.te _ k a0_0 a0_1 a0_2).trans (bn (fun t1 => (i3 _ _ _ _ _ _ _ _ _ _)))
theorem spec_l12Store.con (k : Nat) (a0_0 : List Int) (a0_1 : Int) (a0_2 : Int) (r) (h : spec_l12Store.f k a0_0 a0_1 a0_2 = some r) : Contract Try.prog kit 56 [.pt 0 0 0] [.box [.row 1 .t5 a0_0, .sc (.int .i64 a0_1), .sc (.int .i64 a0_2)]] (spec_l12Store.e r).1 (spec_l12Store.e r).2.1 (spec_l12Store.e r).2.2 :=
  con_okG kitOk mix (fun k => (CtxOk.cons (spec_Enter.xok k) (CtxOk.cons (spec_l09Rec.xok k) (CtxOk.cons (spec_l01Once.xok k) (CtxOk.cons (spec_l01Below.xok k) (CtxOk.cons (spec_StoreNew.xok k) CtxOk.nil)))))) (spec_l12Store.oke k a0_0 a0_1 a0_2) h (by kernel_rfl) (by kernel_rfl) (by kernel_rfl) rfl (by kernel_rfl) rfl rfl
noncomputable def spec_l12Store.x (k : Nat) : X := fun ins bs κ => match ins, bs with
  | [.pt 0 0 0], [.box [.row 1 .t5 a0_0, .sc (.int .i64 a0_1), .sc (.int .i64 a0_2)]] => (spec_l12Store.f k a0_0 a0_1 a0_2).bind fun r => κ (spec_l12Store.e r).1 (spec_l12Store.e r).2.1 (spec_l12Store.e r).2.2
  | _, _ => none
theorem spec_l12Store.xok (k : Nat) : XOk 56 (spec_l12Store.x k) := by
  intro ins bs κ res h
  unfold spec_l12Store.x at h
  split at h
  · obtain ⟨r, hr, h⟩ := Option.bind_eq_some_iff.1 h
    exact ⟨_, _, _, spec_l12Store.con k _ _ _ r hr, h⟩
  · cases h

/-! ### spec_DrawStoreRec: function 18 -/
noncomputable def spec_DrawStoreRec.sp : Nat → Option (Spec Ty) := fun r => none
noncomputable def spec_DrawStoreRec.en : Option (Spec Ty) := some ⟨[(2, .box [.own .t53, .own .t88, .keep]), (3, .box [.keep, .keep, .keep, .keep])], []⟩
noncomputable def spec_DrawStoreRec.ctx (k : Nat) : Ctx Ty D := (cons 55 (spec_l01New.x k) (cons 56 (spec_l12Store.x k) (cons 57 (spec_l09Rec.x k) (cons 58 (spec_l01Once.x k) (cons 59 (spec_l01Below.x k) (fun _ _ _ _ => none))))))
noncomputable def spec_DrawStoreRec.f (k : Nat) (a0 : List Int) : Option ((List S53) × (List S88) × Int × Int × Int × Int × Int) := ((spec_l01New.f k a0).bind fun t1 => ((spec_l12Store.f k t1.1 t1.2.1 t1.2.2).bind fun t2 => ((spec_l09Rec.f k t2.2.2.2.1 t2.2.2.2.2.1 t2.2.2.2.2.2).bind fun t3 => (if (t2.1.length : Int) > 0 then (if t3.1 = 2 then ((spec_l01Once.f k 12 t3.2.2.2.2.1 t3.2.2.2.2.2.1 t3.2.2.2.2.2.2).bind fun t8 => (if t8.1 = true then (some (t2.1, t2.2.1, t2.2.2.1, 1, 0, 4, 0)) else (some (t2.1, t2.2.1, t2.2.2.1, t3.1, t3.2.1, t3.2.2.1, t3.2.2.2.1)))) else ((spec_l01Once.f k 6 t3.2.2.2.2.1 t3.2.2.2.2.2.1 t3.2.2.2.2.2.2).bind fun t4 => (if t4.1 = true then ((spec_l01Once.f k 12 t4.2.1 t4.2.2.1 t4.2.2.2).bind fun t7 => (if t7.1 = true then (some (t2.1, t2.2.1, t2.2.2.1, 1, 0, 4, 0)) else (some (t2.1, t2.2.1, t2.2.2.1, t3.1, t3.2.1, t3.2.2.1, t3.2.2.2.1)))) else ((spec_l01Below.f k (t2.1.length : Int) t4.2.1 t4.2.2.1 t4.2.2.2).bind fun t5 => (if 0 ≤ t5.1 then (if t5.1 < (t2.1.length : Int) then ((spec_l01Once.f k 12 t5.2.1 t5.2.2.1 t5.2.2.2).bind fun t6 => (if t6.1 = true then (some (t2.1, t2.2.1, t2.2.2.1, 1, 0, 4, 0)) else (some (t2.1, t2.2.1, t2.2.2.1, t3.1, (rd_T53 t2.1 t5.1).f0, t3.2.2.1, t3.2.2.2.1)))) else none) else none))))) else ((spec_l01Once.f k 12 t3.2.2.2.2.1 t3.2.2.2.2.2.1 t3.2.2.2.2.2.2).bind fun t9 => (if t9.1 = true then (some (t2.1, t2.2.1, t2.2.2.1, 1, 0, 4, 0)) else (some (t2.1, t2.2.1, t2.2.2.1, t3.1, t3.2.1, t3.2.2.1, t3.2.2.2.1))))))))
noncomputable def spec_DrawStoreRec.e (r : (List S53) × (List S88) × Int × Int × Int × Int × Int) : Res Ty D := (.tu [.ag [.sl 0 none, .sl 1 none, .sc (.int .i64 r.2.2.1)], .ag [.sc (.int .i64 r.2.2.2.1), .sc (.int .i64 r.2.2.2.2.1), .sc (.int .i64 r.2.2.2.2.2.1), .sc (.int .i64 r.2.2.2.2.2.2)]], [], [.rowb .t53 r.1 0, .rowb .t88 r.2.1 0])
noncomputable abbrev spec_DrawStoreRec.g (rec : List Item → St Ty D → R) (k : Nat) := go1 Try.f18 (spec_DrawStoreRec.ctx k) spec_DrawStoreRec.sp 0 spec_DrawStoreRec.en rec
set_option maxRecDepth 100000 in
theorem spec_DrawStoreRec.te (rec : List Item → St Ty D → R) (k : Nat) (a0 : List Int) : spec_DrawStoreRec.g rec k [.code (body Try.f18)] (startSt [.row 0 .t5 a0] []) =
  (spec_l01New.f k a0).bind fun t1 => (spec_l12Store.f k t1.1 t1.2.1 t1.2.2).bind fun t2 => (spec_l09Rec.f k t2.2.2.2.1 t2.2.2.2.2.1 t2.2.2.2.2.2).bind fun t3 => bif decide ((t2.1.length : Int) > 0) then bif !decide (t3.1 = 2) then (spec_l01Once.f k 6 t3.2.2.2.2.1 t3.2.2.2.2.2.1 t3.2.2.2.2.2.2).bind fun t4 => bif !t4.1 then (spec_l01Below.f k (t2.1.length : Int) t4.2.1 t4.2.2.1 t4.2.2.2).bind fun t5 => bif decide (0 ≤ t5.1) then bif decide (t5.1 < (t2.1.length : Int)) then (spec_l01Once.f k 12 t5.2.1 t5.2.2.1 t5.2.2.2).bind fun t6 => bif t6.1 then some (spec_DrawStoreRec.e (t2.1, t2.2.1, t2.2.2.1, 1, 0, 4, 0)) else some (spec_DrawStoreRec.e (t2.1, t2.2.1, t2.2.2.1, t3.1, (rd_T53 t2.1 t5.1).f0, t3.2.2.1, t3.2.2.2.1)) else none else none else (spec_l01Once.f k 12 t4.2.1 t4.2.2.1 t4.2.2.2).bind fun t7 => bif t7.1 then some (spec_DrawStoreRec.e (t2.1, t2.2.1, t2.2.2.1, 1, 0, 4, 0)) else some (spec_DrawStoreRec.e (t2.1, t2.2.1, t2.2.2.1, t3.1, t3.2.1, t3.2.2.1, t3.2.2.2.1)) else (spec_l01Once.f k 12 t3.2.2.2.2.1 t3.2.2.2.2.2.1 t3.2.2.2.2.2.2).bind fun t8 => bif t8.1 then some (spec_DrawStoreRec.e (t2.1, t2.2.1, t2.2.2.1, 1, 0, 4, 0)) else some (spec_DrawStoreRec.e (t2.1, t2.2.1, t2.2.2.1, t3.1, t3.2.1, t3.2.2.1, t3.2.2.2.1)) else (spec_l01Once.f k 12 t3.2.2.2.2.1 t3.2.2.2.2.2.1 t3.2.2.2.2.2.2).bind fun t9 => bif t9.1 then some (spec_DrawStoreRec.e (t2.1, t2.2.1, t2.2.2.1, 1, 0, 4, 0)) else some (spec_DrawStoreRec.e (t2.1, t2.2.1, t2.2.2.1, t3.1, t3.2.1, t3.2.2.1, t3.2.2.2.1)) := by kernel_rfl
set_option maxRecDepth 100000 in
theorem spec_DrawStoreRec.oke (k : Nat) (a0 : List Int) : goF Try.f18 spec_DrawStoreRec.ctx spec_DrawStoreRec.sp 0 spec_DrawStoreRec.en (k + 1) [.code (body Try.f18)] (startSt [.row 0 .t5 a0] []) = (spec_DrawStoreRec.f k a0).map spec_DrawStoreRec.e := by
  rw [spec_DrawStoreRec.f]; exact (spec_DrawStoreRec.te _ k a0).trans (bn (fun t1 => (bn (fun t2 => (bn (fun t3 => (cd (nd (bn (fun t4 => (nb (bn (fun t5 => (cd (cd (bn (fun t6 => (cb rfl rfl))) rfl) rfl))) (bn (fun t7 => (cb rfl rfl)))))) (bn (fun t8 => (cb rfl rfl)))) (bn (fun t9 => (cb rfl rfl))))))))))
theorem spec_DrawStoreRec.con (k : Nat) (a0 : List Int) (r) (h : spec_DrawStoreRec.f k a0 = some r) : Contract Try.prog kit 18 [.row 0 .t5 a0] [] (spec_DrawStoreRec.e r).1 (spec_DrawStoreRec.e r).2.1 (spec_DrawStoreRec.e r).2.2 :=
  con_okG kitOk mix (fun k => (CtxOk.cons (spec_l01New.xok k) (CtxOk.cons (spec_l12Store.xok k) (CtxOk.cons (spec_l09Rec.xok k) (CtxOk.cons (spec_l01Once.xok k) (CtxOk.cons (spec_l01Below.xok k) CtxOk.nil)))))) (spec_DrawStoreRec.oke k a0) h (by kernel_rfl) (by kernel_rfl) (by kernel_rfl) rfl (by kernel_rfl) rfl rfl
noncomputable def spec_DrawStoreRec.x (k : Nat) : X := fun ins bs κ => match ins, bs with
  | [.row 0 .t5 a0], [] => (spec_DrawStoreRec.f k a0).bind fun r => κ (spec_DrawStoreRec.e r).1 (spec_DrawStoreRec.e r).2.1 (spec_DrawStoreRec.e r).2.2
  | _, _ => none
theorem spec_DrawStoreRec.xok (k : Nat) : XOk 18 (spec_DrawStoreRec.x k) := by
  intro ins bs κ res h
  unfold spec_DrawStoreRec.x at h
  split at h
  · obtain ⟨r, hr, h⟩ := Option.bind_eq_some_iff.1 h
    exact ⟨_, _, _, spec_DrawStoreRec.con k _ r hr, h⟩
  · cases h

/-! ### impl_numberAt: function 95 -/
noncomputable def impl_numberAt.sp : Nat → Option (Spec Ty) := fun r => none
noncomputable def impl_numberAt.en : Option (Spec Ty) := none
noncomputable def impl_numberAt.ctx (k : Nat) : Ctx Ty D := (fun _ _ _ _ => none)
noncomputable def impl_numberAt.f (k : Nat) (a0_0 : List S88) (a1 : Int) (a2 : Int) : Option (Int) := (if 0 ≤ a1 then (if a1 < (a0_0.length : Int) then (if 0 ≤ (w64 (Int.tdiv a2 4)) then (if (w64 (Int.tdiv a2 4)) < (((rd_T88 a0_0 a1).f1).length : Int) then (if (rd_T3 ((rd_T88 a0_0 a1).f1) (w64 (Int.tdiv a2 4))) < 0 then (some (0)) else (if 0 ≤ (rd_T3 ((rd_T88 a0_0 a1).f1) (w64 (Int.tdiv a2 4))) then (if (rd_T3 ((rd_T88 a0_0 a1).f1) (w64 (Int.tdiv a2 4))) < (a0_0.length : Int) then (if 0 ≤ (Int.tmod a2 4) then (if (Int.tmod a2 4) < (((rd_T88 a0_0 (rd_T3 ((rd_T88 a0_0 a1).f1) (w64 (Int.tdiv a2 4)))).f1).length : Int) then (some ((rd_T3 ((rd_T88 a0_0 (rd_T3 ((rd_T88 a0_0 a1).f1) (w64 (Int.tdiv a2 4)))).f1) (Int.tmod a2 4)))) else none) else none) else none) else none)) else none) else none) else none) else none)
noncomputable def impl_numberAt.e (r : Int) : Res Ty D := (.sc (.int .i64 r), [], [])
noncomputable abbrev impl_numberAt.g (rec : List Item → St Ty D → R) (k : Nat) := go1 Try.f95 (impl_numberAt.ctx k) impl_numberAt.sp 0 impl_numberAt.en rec
set_option maxRecDepth 100000 in
theorem impl_numberAt.te (rec : List Item → St Ty D → R) (k : Nat) (a0_0 : List S88) (a1 : Int) (a2 : Int) : impl_numberAt.g rec k [.code (body Try.f95)] (startSt [.ag [.row 0 .t88 a0_0], .sc (.int .i64 a1), .sc (.int .i64 a2)] []) =
  bif decide (0 ≤ a1) then bif decide (a1 < (a0_0.length : Int)) then bif decide (0 ≤ (w64 (Int.tdiv a2 4))) then bif decide ((w64 (Int.tdiv a2 4)) < (((rd_T88 a0_0 a1).f1).length : Int)) then bif decide ((rd_T3 ((rd_T88 a0_0 a1).f1) (w64 (Int.tdiv a2 4))) < 0) then some (impl_numberAt.e (0)) else bif decide (0 ≤ (rd_T3 ((rd_T88 a0_0 a1).f1) (w64 (Int.tdiv a2 4)))) then bif decide ((rd_T3 ((rd_T88 a0_0 a1).f1) (w64 (Int.tdiv a2 4))) < (a0_0.length : Int)) then bif decide (0 ≤ (Int.tmod a2 4)) then bif decide ((Int.tmod a2 4) < (((rd_T88 a0_0 (rd_T3 ((rd_T88 a0_0 a1).f1) (w64 (Int.tdiv a2 4)))).f1).length : Int)) then some (impl_numberAt.e ((rd_T3 ((rd_T88 a0_0 (rd_T3 ((rd_T88 a0_0 a1).f1) (w64 (Int.tdiv a2 4)))).f1) (Int.tmod a2 4)))) else none else none else none else none else none else none else none else none := by kernel_rfl
set_option maxRecDepth 100000 in
theorem impl_numberAt.oke (k : Nat) (a0_0 : List S88) (a1 : Int) (a2 : Int) : goF Try.f95 impl_numberAt.ctx impl_numberAt.sp 0 impl_numberAt.en (k + 1) [.code (body Try.f95)] (startSt [.ag [.row 0 .t88 a0_0], .sc (.int .i64 a1), .sc (.int .i64 a2)] []) = (impl_numberAt.f k a0_0 a1 a2).map impl_numberAt.e := by
  rw [impl_numberAt.f]; exact (impl_numberAt.te _ k a0_0 a1 a2).trans (cd (cd (cd (cd (cd rfl (cd (cd (cd (cd rfl rfl) rfl) rfl) rfl)) rfl) rfl) rfl) rfl)
theorem impl_numberAt.con (k : Nat) (a0_0 : List S88) (a1 : Int) (a2 : Int) (r) (h : impl_numberAt.f k a0_0 a1 a2 = some r) : Contract Try.prog kit 95 [.ag [.row 0 .t88 a0_0], .sc (.int .i64 a1), .sc (.int .i64 a2)] [] (impl_numberAt.e r).1 (impl_numberAt.e r).2.1 (impl_numberAt.e r).2.2 :=
  con_okG kitOk mix (fun k => CtxOk.nil) (impl_numberAt.oke k a0_0 a1 a2) h (by kernel_rfl) (by kernel_rfl) (by kernel_rfl) rfl (by kernel_rfl) rfl rfl
noncomputable def impl_numberAt.x (k : Nat) : X := fun ins bs κ => match ins, bs with
  | [.ag [.row 0 .t88 a0_0], .sc (.int .i64 a1), .sc (.int .i64 a2)], [] => (impl_numberAt.f k a0_0 a1 a2).bind fun r => κ (impl_numberAt.e r).1 (impl_numberAt.e r).2.1 (impl_numberAt.e r).2.2
  | _, _ => none
theorem impl_numberAt.xok (k : Nat) : XOk 95 (impl_numberAt.x k) := by
  intro ins bs κ res h
  unfold impl_numberAt.x at h
  split at h
  · obtain ⟨r, hr, h⟩ := Option.bind_eq_some_iff.1 h
    exact ⟨_, _, _, impl_numberAt.con k _ _ _ r hr, h⟩
  · cases h
end Go.Proofs.Yteideicglgpfiaa.M2

/- Plain runs of functions: each is a plain Lean function, and keeps its contract. Written by a program of this session. -/
namespace Go.Proofs.Yteideicglgpfiaa.M2
open Go Go.Proofs.Yteideicglgpfiaa.PK
set_option linter.unusedVariables false
set_option linter.unusedSimpArgs false
set_option maxHeartbeats 4000000
/-! ### impl_GetAt: function 64 -/
noncomputable def impl_GetAt.sp : Nat → Option (Spec Ty) := fun r => none
noncomputable def impl_GetAt.en : Option (Spec Ty) := none
noncomputable def impl_GetAt.ctx (k : Nat) : Ctx Ty D := (cons 67 (impl_ArenaOk.x k) (cons 68 (impl_in.x k) (cons 69 (impl_isRoot.x k) (cons 95 (impl_numberAt.x k) (fun _ _ _ _ => none)))))
noncomputable def impl_GetAt.f (k : Nat) (a0_0 : List S88) (a1 : Int) (a2 : Int) : Option (Int) := ((impl_in.f k a2 0 15).bind fun t1 => (if t1 = true then ((impl_isRoot.f k a0_0 a1).bind fun t2 => (if t2 = true then ((impl_ArenaOk.f k a0_0).bind fun t3 => (if t3 = true then ((impl_numberAt.f k a0_0 a1 a2).bind fun t4 => (some (t4))) else (some (0)))) else (some (0)))) else (some (0))))
noncomputable def impl_GetAt.e (r : Int) : Res Ty D := (.sc (.int .i64 r), [], [])
noncomputable abbrev impl_GetAt.g (rec : List Item → St Ty D → R) (k : Nat) := go1 Try.f64 (impl_GetAt.ctx k) impl_GetAt.sp 0 impl_GetAt.en rec
set_option maxRecDepth 100000 in
theorem impl_GetAt.te (rec : List Item → St Ty D → R) (k : Nat) (a0_0 : List S88) (a1 : Int) (a2 : Int) : impl_GetAt.g rec k [.code (body Try.f64)] (startSt [.ag [.row 0 .t88 a0_0], .sc (.int .i64 a1), .sc (.int .i64 a2)] []) =
  (impl_in.f k a2 0 15).bind fun t1 => bif !t1 then some (impl_GetAt.e (0)) else (impl_isRoot.f k a0_0 a1).bind fun t2 => bif !t2 then some (impl_GetAt.e (0)) else (impl_ArenaOk.f k a0_0).bind fun t3 => bif !t3 then some (impl_GetAt.e (0)) else (impl_numberAt.f k a0_0 a1 a2).bind fun t4 => some (impl_GetAt.e (t4)) := by kernel_rfl
set_option maxRecDepth 100000 in
theorem impl_GetAt.oke (k : Nat) (a0_0 : List S88) (a1 : Int) (a2 : Int) : goF Try.f64 impl_GetAt.ctx impl_GetAt.sp 0 impl_GetAt.en (k + 1) [.code (body Try.f64)] (startSt [.ag [.row 0 .t88 a0_0], .sc (.int .i64 a1), .sc (.int .i64 a2)] []) = (impl_GetAt.f k a0_0 a1 a2).map impl_GetAt.e := by
  rw [impl_GetAt.f]; exact (impl_GetAt.te _ k a0_0 a1 a2).trans (bn (fun t1 => (nb rfl (bn (fun t2 => (nb rfl (bn (fun t3 => (nb rfl (bn (fun t4 => rfl)))))))))))
theorem impl_GetAt.con (k : Nat) (a0_0 : List S88) (a1 : Int) (a2 : Int) (r) (h : impl_GetAt.f k a0_0 a1 a2 = some r) : Contract Try.prog kit 64 [.ag [.row 0 .t88 a0_0], .sc (.int .i64 a1), .sc (.int .i64 a2)] [] (impl_GetAt.e r).1 (impl_GetAt.e r).2.1 (impl_GetAt.e r).2.2 :=
  con_okG kitOk mix (fun k => (CtxOk.cons (impl_ArenaOk.xok k) (CtxOk.cons (impl_in.xok k) (CtxOk.cons (impl_isRoot.xok k) (CtxOk.cons (impl_numberAt.xok k) CtxOk.nil))))) (impl_GetAt.oke k a0_0 a1 a2) h (by kernel_rfl) (by kernel_rfl) (by kernel_rfl) rfl (by kernel_rfl) rfl rfl
noncomputable def impl_GetAt.x (k : Nat) : X := fun ins bs κ => match ins, bs with
  | [.ag [.row 0 .t88 a0_0], .sc (.int .i64 a1), .sc (.int .i64 a2)], [] => (impl_GetAt.f k a0_0 a1 a2).bind fun r => κ (impl_GetAt.e r).1 (impl_GetAt.e r).2.1 (impl_GetAt.e r).2.2
  | _, _ => none
theorem impl_GetAt.xok (k : Nat) : XOk 64 (impl_GetAt.x k) := by
  intro ins bs κ res h
  unfold impl_GetAt.x at h
  split at h
  · obtain ⟨r, hr, h⟩ := Option.bind_eq_some_iff.1 h
    exact ⟨_, _, _, impl_GetAt.con k _ _ _ r hr, h⟩
  · cases h

/-! ### impl_AllAt: function 66 -/
noncomputable def impl_AllAt.sp : Nat → Option (Spec Ty) := fun r => bif Nat.beq r 3 then some ⟨[(1, .keep), (2, .box [.keep]), (5, .own .t3), (7, .keep)], []⟩ else none
noncomputable def impl_AllAt.en : Option (Spec Ty) := some ⟨[(4, .own .t3)], []⟩
noncomputable def impl_AllAt.s3 (x1 : Int) (x7 : Int) (h64_0 : List S88) (h65 : List Int) : St Ty D := ⟨(Env.put (Env.put (Env.put (Env.put E (some 1) (.sc (.int .i64 x1))) (some 2) (.pt 64 0 0)) (some 5) (.sl 65 none)) (some 7) (.sc (.int .i64 x7))), Heap.put H0 [(64, some (.box [.row 0 .t88 h64_0])), (65, some (.rowb .t3 h65 0))], 1000⟩
noncomputable def impl_AllAt.ctx (k : Nat) : Ctx Ty D := (cons 64 (impl_GetAt.x k) (fun _ _ _ _ => none))
noncomputable def impl_AllAt.c3 : Nat → Int → Int → (List S88) → (List Int) → Option ((List Int))
  | 0, _, _, _, _ => none
  | k + 1, x1, x7, h64_0, h65 => (if x7 < 16 then ((impl_GetAt.f k h64_0 x1 x7).bind fun t1 => (if h65.length + ([t1] : List Int).length ≤ 17592186044416 then (impl_AllAt.c3 k x1 (w64 (x7 + 1)) h64_0 (h65 ++ ([t1] : List Int))) else none)) else (some (h65)))
noncomputable def impl_AllAt.f (k : Nat) (a0_0 : List S88) (a1 : Int) : Option ((List Int)) := (impl_AllAt.c3 k a1 0 a0_0 ([] : List Int))
noncomputable def impl_AllAt.e (r : (List Int)) : Res Ty D := (.sl 0 none, [], [.rowb .t3 r 0])
noncomputable abbrev impl_AllAt.g (rec : List Item → St Ty D → R) (k : Nat) := go1 Try.f66 (impl_AllAt.ctx k) impl_AllAt.sp 0 impl_AllAt.en rec
set_option maxRecDepth 100000 in
theorem impl_AllAt.t3 (rec : List Item → St Ty D → R) (k : Nat) (x1 : Int) (x7 : Int) (h64_0 : List S88) (h65 : List Int) : impl_AllAt.g rec k (td Try.f66 3) (impl_AllAt.s3 x1 x7 h64_0 h65) =
  bif decide (x7 < 16) then (impl_GetAt.f k h64_0 x1 x7).bind fun t1 => bif decide (h65.length + ([t1] : List Int).length ≤ 17592186044416) then rec (td Try.f66 3) (impl_AllAt.s3 x1 (w64 (x7 + 1)) h64_0 (h65 ++ ([t1] : List Int))) else none else some (impl_AllAt.e (h65)) := by kernel_rfl
set_option maxRecDepth 100000 in
theorem impl_AllAt.te (rec : List Item → St Ty D → R) (k : Nat) (a0_0 : List S88) (a1 : Int) : impl_AllAt.g rec k [.code (body Try.f66)] (startSt [.ag [.row 0 .t88 a0_0], .sc (.int .i64 a1)] []) =
  rec (td Try.f66 3) (impl_AllAt.s3 a1 0 a0_0 ([] : List Int)) := by kernel_rfl
set_option maxRecDepth 100000 in
theorem impl_AllAt.ok : ∀ k : Nat, (∀ (x1 : Int) (x7 : Int) (h64_0 : List S88) (h65 : List Int), goF Try.f66 impl_AllAt.ctx impl_AllAt.sp 0 impl_AllAt.en k (td Try.f66 3) (impl_AllAt.s3 x1 x7 h64_0 h65) = (impl_AllAt.c3 k x1 x7 h64_0 h65).map impl_AllAt.e)
  | 0 => fun _ _ _ _ => rfl
  | k + 1 => by
    have ih := impl_AllAt.ok k
    have i3 := ih
    intro x1 x7 h64_0 h65; rw [impl_AllAt.c3]; exact (impl_AllAt.t3 _ k x1 x7 h64_0 h65).trans (cd (bn (fun t1 => (cd (i3 _ _ _ _) rfl))) rfl)
set_option maxRecDepth 100000 in
theorem impl_AllAt.oke (k : Nat) (a0_0 : List S88) (a1 : Int) : goF Try.f66 impl_AllAt.ctx impl_AllAt.sp 0 impl_AllAt.en (k + 1) [.code (body Try.f66)] (startSt [.ag [.row 0 .t88 a0_0], .sc (.int .i64 a1)] []) = (impl_AllAt.f k a0_0 a1).map impl_AllAt.e := by
  have i3 := impl_AllAt.ok k
  rw [impl_AllAt.f]; exact (impl_AllAt.te _ k a0_0 a1).trans (i3 _ _ _ _)
theorem impl_AllAt.con (k : Nat) (a0_0 : List S88) (a1 : Int) (r) (h : impl_AllAt.f k a0_0 a1 = some r) : Contract Try.prog kit 66 [.ag [.row 0 .t88 a0_0], .sc (.int .i64 a1)] [] (impl_AllAt.e r).1 (impl_AllAt.e r).2.1 (impl_AllAt.e r).2.2 :=
  con_okG kitOk mix (fun k => (CtxOk.cons (impl_GetAt.xok k) CtxOk.nil)) (impl_AllAt.oke k a0_0 a1) h (by kernel_rfl) (by kernel_rfl) (by kernel_rfl) rfl (by kernel_rfl) rfl rfl
noncomputable def impl_AllAt.x (k : Nat) : X := fun ins bs κ => match ins, bs with
  | [.ag [.row 0 .t88 a0_0], .sc (.int .i64 a1)], [] => (impl_AllAt.f k a0_0 a1).bind fun r => κ (impl_AllAt.e r).1 (impl_AllAt.e r).2.1 (impl_AllAt.e r).2.2
  | _, _ => none
theorem impl_AllAt.xok (k : Nat) : XOk 66 (impl_AllAt.x k) := by
  intro ins bs κ res h
  unfold impl_AllAt.x at h
  split at h
  · obtain ⟨r, hr, h⟩ := Option.bind_eq_some_iff.1 h
    exact ⟨_, _, _, impl_AllAt.con k _ _ r hr, h⟩
  · cases h

/-! ### impl_chunksOf: function 60 -/
noncomputable def impl_chunksOf.sp : Nat → Option (Spec Ty) := fun r => bif Nat.beq r 3 then some ⟨[(1, .box [.keep, .keep, .keep]), (3, .own .t3), (9, .keep), (10, .keep), (11, .keep)], []⟩ else bif Nat.beq r 6 then some ⟨[(1, .box [.keep, .keep, .keep]), (3, .own .t3), (9, .keep), (10, .keep), (11, .keep), (19, .own .t3), (20, .keep), (21, .keep)], []⟩ else none
noncomputable def impl_chunksOf.en : Option (Spec Ty) := some ⟨[(2, .own .t3)], []⟩
noncomputable def impl_chunksOf.s3 (x9 : List S53) (x10 : Int) (x11 : Int) (h64_0 : List S53) (h64_1 : List S88) (h64_2 : Int) (h65 : List Int) : St Ty D := ⟨(Env.put (Env.put (Env.put (Env.put (Env.put E (some 1) (.pt 64 0 0)) (some 3) (.sl 65 none)) (some 9) (.row 0 .t53 x9)) (some 10) (.sc (.int .i64 x10))) (some 11) (.sc (.int .i64 x11))), Heap.put H0 [(64, some (.box [.row 0 .t53 h64_0, .row 0 .t88 h64_1, .sc (.int .i64 h64_2)])), (65, some (.rowb .t3 h65 0))], 1000⟩
noncomputable def impl_chunksOf.s6 (x9 : List S53) (x10 : Int) (x11 : Int) (x20 : Int) (x21 : Int) (h64_0 : List S53) (h64_1 : List S88) (h64_2 : Int) (h65 : List Int) (h66 : List Int) : St Ty D := ⟨(Env.put (Env.put (Env.put (Env.put (Env.put (Env.put (Env.put (Env.put E (some 1) (.pt 64 0 0)) (some 3) (.sl 65 none)) (some 9) (.row 0 .t53 x9)) (some 10) (.sc (.int .i64 x10))) (some 11) (.sc (.int .i64 x11))) (some 19) (.sl 66 none)) (some 20) (.sc (.int .i64 x20))) (some 21) (.sc (.int .i64 x21))), Heap.put H0 [(64, some (.box [.row 0 .t53 h64_0, .row 0 .t88 h64_1, .sc (.int .i64 h64_2)])), (65, some (.rowb .t3 h65 0)), (66, some (.rowb .t3 h66 0))], 1000⟩
noncomputable def impl_chunksOf.ctx (k : Nat) : Ctx Ty D := (cons 66 (impl_AllAt.x k) (fun _ _ _ _ => none))
mutual
noncomputable def impl_chunksOf.c3 : Nat → (List S53) → Int → Int → (List S53) → (List S88) → Int → (List Int) → Option ((List Int))
  | 0, _, _, _, _, _, _, _ => none
  | k + 1, x9, x10, x11, h64_0, h64_1, h64_2, h65 => (if x11 < x10 then (if 0 ≤ x11 then (if x11 < (x9.length : Int) then ((impl_AllAt.f k h64_1 ((rd_T53 x9 x11).f1)).bind fun t1 => (impl_chunksOf.c6 k x9 x10 x11 (t1.length : Int) 0 h64_0 h64_1 h64_2 h65 t1)) else none) else none) else (some (h65)))
noncomputable def impl_chunksOf.c6 : Nat → (List S53) → Int → Int → Int → Int → (List S53) → (List S88) → Int → (List Int) → (List Int) → Option ((List Int))
  | 0, _, _, _, _, _, _, _, _, _, _ => none
  | k + 1, x9, x10, x11, x20, x21, h64_0, h64_1, h64_2, h65, h66 => (if x21 < x20 then (if 0 ≤ x21 then (if x21 < (h66.length : Int) then (if (rd_T3 h66 x21) > 0 then (if h65.length + ([(rd_T3 h66 x21)] : List Int).length ≤ 17592186044416 then (impl_chunksOf.c6 k x9 x10 x11 x20 (w64 (x21 + 1)) h64_0 h64_1 h64_2 (h65 ++ ([(rd_T3 h66 x21)] : List Int)) h66) else none) else (impl_chunksOf.c6 k x9 x10 x11 x20 (w64 (x21 + 1)) h64_0 h64_1 h64_2 h65 h66)) else none) else none) else (impl_chunksOf.c3 k x9 x10 (w64 (x11 + 1)) h64_0 h64_1 h64_2 h65))
end
noncomputable def impl_chunksOf.f (k : Nat) (a0_0 : List S53) (a0_1 : List S88) (a0_2 : Int) : Option ((List Int)) := (impl_chunksOf.c3 k a0_0 (a0_0.length : Int) 0 a0_0 a0_1 a0_2 ([] : List Int))
noncomputable def impl_chunksOf.e (r : (List Int)) : Res Ty D := (.sl 0 none, [], [.rowb .t3 r 0])
noncomputable abbrev impl_chunksOf.g (rec : List Item → St Ty D → R) (k : Nat) := go1 Try.f60 (impl_chunksOf.ctx k) impl_chunksOf.sp 0 impl_chunksOf.en rec
set_option maxRecDepth 100000 in
theorem impl_chunksOf.t3 (rec : List Item → St Ty D → R) (k : Nat) (x9 : List S53) (x10 : Int) (x11 : Int) (h64_0 : List S53) (h64_1 : List S88) (h64_2 : Int) (h65 : List Int) : impl_chunksOf.g rec k (td Try.f60 3) (impl_chunksOf.s3 x9 x10 x11 h64_0 h64_1 h64_2 h65) =
  bif decide (x11 < x10) then bif decide (0 ≤ x11) then bif decide (x11 < (x9.length : Int)) then (impl_AllAt.f k h64_1 ((rd_T53 x9 x11).f1)).bind fun t1 => rec (td Try.f60 6) (impl_chunksOf.s6 x9 x10 x11 (t1.length : Int) 0 h64_0 h64_1 h64_2 h65 t1) else none else none else some (impl_chunksOf.e (h65)) := by kernel_rfl
set_option maxRecDepth 100000 in
theorem impl_chunksOf.t6 (rec : List Item → St Ty D → R) (k : Nat) (x9 : List S53) (x10 : Int) (x11 : Int) (x20 : Int) (x21 : Int) (h64_0 : List S53) (h64_1 : List S88) (h64_2 : Int) (h65 : List Int) (h66 : List Int) : impl_chunksOf.g rec k (td Try.f60 6) (impl_chunksOf.s6 x9 x10 x11 x20 x21 h64_0 h64_1 h64_2 h65 h66) =
  bif decide (x21 < x20) then bif decide (0 ≤ x21) then bif decide (x21 < (h66.length : Int)) then bif decide ((rd_T3 h66 x21) > 0) then bif decide (h65.length + ([(rd_T3 h66 x21)] : List Int).length ≤ 17592186044416) then rec (td Try.f60 6) (impl_chunksOf.s6 x9 x10 x11 x20 (w64 (x21 + 1)) h64_0 h64_1 h64_2 (h65 ++ ([(rd_T3 h66 x21)] : List Int)) h66) else none else rec (td Try.f60 6) (impl_chunksOf.s6 x9 x10 x11 x20 (w64 (x21 + 1)) h64_0 h64_1 h64_2 h65 h66) else none else none else rec (td Try.f60 3) (impl_chunksOf.s3 x9 x10 (w64 (x11 + 1)) h64_0 h64_1 h64_2 h65) := by kernel_rfl
set_option maxRecDepth 100000 in
theorem impl_chunksOf.te (rec : List Item → St Ty D → R) (k : Nat) (a0_0 : List S53) (a0_1 : List S88) (a0_2 : Int) : impl_chunksOf.g rec k [.code (body Try.f60)] (startSt [.ag [.row 0 .t53 a0_0, .row 0 .t88 a0_1, .sc (.int .i64 a0_2)]] []) =
  rec (td Try.f60 3) (impl_chunksOf.s3 a0_0 (a0_0.length : Int) 0 a0_0 a0_1 a0_2 ([] : List Int)) := by kernel_rfl
set_option maxRecDepth 100000 in
theorem impl_chunksOf.ok : ∀ k : Nat, (∀ (x9 : List S53) (x10 : Int) (x11 : Int) (h64_0 : List S53) (h64_1 : List S88) (h64_2 : Int) (h65 : List Int), goF Try.f60 impl_chunksOf.ctx impl_chunksOf.sp 0 impl_chunksOf.en k (td Try.f60 3) (impl_chunksOf.s3 x9 x10 x11 h64_0 h64_1 h64_2 h65) = (impl_chunksOf.c3 k x9 x10 x11 h64_0 h64_1 h64_2 h65).map impl_chunksOf.e) ∧ (∀ (x9 : List S53) (x10 : Int) (x11 : Int) (x20 : Int) (x21 : Int) (h64_0 : List S53) (h64_1 : List S88) (h64_2 : Int) (h65 : List Int) (h66 : List Int), goF Try.f60 impl_chunksOf.ctx impl_chunksOf.sp 0 impl_chunksOf.en k (td Try.f60 6) (impl_chunksOf.s6 x9 x10 x11 x20 x21 h64_0 h64_1 h64_2 h65 h66) = (impl_chunksOf.c6 k x9 x10 x11 x20 x21 h64_0 h64_1 h64_2 h65 h66).map impl_chunksOf.e)
  | 0 => ⟨fun _ _ _ _ _ _ _ => rfl, fun _ _ _ _ _ _ _ _ _ _ => rfl⟩
  | k + 1 => by
    have ih := impl_chunksOf.ok k
    obtain ⟨i3, i6⟩ := ih
    refine ⟨?_, ?_⟩
    · intro x9 x10 x11 h64_0 h64_1 h64_2 h65; rw [impl_chunksOf.c3]; exact (impl_chunksOf.t3 _ k x9 x10 x11 h64_0 h64_1 h64_2 h65).trans (cd (cd (cd (bn (fun t1 => (i6 _ _ _ _ _ _ _ _ _ _))) rfl) rfl) rfl)
    · intro x9 x10 x11 x20 x21 h64_0 h64_1 h64_2 h65 h66; rw [impl_chunksOf.c6]; exact (impl_chunksOf.t6 _ k x9 x10 x11 x20 x21 h64_0 h64_1 h64_2 h65 h66).trans (cd (cd (cd (cd (cd (i6 _ _ _ _ _ _ _ _ _ _) rfl) (i6 _ _ _ _ _ _ _ _ _ _)) rfl) rfl) (i3 _ _ _ _ _ _ _))
set_option maxRecDepth 100000 in
theorem impl_chunksOf.oke (k : Nat) (a0_0 : List S53) (a0_1 : List S88) (a0_2 : Int) : goF Try.f60 impl_chunksOf.ctx impl_chunksOf.sp 0 impl_chunksOf.en (k + 1) [.code (body Try.f60)] (startSt [.ag [.row 0 .t53 a0_0, .row 0 .t88 a0_1, .sc (.int .i64 a0_2)]] []) = (impl_chunksOf.f k a0_0 a0_1 a0_2).map impl_chunksOf.e := by
  obtain ⟨i3, i6⟩ := impl_chunksOf.ok k
  rw [impl_chunksOf.f]; exact (impl_chunksOf.te _ k a0_0 a0_1 a0_2).trans (i3 _ _ _ _ _ _ _)
theorem impl_chunksOf.con (k : Nat) (a0_0 : List S53) (a0_1 : List S88) (a0_2 : Int) (r) (h : impl_chunksOf.f k a0_0 a0_1 a0_2 = some r) : Contract Try.prog kit 60 [.ag [.row 0 .t53 a0_0, .row 0 .t88 a0_1, .sc (.int .i64 a0_2)]] [] (impl_chunksOf.e r).1 (impl_chunksOf.e r).2.1 (impl_chunksOf.e r).2.2 :=
  con_okG kitOk mix (fun k => (CtxOk.cons (impl_AllAt.xok k) CtxOk.nil)) (impl_chunksOf.oke k a0_0 a0_1 a0_2) h (by kernel_rfl) (by kernel_rfl) (by kernel_rfl) rfl (by kernel_rfl) rfl rfl
noncomputable def impl_chunksOf.x (k : Nat) : X := fun ins bs κ => match ins, bs with
  | [.ag [.row 0 .t53 a0_0, .row 0 .t88 a0_1, .sc (.int .i64 a0_2)]], [] => (impl_chunksOf.f k a0_0 a0_1 a0_2).bind fun r => κ (impl_chunksOf.e r).1 (impl_chunksOf.e r).2.1 (impl_chunksOf.e r).2.2
  | _, _ => none
theorem impl_chunksOf.xok (k : Nat) : XOk 60 (impl_chunksOf.x k) := by
  intro ins bs κ res h
  unfold impl_chunksOf.x at h
  split at h
  · obtain ⟨r, hr, h⟩ := Option.bind_eq_some_iff.1 h
    exact ⟨_, _, _, impl_chunksOf.con k _ _ _ r hr, h⟩
  · cases h

/-! ### impl_RefsOf: function 20 -/
noncomputable def impl_RefsOf.sp : Nat → Option (Spec Ty) := fun r => bif Nat.beq r 3 then some ⟨[(1, .keep), (5, .keep), (9, .own .t3), (10, .keep), (11, .keep)], []⟩ else none
noncomputable def impl_RefsOf.en : Option (Spec Ty) := none
noncomputable def impl_RefsOf.s3 (x1 : Int) (x5 : Int) (x10 : Int) (x11 : Int) (h64 : List Int) : St Ty D := ⟨(Env.put (Env.put (Env.put (Env.put (Env.put E (some 1) (.sc (.int .i64 x1))) (some 5) (.sc (.int .i64 x5))) (some 9) (.sl 64 none)) (some 10) (.sc (.int .i64 x10))) (some 11) (.sc (.int .i64 x11))), Heap.put H0 [(64, some (.rowb .t3 h64 0))], 1000⟩
noncomputable def impl_RefsOf.ctx (k : Nat) : Ctx Ty D := (cons 60 (impl_chunksOf.x k) (fun _ _ _ _ => none))
noncomputable def impl_RefsOf.c3 : Nat → Int → Int → Int → Int → (List Int) → Option (Int)
  | 0, _, _, _, _, _ => none
  | k + 1, x1, x5, x10, x11, h64 => (if x11 < x10 then (if 0 ≤ x11 then (if x11 < (h64.length : Int) then (if (rd_T3 h64 x11) = x1 then (impl_RefsOf.c3 k x1 (w64 (x5 + 1)) x10 (w64 (x11 + 1)) h64) else (impl_RefsOf.c3 k x1 x5 x10 (w64 (x11 + 1)) h64)) else none) else none) else (some (x5)))
noncomputable def impl_RefsOf.f (k : Nat) (a0_0 : List S53) (a0_1 : List S88) (a0_2 : Int) (a1 : Int) : Option (Int) := ((impl_chunksOf.f k a0_0 a0_1 a0_2).bind fun t1 => (impl_RefsOf.c3 k a1 0 (t1.length : Int) 0 t1))
noncomputable def impl_RefsOf.e (r : Int) : Res Ty D := (.sc (.int .i64 r), [], [])
noncomputable abbrev impl_RefsOf.g (rec : List Item → St Ty D → R) (k : Nat) := go1 Try.f20 (impl_RefsOf.ctx k) impl_RefsOf.sp 0 impl_RefsOf.en rec
set_option maxRecDepth 100000 in
theorem impl_RefsOf.t3 (rec : List Item → St Ty D → R) (k : Nat) (x1 : Int) (x5 : Int) (x10 : Int) (x11 : Int) (h64 : List Int) : impl_RefsOf.g rec k (td Try.f20 3) (impl_RefsOf.s3 x1 x5 x10 x11 h64) =
  bif decide (x11 < x10) then bif decide (0 ≤ x11) then bif decide (x11 < (h64.length : Int)) then bif decide ((rd_T3 h64 x11) = x1) then rec (td Try.f20 3) (impl_RefsOf.s3 x1 (w64 (x5 + 1)) x10 (w64 (x11 + 1)) h64) else rec (td Try.f20 3) (impl_RefsOf.s3 x1 x5 x10 (w64 (x11 + 1)) h64) else none else none else some (impl_RefsOf.e (x5)) := by kernel_rfl
set_option maxRecDepth 100000 in
theorem impl_RefsOf.te (rec : List Item → St Ty D → R) (k : Nat) (a0_0 : List S53) (a0_1 : List S88) (a0_2 : Int) (a1 : Int) : impl_RefsOf.g rec k [.code (body Try.f20)] (startSt [.ag [.row 0 .t53 a0_0, .row 0 .t88 a0_1, .sc (.int .i64 a0_2)], .sc (.int .i64 a1)] []) =
  (impl_chunksOf.f k a0_0 a0_1 a0_2).bind fun t1 => rec (td Try.f20 3) (impl_RefsOf.s3 a1 0 (t1.length : Int) 0 t1) := by kernel_rfl
set_option maxRecDepth 100000 in
theorem impl_RefsOf.ok : ∀ k : Nat, (∀ (x1 : Int) (x5 : Int) (x10 : Int) (x11 : Int) (h64 : List Int), goF Try.f20 impl_RefsOf.ctx impl_RefsOf.sp 0 impl_RefsOf.en k (td Try.f20 3) (impl_RefsOf.s3 x1 x5 x10 x11 h64) = (impl_RefsOf.c3 k x1 x5 x10 x11 h64).map impl_RefsOf.e)
  | 0 => fun _ _ _ _ _ => rfl
  | k + 1 => by
    have ih := impl_RefsOf.ok k
    have i3 := ih
    intro x1 x5 x10 x11 h64; rw [impl_RefsOf.c3]; exact (impl_RefsOf.t3 _ k x1 x5 x10 x11 h64).trans (cd (cd (cd (cd (i3 _ _ _ _ _) (i3 _ _ _ _ _)) rfl) rfl) rfl)
set_option maxRecDepth 100000 in
theorem impl_RefsOf.oke (k : Nat) (a0_0 : List S53) (a0_1 : List S88) (a0_2 : Int) (a1 : Int) : goF Try.f20 impl_RefsOf.ctx impl_RefsOf.sp 0 impl_RefsOf.en (k + 1) [.code (body Try.f20)] (startSt [.ag [.row 0 .t53 a0_0, .row 0 .t88 a0_1, .sc (.int .i64 a0_2)], .sc (.int .i64 a1)] []) = (impl_RefsOf.f k a0_0 a0_1 a0_2 a1).map impl_RefsOf.e := by
  have i3 := impl_RefsOf.ok k
  rw [impl_RefsOf.f]; exact (impl_RefsOf.te _ k a0_0 a0_1 a0_2 a1).trans (bn (fun t1 => (i3 _ _ _ _ _)))
theorem impl_RefsOf.con (k : Nat) (a0_0 : List S53) (a0_1 : List S88) (a0_2 : Int) (a1 : Int) (r) (h : impl_RefsOf.f k a0_0 a0_1 a0_2 a1 = some r) : Contract Try.prog kit 20 [.ag [.row 0 .t53 a0_0, .row 0 .t88 a0_1, .sc (.int .i64 a0_2)], .sc (.int .i64 a1)] [] (impl_RefsOf.e r).1 (impl_RefsOf.e r).2.1 (impl_RefsOf.e r).2.2 :=
  con_okG kitOk mix (fun k => (CtxOk.cons (impl_chunksOf.xok k) CtxOk.nil)) (impl_RefsOf.oke k a0_0 a0_1 a0_2 a1) h (by kernel_rfl) (by kernel_rfl) (by kernel_rfl) rfl (by kernel_rfl) rfl rfl
noncomputable def impl_RefsOf.x (k : Nat) : X := fun ins bs κ => match ins, bs with
  | [.ag [.row 0 .t53 a0_0, .row 0 .t88 a0_1, .sc (.int .i64 a0_2)], .sc (.int .i64 a1)], [] => (impl_RefsOf.f k a0_0 a0_1 a0_2 a1).bind fun r => κ (impl_RefsOf.e r).1 (impl_RefsOf.e r).2.1 (impl_RefsOf.e r).2.2
  | _, _ => none
theorem impl_RefsOf.xok (k : Nat) : XOk 20 (impl_RefsOf.x k) := by
  intro ins bs κ res h
  unfold impl_RefsOf.x at h
  split at h
  · obtain ⟨r, hr, h⟩ := Option.bind_eq_some_iff.1 h
    exact ⟨_, _, _, impl_RefsOf.con k _ _ _ _ r hr, h⟩
  · cases h

/-! ### impl_ChunkOf: function 22 -/
noncomputable def impl_ChunkOf.sp : Nat → Option (Spec Ty) := fun r => none
noncomputable def impl_ChunkOf.en : Option (Spec Ty) := none
noncomputable def impl_ChunkOf.ctx (k : Nat) : Ctx Ty D := (cons 63 (impl_volAt.x k) (cons 64 (impl_GetAt.x k) (fun _ _ _ _ => none)))
noncomputable def impl_ChunkOf.f (k : Nat) (a0_0 : List S53) (a0_1 : List S88) (a0_2 : Int) (a1 : Int) (a2 : Int) : Option (Int) := ((impl_volAt.f k a0_0 a0_1 a0_2 a1).bind fun t1 => (if t1 < 0 then (some (0)) else (if 0 ≤ t1 then (if t1 < (a0_0.length : Int) then ((impl_GetAt.f k a0_1 ((rd_T53 a0_0 t1).f1) a2).bind fun t2 => (some (t2))) else none) else none)))
noncomputable def impl_ChunkOf.e (r : Int) : Res Ty D := (.sc (.int .i64 r), [], [])
noncomputable abbrev impl_ChunkOf.g (rec : List Item → St Ty D → R) (k : Nat) := go1 Try.f22 (impl_ChunkOf.ctx k) impl_ChunkOf.sp 0 impl_ChunkOf.en rec
set_option maxRecDepth 100000 in
theorem impl_ChunkOf.te (rec : List Item → St Ty D → R) (k : Nat) (a0_0 : List S53) (a0_1 : List S88) (a0_2 : Int) (a1 : Int) (a2 : Int) : impl_ChunkOf.g rec k [.code (body Try.f22)] (startSt [.ag [.row 0 .t53 a0_0, .row 0 .t88 a0_1, .sc (.int .i64 a0_2)], .sc (.int .i64 a1), .sc (.int .i64 a2)] []) =
  (impl_volAt.f k a0_0 a0_1 a0_2 a1).bind fun t1 => bif decide (t1 < 0) then some (impl_ChunkOf.e (0)) else bif decide (0 ≤ t1) then bif decide (t1 < (a0_0.length : Int)) then (impl_GetAt.f k a0_1 ((rd_T53 a0_0 t1).f1) a2).bind fun t2 => some (impl_ChunkOf.e (t2)) else none else none := by kernel_rfl
set_option maxRecDepth 100000 in
theorem impl_ChunkOf.oke (k : Nat) (a0_0 : List S53) (a0_1 : List S88) (a0_2 : Int) (a1 : Int) (a2 : Int) : goF Try.f22 impl_ChunkOf.ctx impl_ChunkOf.sp 0 impl_ChunkOf.en (k + 1) [.code (body Try.f22)] (startSt [.ag [.row 0 .t53 a0_0, .row 0 .t88 a0_1, .sc (.int .i64 a0_2)], .sc (.int .i64 a1), .sc (.int .i64 a2)] []) = (impl_ChunkOf.f k a0_0 a0_1 a0_2 a1 a2).map impl_ChunkOf.e := by
  rw [impl_ChunkOf.f]; exact (impl_ChunkOf.te _ k a0_0 a0_1 a0_2 a1 a2).trans (bn (fun t1 => (cd rfl (cd (cd (bn (fun t2 => rfl)) rfl) rfl))))
theorem impl_ChunkOf.con (k : Nat) (a0_0 : List S53) (a0_1 : List S88) (a0_2 : Int) (a1 : Int) (a2 : Int) (r) (h : impl_ChunkOf.f k a0_0 a0_1 a0_2 a1 a2 = some r) : Contract Try.prog kit 22 [.ag [.row 0 .t53 a0_0, .row 0 .t88 a0_1, .sc (.int .i64 a0_2)], .sc (.int .i64 a1), .sc (.int .i64 a2)] [] (impl_ChunkOf.e r).1 (impl_ChunkOf.e r).2.1 (impl_ChunkOf.e r).2.2 :=
  con_okG kitOk mix (fun k => (CtxOk.cons (impl_volAt.xok k) (CtxOk.cons (impl_GetAt.xok k) CtxOk.nil))) (impl_ChunkOf.oke k a0_0 a0_1 a0_2 a1 a2) h (by kernel_rfl) (by kernel_rfl) (by kernel_rfl) rfl (by kernel_rfl) rfl rfl
noncomputable def impl_ChunkOf.x (k : Nat) : X := fun ins bs κ => match ins, bs with
  | [.ag [.row 0 .t53 a0_0, .row 0 .t88 a0_1, .sc (.int .i64 a0_2)], .sc (.int .i64 a1), .sc (.int .i64 a2)], [] => (impl_ChunkOf.f k a0_0 a0_1 a0_2 a1 a2).bind fun r => κ (impl_ChunkOf.e r).1 (impl_ChunkOf.e r).2.1 (impl_ChunkOf.e r).2.2
  | _, _ => none
theorem impl_ChunkOf.xok (k : Nat) : XOk 22 (impl_ChunkOf.x k) := by
  intro ins bs κ res h
  unfold impl_ChunkOf.x at h
  split at h
  · obtain ⟨r, hr, h⟩ := Option.bind_eq_some_iff.1 h
    exact ⟨_, _, _, impl_ChunkOf.con k _ _ _ _ _ r hr, h⟩
  · cases h

/-! ### spec_DrawPlaces: function 28 -/
noncomputable def spec_DrawPlaces.sp : Nat → Option (Spec Ty) := fun r => bif Nat.beq r 5 then some ⟨[(3, .box [.keep, .keep, .keep]), (4, .own .t3), (5, .keep)], []⟩ else none
noncomputable def spec_DrawPlaces.en : Option (Spec Ty) := some ⟨[(2, .own .t3)], []⟩
noncomputable def spec_DrawPlaces.s5 (x5 : Int) (h64_0 : List Int) (h64_1 : Int) (h64_2 : Int) (h65 : List Int) : St Ty D := ⟨(Env.put (Env.put (Env.put E (some 3) (.pt 64 0 0)) (some 4) (.sl 65 none)) (some 5) (.sc (.int .i64 x5))), Heap.put H0 [(64, some (.box [.row 0 .t5 h64_0, .sc (.int .i64 h64_1), .sc (.int .i64 h64_2)])), (65, some (.rowb .t3 h65 0))], 1000⟩
noncomputable def spec_DrawPlaces.ctx (k : Nat) : Ctx Ty D := (cons 55 (spec_l01New.x k) (cons 59 (spec_l01Below.x k) (cons 72 (spec_l01Byte.x k) (fun _ _ _ _ => none))))
noncomputable def spec_DrawPlaces.c5 : Nat → Int → (List Int) → Int → Int → (List Int) → Option ((List Int))
  | 0, _, _, _, _, _ => none
  | k + 1, x5, h64_0, h64_1, h64_2, h65 => (if x5 < 12 then ((spec_l01Below.f k 10000 h64_0 h64_1 h64_2).bind fun t3 => (if h65.length + ([t3.1] : List Int).length ≤ 17592186044416 then (spec_DrawPlaces.c5 k (w64 (x5 + 1)) t3.2.1 t3.2.2.1 t3.2.2.2 (h65 ++ ([t3.1] : List Int))) else none)) else (some (h65)))
noncomputable def spec_DrawPlaces.f (k : Nat) (a0 : List Int) : Option ((List Int)) := ((spec_l01New.f k a0).bind fun t1 => ((spec_l01Byte.f k t1.1 t1.2.1 t1.2.2).bind fun t2 => (spec_DrawPlaces.c5 k 0 t2.2.1 t2.2.2.1 t2.2.2.2 ([] : List Int))))
noncomputable def spec_DrawPlaces.e (r : (List Int)) : Res Ty D := (.sl 0 none, [], [.rowb .t3 r 0])
noncomputable abbrev spec_DrawPlaces.g (rec : List Item → St Ty D → R) (k : Nat) := go1 Try.f28 (spec_DrawPlaces.ctx k) spec_DrawPlaces.sp 0 spec_DrawPlaces.en rec
set_option maxRecDepth 100000 in
theorem spec_DrawPlaces.t5 (rec : List Item → St Ty D → R) (k : Nat) (x5 : Int) (h64_0 : List Int) (h64_1 : Int) (h64_2 : Int) (h65 : List Int) : spec_DrawPlaces.g rec k (td Try.f28 5) (spec_DrawPlaces.s5 x5 h64_0 h64_1 h64_2 h65) =
  bif decide (x5 < 12) then (spec_l01Below.f k 10000 h64_0 h64_1 h64_2).bind fun t3 => bif decide (h65.length + ([t3.1] : List Int).length ≤ 17592186044416) then rec (td Try.f28 5) (spec_DrawPlaces.s5 (w64 (x5 + 1)) t3.2.1 t3.2.2.1 t3.2.2.2 (h65 ++ ([t3.1] : List Int))) else none else some (spec_DrawPlaces.e (h65)) := by kernel_rfl
set_option maxRecDepth 100000 in
theorem spec_DrawPlaces.te (rec : List Item → St Ty D → R) (k : Nat) (a0 : List Int) : spec_DrawPlaces.g rec k [.code (body Try.f28)] (startSt [.row 0 .t5 a0] []) =
  (spec_l01New.f k a0).bind fun t1 => (spec_l01Byte.f k t1.1 t1.2.1 t1.2.2).bind fun t2 => rec (td Try.f28 5) (spec_DrawPlaces.s5 0 t2.2.1 t2.2.2.1 t2.2.2.2 ([] : List Int)) := by kernel_rfl
set_option maxRecDepth 100000 in
theorem spec_DrawPlaces.ok : ∀ k : Nat, (∀ (x5 : Int) (h64_0 : List Int) (h64_1 : Int) (h64_2 : Int) (h65 : List Int), goF Try.f28 spec_DrawPlaces.ctx spec_DrawPlaces.sp 0 spec_DrawPlaces.en k (td Try.f28 5) (spec_DrawPlaces.s5 x5 h64_0 h64_1 h64_2 h65) = (spec_DrawPlaces.c5 k x5 h64_0 h64_1 h64_2 h65).map spec_DrawPlaces.e)
  | 0 => fun _ _ _ _ _ => rfl
  | k + 1 => by
    have ih := spec_DrawPlaces.ok k
    have i5 := ih
    intro x5 h64_0 h64_1 h64_2 h65; rw [spec_DrawPlaces.c5]; exact (spec_DrawPlaces.t5 _ k x5 h64_0 h64_1 h64_2 h65).trans (cd (bn (fun t3 => (cd (i5 _ _ _ _ _) rfl))) rfl)
set_option maxRecDepth 100000 in
theorem spec_DrawPlaces.oke (k : Nat) (a0 : List Int) : goF Try.f28 spec_DrawPlaces.ctx spec_DrawPlaces.sp 0 spec_DrawPlaces.en (k + 1) [.code (body Try.f28)] (startSt [.row 0 .t5 a0] []) = (spec_DrawPlaces.f k a0).map spec_DrawPlaces.e := by
  have i5 := spec_DrawPlaces.ok k
  rw [spec_DrawPlaces.f]; exact (spec_DrawPlaces.te _ k a0).trans (bn (fun t1 => (bn (fun t2 => (i5 _ _ _ _ _)))))
theorem spec_DrawPlaces.con (k : Nat) (a0 : List Int) (r) (h : spec_DrawPlaces.f k a0 = some r) : Contract Try.prog kit 28 [.row 0 .t5 a0] [] (spec_DrawPlaces.e r).1 (spec_DrawPlaces.e r).2.1 (spec_DrawPlaces.e r).2.2 :=
  con_okG kitOk mix (fun k => (CtxOk.cons (spec_l01New.xok k) (CtxOk.cons (spec_l01Below.xok k) (CtxOk.cons (spec_l01Byte.xok k) CtxOk.nil)))) (spec_DrawPlaces.oke k a0) h (by kernel_rfl) (by kernel_rfl) (by kernel_rfl) rfl (by kernel_rfl) rfl rfl
noncomputable def spec_DrawPlaces.x (k : Nat) : X := fun ins bs κ => match ins, bs with
  | [.row 0 .t5 a0], [] => (spec_DrawPlaces.f k a0).bind fun r => κ (spec_DrawPlaces.e r).1 (spec_DrawPlaces.e r).2.1 (spec_DrawPlaces.e r).2.2
  | _, _ => none
theorem spec_DrawPlaces.xok (k : Nat) : XOk 28 (spec_DrawPlaces.x k) := by
  intro ins bs κ res h
  unfold spec_DrawPlaces.x at h
  split at h
  · obtain ⟨r, hr, h⟩ := Option.bind_eq_some_iff.1 h
    exact ⟨_, _, _, spec_DrawPlaces.con k _ r hr, h⟩
  · cases h

/-! ### spec_GetAt: function 73 -/
noncomputable def spec_GetAt.sp : Nat → Option (Spec Ty) := fun r => none
noncomputable def spec_GetAt.en : Option (Spec Ty) := none
noncomputable def spec_GetAt.ctx (k : Nat) : Ctx Ty D := (cons 75 (spec_ArenaOk.x k) (cons 76 (spec_l01In.x k) (cons 77 (spec_l11Root.x k) (cons 78 (spec_l11Get.x k) (fun _ _ _ _ => none)))))
noncomputable def spec_GetAt.f (k : Nat) (a0_0 : List S88) (a1 : Int) (a2 : Int) : Option (Int) := ((spec_ArenaOk.f k a0_0).bind fun t1 => (if t1 = true then ((spec_l11Root.f k a0_0 a1).bind fun t2 => (if t2 = true then ((spec_l01In.f k a2 0 15).bind fun t3 => (if t3 = true then ((spec_l11Get.f k a0_0 a1 a2).bind fun t4 => (some (t4))) else (some (0)))) else (some (0)))) else (some (0))))
noncomputable def spec_GetAt.e (r : Int) : Res Ty D := (.sc (.int .i64 r), [], [])
noncomputable abbrev spec_GetAt.g (rec : List Item → St Ty D → R) (k : Nat) := go1 Try.f73 (spec_GetAt.ctx k) spec_GetAt.sp 0 spec_GetAt.en rec
set_option maxRecDepth 100000 in
theorem spec_GetAt.te (rec : List Item → St Ty D → R) (k : Nat) (a0_0 : List S88) (a1 : Int) (a2 : Int) : spec_GetAt.g rec k [.code (body Try.f73)] (startSt [.ag [.row 0 .t88 a0_0], .sc (.int .i64 a1), .sc (.int .i64 a2)] []) =
  (spec_ArenaOk.f k a0_0).bind fun t1 => bif !t1 then some (spec_GetAt.e (0)) else (spec_l11Root.f k a0_0 a1).bind fun t2 => bif !t2 then some (spec_GetAt.e (0)) else (spec_l01In.f k a2 0 15).bind fun t3 => bif !t3 then some (spec_GetAt.e (0)) else (spec_l11Get.f k a0_0 a1 a2).bind fun t4 => some (spec_GetAt.e (t4)) := by kernel_rfl
set_option maxRecDepth 100000 in
theorem spec_GetAt.oke (k : Nat) (a0_0 : List S88) (a1 : Int) (a2 : Int) : goF Try.f73 spec_GetAt.ctx spec_GetAt.sp 0 spec_GetAt.en (k + 1) [.code (body Try.f73)] (startSt [.ag [.row 0 .t88 a0_0], .sc (.int .i64 a1), .sc (.int .i64 a2)] []) = (spec_GetAt.f k a0_0 a1 a2).map spec_GetAt.e := by
  rw [spec_GetAt.f]; exact (spec_GetAt.te _ k a0_0 a1 a2).trans (bn (fun t1 => (nb rfl (bn (fun t2 => (nb rfl (bn (fun t3 => (nb rfl (bn (fun t4 => rfl)))))))))))
theorem spec_GetAt.con (k : Nat) (a0_0 : List S88) (a1 : Int) (a2 : Int) (r) (h : spec_GetAt.f k a0_0 a1 a2 = some r) : Contract Try.prog kit 73 [.ag [.row 0 .t88 a0_0], .sc (.int .i64 a1), .sc (.int .i64 a2)] [] (spec_GetAt.e r).1 (spec_GetAt.e r).2.1 (spec_GetAt.e r).2.2 :=
  con_okG kitOk mix (fun k => (CtxOk.cons (spec_ArenaOk.xok k) (CtxOk.cons (spec_l01In.xok k) (CtxOk.cons (spec_l11Root.xok k) (CtxOk.cons (spec_l11Get.xok k) CtxOk.nil))))) (spec_GetAt.oke k a0_0 a1 a2) h (by kernel_rfl) (by kernel_rfl) (by kernel_rfl) rfl (by kernel_rfl) rfl rfl
noncomputable def spec_GetAt.x (k : Nat) : X := fun ins bs κ => match ins, bs with
  | [.ag [.row 0 .t88 a0_0], .sc (.int .i64 a1), .sc (.int .i64 a2)], [] => (spec_GetAt.f k a0_0 a1 a2).bind fun r => κ (spec_GetAt.e r).1 (spec_GetAt.e r).2.1 (spec_GetAt.e r).2.2
  | _, _ => none
theorem spec_GetAt.xok (k : Nat) : XOk 73 (spec_GetAt.x k) := by
  intro ins bs κ res h
  unfold spec_GetAt.x at h
  split at h
  · obtain ⟨r, hr, h⟩ := Option.bind_eq_some_iff.1 h
    exact ⟨_, _, _, spec_GetAt.con k _ _ _ r hr, h⟩
  · cases h

/-! ### spec_ChunkOf: function 29 -/
noncomputable def spec_ChunkOf.sp : Nat → Option (Spec Ty) := fun r => none
noncomputable def spec_ChunkOf.en : Option (Spec Ty) := none
noncomputable def spec_ChunkOf.ctx (k : Nat) : Ctx Ty D := (cons 40 (spec_l12At.x k) (cons 73 (spec_GetAt.x k) (fun _ _ _ _ => none)))
noncomputable def spec_ChunkOf.f (k : Nat) (a0_0 : List S53) (a0_1 : List S88) (a0_2 : Int) (a1 : Int) (a2 : Int) : Option (Int) := ((spec_l12At.f k a0_0 a0_1 a0_2 a1).bind fun t1 => (if t1 < 0 then (some (0)) else (if 0 ≤ t1 then (if t1 < (a0_0.length : Int) then ((spec_GetAt.f k a0_1 ((rd_T53 a0_0 t1).f1) a2).bind fun t2 => (some (t2))) else none) else none)))
noncomputable def spec_ChunkOf.e (r : Int) : Res Ty D := (.sc (.int .i64 r), [], [])
noncomputable abbrev spec_ChunkOf.g (rec : List Item → St Ty D → R) (k : Nat) := go1 Try.f29 (spec_ChunkOf.ctx k) spec_ChunkOf.sp 0 spec_ChunkOf.en rec
set_option maxRecDepth 100000 in
theorem spec_ChunkOf.te (rec : List Item → St Ty D → R) (k : Nat) (a0_0 : List S53) (a0_1 : List S88) (a0_2 : Int) (a1 : Int) (a2 : Int) : spec_ChunkOf.g rec k [.code (body Try.f29)] (startSt [.ag [.row 0 .t53 a0_0, .row 0 .t88 a0_1, .sc (.int .i64 a0_2)], .sc (.int .i64 a1), .sc (.int .i64 a2)] []) =
  (spec_l12At.f k a0_0 a0_1 a0_2 a1).bind fun t1 => bif decide (t1 < 0) then some (spec_ChunkOf.e (0)) else bif decide (0 ≤ t1) then bif decide (t1 < (a0_0.length : Int)) then (spec_GetAt.f k a0_1 ((rd_T53 a0_0 t1).f1) a2).bind fun t2 => some (spec_ChunkOf.e (t2)) else none else none := by kernel_rfl
set_option maxRecDepth 100000 in
theorem spec_ChunkOf.oke (k : Nat) (a0_0 : List S53) (a0_1 : List S88) (a0_2 : Int) (a1 : Int) (a2 : Int) : goF Try.f29 spec_ChunkOf.ctx spec_ChunkOf.sp 0 spec_ChunkOf.en (k + 1) [.code (body Try.f29)] (startSt [.ag [.row 0 .t53 a0_0, .row 0 .t88 a0_1, .sc (.int .i64 a0_2)], .sc (.int .i64 a1), .sc (.int .i64 a2)] []) = (spec_ChunkOf.f k a0_0 a0_1 a0_2 a1 a2).map spec_ChunkOf.e := by
  rw [spec_ChunkOf.f]; exact (spec_ChunkOf.te _ k a0_0 a0_1 a0_2 a1 a2).trans (bn (fun t1 => (cd rfl (cd (cd (bn (fun t2 => rfl)) rfl) rfl))))
theorem spec_ChunkOf.con (k : Nat) (a0_0 : List S53) (a0_1 : List S88) (a0_2 : Int) (a1 : Int) (a2 : Int) (r) (h : spec_ChunkOf.f k a0_0 a0_1 a0_2 a1 a2 = some r) : Contract Try.prog kit 29 [.ag [.row 0 .t53 a0_0, .row 0 .t88 a0_1, .sc (.int .i64 a0_2)], .sc (.int .i64 a1), .sc (.int .i64 a2)] [] (spec_ChunkOf.e r).1 (spec_ChunkOf.e r).2.1 (spec_ChunkOf.e r).2.2 :=
  con_okG kitOk mix (fun k => (CtxOk.cons (spec_l12At.xok k) (CtxOk.cons (spec_GetAt.xok k) CtxOk.nil))) (spec_ChunkOf.oke k a0_0 a0_1 a0_2 a1 a2) h (by kernel_rfl) (by kernel_rfl) (by kernel_rfl) rfl (by kernel_rfl) rfl rfl
noncomputable def spec_ChunkOf.x (k : Nat) : X := fun ins bs κ => match ins, bs with
  | [.ag [.row 0 .t53 a0_0, .row 0 .t88 a0_1, .sc (.int .i64 a0_2)], .sc (.int .i64 a1), .sc (.int .i64 a2)], [] => (spec_ChunkOf.f k a0_0 a0_1 a0_2 a1 a2).bind fun r => κ (spec_ChunkOf.e r).1 (spec_ChunkOf.e r).2.1 (spec_ChunkOf.e r).2.2
  | _, _ => none
theorem spec_ChunkOf.xok (k : Nat) : XOk 29 (spec_ChunkOf.x k) := by
  intro ins bs κ res h
  unfold spec_ChunkOf.x at h
  split at h
  · obtain ⟨r, hr, h⟩ := Option.bind_eq_some_iff.1 h
    exact ⟨_, _, _, spec_ChunkOf.con k _ _ _ _ _ r hr, h⟩
  · cases h

/-! ### laws_FnClones: function 7 -/
noncomputable def laws_FnClones.sp : Nat → Option (Spec Ty) := fun r => bif Nat.beq r 13 then some ⟨[(3, .box [.own .t53, .own .t88, .keep]), (5, .own .t3), (6, .keep), (7, .box [.own .t53, .own .t88, .keep]), (9, .box [.own .t53, .own .t88, .keep]), (11, .keep)], []⟩ else none
noncomputable def laws_FnClones.en : Option (Spec Ty) := none
noncomputable def laws_FnClones.s13 (x6 : Int) (x11 : Int) (h65 : List S53) (h66 : List S88) (h64_2 : Int) (h67 : List Int) (h69 : List S53) (h70 : List S88) (h68_2 : Int) (h72 : List S53) (h73 : List S88) (h71_2 : Int) : St Ty D := ⟨(Env.put (Env.put (Env.put (Env.put (Env.put (Env.put E (some 3) (.pt 64 0 0)) (some 5) (.sl 67 none)) (some 6) (.sc (.int .i64 x6))) (some 7) (.pt 68 0 0)) (some 9) (.pt 71 0 0)) (some 11) (.sc (.int .i64 x11))), Heap.put H0 [(65, some (.rowb .t53 h65 0)), (66, some (.rowb .t88 h66 0)), (64, some (.box [.sl 65 none, .sl 66 none, .sc (.int .i64 h64_2)])), (67, some (.rowb .t3 h67 0)), (69, some (.rowb .t53 h69 0)), (70, some (.rowb .t88 h70 0)), (68, some (.box [.sl 69 none, .sl 70 none, .sc (.int .i64 h68_2)])), (72, some (.rowb .t53 h72 0)), (73, some (.rowb .t88 h73 0)), (71, some (.box [.sl 72 none, .sl 73 none, .sc (.int .i64 h71_2)]))], 1000⟩
noncomputable def laws_FnClones.ctx (k : Nat) : Ctx Ty D := (cons 13 (impl_Enter.x k) (cons 17 (laws_big.x k) (cons 18 (spec_DrawStoreRec.x k) (cons 20 (impl_RefsOf.x k) (cons 22 (impl_ChunkOf.x k) (cons 26 (impl_StoreOk.x k) (cons 28 (spec_DrawPlaces.x k) (cons 29 (spec_ChunkOf.x k) (fun _ _ _ _ => none)))))))))
noncomputable def laws_FnClones.c13 : Nat → Int → Int → (List S53) → (List S88) → Int → (List Int) → (List S53) → (List S88) → Int → (List S53) → (List S88) → Int → Option (Bool)
  | 0, _, _, _, _, _, _, _, _, _, _, _, _ => none
  | k + 1, x6, x11, h65, h66, h64_2, h67, h69, h70, h68_2, h72, h73, h71_2 => (if x11 < 16 then ((spec_ChunkOf.f k h65 h66 h64_2 x6 x11).bind fun t8 => ((impl_ChunkOf.f k h69 h70 h68_2 9 x11).bind fun t9 => (if t9 = t8 then ((impl_ChunkOf.f k h72 h73 h71_2 9 x11).bind fun t10 => (if t10 = t8 then (if 1 < (h67.length : Int) then (if x11 = (Int.tmod (rd_T3 h67 1) 16) then (laws_FnClones.c13 k x6 (w64 (x11 + 1)) h65 h66 h64_2 h67 h69 h70 h68_2 h72 h73 h71_2) else ((impl_ChunkOf.f k h72 h73 h71_2 x6 x11).bind fun t11 => (if t11 = t8 then (laws_FnClones.c13 k x6 (w64 (x11 + 1)) h65 h66 h64_2 h67 h69 h70 h68_2 h72 h73 h71_2) else (some (false))))) else none) else (some (false)))) else (some (false))))) else ((impl_RefsOf.f k h72 h73 h71_2 h64_2).bind fun t12 => (if t12 = 1 then (some ((decide ((h73.length : Int) ≤ (w64 ((h66.length : Int) + 2)))))) else (some (false)))))
noncomputable def laws_FnClones.f (k : Nat) (a0 : List Int) : Option (Bool) := ((laws_big.f k a0).bind fun t1 => (if t1 = true then (some (true)) else ((spec_DrawStoreRec.f k a0).bind fun t2 => ((spec_DrawPlaces.f k a0).bind fun t3 => (if (t2.1.length : Int) = 0 then ((impl_StoreOk.f k t2.1 t2.2.1 t2.2.2.1).bind fun t4 => (some (t4))) else (if (t2.1.length : Int) = 3 then ((impl_StoreOk.f k t2.1 t2.2.1 t2.2.2.1).bind fun t5 => (some (t5))) else (if 0 < (t3.length : Int) then (if (t2.1.length : Int) = 0 then none else (if 0 ≤ (Int.tmod (rd_T3 t3 0) (t2.1.length : Int)) then (if (Int.tmod (rd_T3 t3 0) (t2.1.length : Int)) < (t2.1.length : Int) then ((impl_Enter.f k t2.1 t2.2.1 t2.2.2.1 2 9 ((rd_T53 t2.1 (Int.tmod (rd_T3 t3 0) (t2.1.length : Int))).f0) 0).bind fun t6 => (if 1 < (t3.length : Int) then ((impl_Enter.f k t6.1 t6.2.1 t6.2.2.1 4 ((rd_T53 t2.1 (Int.tmod (rd_T3 t3 0) (t2.1.length : Int))).f0) (Int.tmod (rd_T3 t3 1) 16) t2.2.2.1).bind fun t7 => (if t6.2.2.2 = true then (if t7.2.2.2 = true then (if (t6.2.1.length : Int) = (t2.2.1.length : Int) then (laws_FnClones.c13 k ((rd_T53 t2.1 (Int.tmod (rd_T3 t3 0) (t2.1.length : Int))).f0) 0 t2.1 t2.2.1 t2.2.2.1 t3 t6.1 t6.2.1 t6.2.2.1 t7.1 t7.2.1 t7.2.2.1) else (some (false))) else (some (false))) else (some (false)))) else none)) else none) else none)) else none)))))))
noncomputable def laws_FnClones.e (r : Bool) : Res Ty D := (.sc (.bool r), [], [])
noncomputable abbrev laws_FnClones.g (rec : List Item → St Ty D → R) (k : Nat) := go1 Try.f7 (laws_FnClones.ctx k) laws_FnClones.sp 0 laws_FnClones.en rec
set_option maxRecDepth 100000 in
theorem laws_FnClones.t13 (rec : List Item → St Ty D → R) (k : Nat) (x6 : Int) (x11 : Int) (h65 : List S53) (h66 : List S88) (h64_2 : Int) (h67 : List Int) (h69 : List S53) (h70 : List S88) (h68_2 : Int) (h72 : List S53) (h73 : List S88) (h71_2 : Int) : laws_FnClones.g rec k (td Try.f7 13) (laws_FnClones.s13 x6 x11 h65 h66 h64_2 h67 h69 h70 h68_2 h72 h73 h71_2) =
  bif decide (x11 < 16) then (spec_ChunkOf.f k h65 h66 h64_2 x6 x11).bind fun t8 => (impl_ChunkOf.f k h69 h70 h68_2 9 x11).bind fun t9 => bif !decide (t9 = t8) then some (laws_FnClones.e (false)) else (impl_ChunkOf.f k h72 h73 h71_2 9 x11).bind fun t10 => bif !decide (t10 = t8) then some (laws_FnClones.e (false)) else bif decide (1 < (h67.length : Int)) then bif !decide (x11 = (Int.tmod (rd_T3 h67 1) 16)) then (impl_ChunkOf.f k h72 h73 h71_2 x6 x11).bind fun t11 => bif !decide (t11 = t8) then some (laws_FnClones.e (false)) else rec (td Try.f7 13) (laws_FnClones.s13 x6 (w64 (x11 + 1)) h65 h66 h64_2 h67 h69 h70 h68_2 h72 h73 h71_2) else rec (td Try.f7 13) (laws_FnClones.s13 x6 (w64 (x11 + 1)) h65 h66 h64_2 h67 h69 h70 h68_2 h72 h73 h71_2) else none else (impl_RefsOf.f k h72 h73 h71_2 h64_2).bind fun t12 => bif decide (t12 = 1) then some (laws_FnClones.e ((decide ((h73.length : Int) ≤ (w64 ((h66.length : Int) + 2)))))) else some (laws_FnClones.e (false)) := by kernel_rfl
set_option maxRecDepth 100000 in
theorem laws_FnClones.te (rec : List Item → St Ty D → R) (k : Nat) (a0 : List Int) : laws_FnClones.g rec k [.code (body Try.f7)] (startSt [.row 0 .t5 a0] []) =
  (laws_big.f k a0).bind fun t1 => bif t1 then some (laws_FnClones.e (true)) else (spec_DrawStoreRec.f k a0).bind fun t2 => (spec_DrawPlaces.f k a0).bind fun t3 => bif decide ((t2.1.length : Int) = 0) then (impl_StoreOk.f k t2.1 t2.2.1 t2.2.2.1).bind fun t4 => some (laws_FnClones.e (t4)) else bif decide ((t2.1.length : Int) = 3) then (impl_StoreOk.f k t2.1 t2.2.1 t2.2.2.1).bind fun t5 => some (laws_FnClones.e (t5)) else bif decide (0 < (t3.length : Int)) then bif !decide ((t2.1.length : Int) = 0) then bif decide (0 ≤ (Int.tmod (rd_T3 t3 0) (t2.1.length : Int))) then bif decide ((Int.tmod (rd_T3 t3 0) (t2.1.length : Int)) < (t2.1.length : Int)) then (impl_Enter.f k t2.1 t2.2.1 t2.2.2.1 2 9 ((rd_T53 t2.1 (Int.tmod (rd_T3 t3 0) (t2.1.length : Int))).f0) 0).bind fun t6 => bif decide (1 < (t3.length : Int)) then (impl_Enter.f k t6.1 t6.2.1 t6.2.2.1 4 ((rd_T53 t2.1 (Int.tmod (rd_T3 t3 0) (t2.1.length : Int))).f0) (Int.tmod (rd_T3 t3 1) 16) t2.2.2.1).bind fun t7 => bif !t6.2.2.2 then some (laws_FnClones.e (false)) else bif !t7.2.2.2 then some (laws_FnClones.e (false)) else bif !decide ((t6.2.1.length : Int) = (t2.2.1.length : Int)) then some (laws_FnClones.e (false)) else rec (td Try.f7 13) (laws_FnClones.s13 ((rd_T53 t2.1 (Int.tmod (rd_T3 t3 0) (t2.1.length : Int))).f0) 0 t2.1 t2.2.1 t2.2.2.1 t3 t6.1 t6.2.1 t6.2.2.1 t7.1 t7.2.1 t7.2.2.1) else none else none else none else none else none := by kernel_rfl
set_option maxRecDepth 100000 in
theorem laws_FnClones.ok : ∀ k : Nat, (∀ (x6 : Int) (x11 : Int) (h65 : List S53) (h66 : List S88) (h64_2 : Int) (h67 : List Int) (h69 : List S53) (h70 : List S88) (h68_2 : Int) (h72 : List S53) (h73 : List S88) (h71_2 : Int), goF Try.f7 laws_FnClones.ctx laws_FnClones.sp 0 laws_FnClones.en k (td Try.f7 13) (laws_FnClones.s13 x6 x11 h65 h66 h64_2 h67 h69 h70 h68_2 h72 h73 h71_2) = (laws_FnClones.c13 k x6 x11 h65 h66 h64_2 h67 h69 h70 h68_2 h72 h73 h71_2).map laws_FnClones.e)
  | 0 => fun _ _ _ _ _ _ _ _ _ _ _ _ => rfl
  | k + 1 => by
    have ih := laws_FnClones.ok k
    have i13 := ih
    intro x6 x11 h65 h66 h64_2 h67 h69 h70 h68_2 h72 h73 h71_2; rw [laws_FnClones.c13]; exact (laws_FnClones.t13 _ k x6 x11 h65 h66 h64_2 h67 h69 h70 h68_2 h72 h73 h71_2).trans (cd (bn (fun t8 => (bn (fun t9 => (nd rfl (bn (fun t10 => (nd rfl (cd (nd (bn (fun t11 => (nd rfl (i13 _ _ _ _ _ _ _ _ _ _ _ _)))) (i13 _ _ _ _ _ _ _ _ _ _ _ _)) rfl))))))))) (bn (fun t12 => (cd rfl rfl))))
set_option maxRecDepth 100000 in
theorem laws_FnClones.oke (k : Nat) (a0 : List Int) : goF Try.f7 laws_FnClones.ctx laws_FnClones.sp 0 laws_FnClones.en (k + 1) [.code (body Try.f7)] (startSt [.row 0 .t5 a0] []) = (laws_FnClones.f k a0).map laws_FnClones.e := by
  have i13 := laws_FnClones.ok k
  rw [laws_FnClones.f]; exact (laws_FnClones.te _ k a0).trans (bn (fun t1 => (cb rfl (bn (fun t2 => (bn (fun t3 => (cd (bn (fun t4 => rfl)) (cd (bn (fun t5 => rfl)) (cd (nd (cd (cd (bn (fun t6 => (cd (bn (fun t7 => (nb rfl (nb rfl (nd rfl (i13 _ _ _ _ _ _ _ _ _ _ _ _)))))) rfl))) rfl) rfl) rfl) rfl))))))))))
theorem laws_FnClones.con (k : Nat) (a0 : List Int) (r) (h : laws_FnClones.f k a0 = some r) : Contract Try.prog kit 7 [.row 0 .t5 a0] [] (laws_FnClones.e r).1 (laws_FnClones.e r).2.1 (laws_FnClones.e r).2.2 :=
  con_okG kitOk mix (fun k => (CtxOk.cons (impl_Enter.xok k) (CtxOk.cons (laws_big.xok k) (CtxOk.cons (spec_DrawStoreRec.xok k) (CtxOk.cons (impl_RefsOf.xok k) (CtxOk.cons (impl_ChunkOf.xok k) (CtxOk.cons (impl_StoreOk.xok k) (CtxOk.cons (spec_DrawPlaces.xok k) (CtxOk.cons (spec_ChunkOf.xok k) CtxOk.nil))))))))) (laws_FnClones.oke k a0) h (by kernel_rfl) (by kernel_rfl) (by kernel_rfl) rfl (by kernel_rfl) rfl rfl
noncomputable def laws_FnClones.x (k : Nat) : X := fun ins bs κ => match ins, bs with
  | [.row 0 .t5 a0], [] => (laws_FnClones.f k a0).bind fun r => κ (laws_FnClones.e r).1 (laws_FnClones.e r).2.1 (laws_FnClones.e r).2.2
  | _, _ => none
theorem laws_FnClones.xok (k : Nat) : XOk 7 (laws_FnClones.x k) := by
  intro ins bs κ res h
  unfold laws_FnClones.x at h
  split at h
  · obtain ⟨r, hr, h⟩ := Option.bind_eq_some_iff.1 h
    exact ⟨_, _, _, laws_FnClones.con k _ r hr, h⟩
  · cases h
end Go.Proofs.Yteideicglgpfiaa.M2

/- The print's plain functions. -/
namespace Go.Proofs.Yteideicglgpfiaa.PK
open Go Go.RowKit Go.Proofs.YteideicglgpfiaaW.PrintWords Go.Proofs.YteideicglgpfiaaW.PrintLast Go.Proofs.YteideicglgpfiaaW.PrintMore
set_option linter.unusedVariables false

def laws_big.f (l0 : List Int) : Option (Bool) := some (decide ((l0.length : Int) > 1048576))
def spec_l01Byte.f (s0_0 : List Int) (s0_1 : Int) (s0_2 : Int) : Option (Int × Int × Int) := if s0_1 < (s0_0.length : Int) then (if 0 ≤ s0_1 then (some (Go.bits .and .i64 (wrap64 ((Go.bits .and .i64 (Go.bits .xor .i64 ((wrap64 ((wrap64 (s0_2 * 6364136223846793005)) + 1442695040888963407)) / 8589934592) ((wrap64 ((wrap64 (s0_2 * 6364136223846793005)) + 1442695040888963407)) / 35184372088832)) 255) + (wrap64 (rd s0_0 s0_1)))) 255, wrap64 (s0_1 + 1), wrap64 ((wrap64 (s0_2 * 6364136223846793005)) + 1442695040888963407))) else (none)) else (some (Go.bits .and .i64 (Go.bits .xor .i64 ((wrap64 ((wrap64 (s0_2 * 6364136223846793005)) + 1442695040888963407)) / 8589934592) ((wrap64 ((wrap64 (s0_2 * 6364136223846793005)) + 1442695040888963407)) / 35184372088832)) 255, s0_1, wrap64 ((wrap64 (s0_2 * 6364136223846793005)) + 1442695040888963407)))
def spec_l01Below.f (s0_0 : List Int) (s0_1 : Int) (s0_2 : Int) (a1 : Int) : Option (Int × Int × Int) := if a1 ≤ 0 then (some (0, s0_1, s0_2)) else (if a1 ≤ 256 then ((spec_l01Byte.f s0_0 s0_1 s0_2).bind fun bt799 => (if a1 = 0 then (none) else (some (Int.tmod bt799.1 a1, bt799.2.1, bt799.2.2)))) else ((spec_l01Byte.f s0_0 s0_1 s0_2).bind fun bt802 => ((spec_l01Byte.f s0_0 bt802.2.1 bt802.2.2).bind fun bt805 => ((spec_l01Byte.f s0_0 bt805.2.1 bt805.2.2).bind fun bt808 => ((spec_l01Byte.f s0_0 bt808.2.1 bt808.2.2).bind fun bt811 => (if a1 = 0 then (none) else (some (Int.tmod (wrap64 ((wrap64 ((wrap64 ((wrap64 (bt802.1 * 16777216)) + (wrap64 (bt805.1 * 65536)))) + (wrap64 (bt808.1 * 256)))) + bt811.1)) a1, bt811.2.1, bt811.2.2))))))))
def spec_l01Once.f (s0_0 : List Int) (s0_1 : Int) (s0_2 : Int) (a1 : Int) : Option (Bool × Int × Int) := (spec_l01Below.f s0_0 s0_1 s0_2 a1).bind fun bt844 => (some ((bt844.1 == 0), bt844.2.1, bt844.2.2))
def spec_l01New.l0 : Nat → List Int → Int → Int → Option (List Int × Int × Int)
  | 0, _, _, _ => none
  | k + 1, x0, x3, x4 => if x4 < (x0.length : Int) then (if x4 < 4000 then (if 0 ≤ x4 then (spec_l01New.l0 k x0 (Go.bits .and .i64 (wrap64 ((wrap64 ((wrap64 (x3 * 131)) + (wrap64 (rd x0 x4)))) + 7)) 1073741823) (wrap64 (x4 + 1))) else (none)) else (some (x0, 0, x3))) else (some (x0, 0, x3))
def spec_l01New.f (k : Nat) (l0 : List Int) : Option (List Int × Int × Int) := spec_l01New.l0 k l0 (wrap64 (36501 + (l0.length : Int))) 0
def spec_l01In.f (a0 : Int) (a1 : Int) (a2 : Int) : Option (Bool) := if a0 ≥ a1 then (some (decide (a0 ≤ a2))) else (some false)
mutual
def spec_ArenaOk.l0 : Nat → Int → List (S88) → Option (Bool)
  | 0, _, _ => none
  | k + 1, x3, x111000 => if x3 < (x111000.length : Int) then (if 0 ≤ x3 then (if (((rd_T88 x111000 x3).f1).length : Int) = 4 then (spec_ArenaOk.l1 k x3 0 x111000 ((rd_T88 x111000 x3).f0) ((rd_T88 x111000 x3).f1)) else (some false)) else (none)) else (some true)
def spec_ArenaOk.l1 : Nat → Int → Int → List (S88) → Bool → List Int → Option (Bool)
  | 0, _, _, _, _, _ => none
  | k + 1, x3, x5, x111000, x113000, x113001 => if x5 < 4 then (if 0 ≤ x5 then (if x5 < (x113001.length : Int) then (if x113000 = true then (if (rd x113001 x5) < 0 then (some false) else (spec_ArenaOk.l1 k x3 (wrap64 (x5 + 1)) x111000 x113000 x113001)) else (if (rd x113001 x5) = (-1) then (spec_ArenaOk.l1 k x3 (wrap64 (x5 + 1)) x111000 x113000 x113001) else ((spec_l01In.f (rd x113001 x5) 0 (wrap64 (x3 - 1))).bind fun t114 => (if t114 = true then (if 0 ≤ (rd x113001 x5) then (if (rd x113001 x5) < (x111000.length : Int) then (if ((rd_T88 x111000 (rd x113001 x5)).f0 = true) then (spec_ArenaOk.l1 k x3 (wrap64 (x5 + 1)) x111000 x113000 x113001) else (some false)) else (none)) else (none)) else (some false))))) else (none)) else (none)) else (spec_ArenaOk.l0 k (wrap64 (x3 + 1)) x111000)
end
def spec_ArenaOk.f (k : Nat) (l0_0 : List (S88)) : Option (Bool) := spec_ArenaOk.l0 k 0 l0_0
def spec_RecOk.j0 : Nat → Bool → Int → Int → Int → Int → Option (Bool)
  | 0, _, _, _, _, _ => none
  | k + 1, x37, x228000, x228001, x228002, x228003 => if x37 = true then (some false) else (if x228000 = 2 then (some (decide (x228002 ≤ 9))) else (if x228000 = 3 then (some (x228002 == 0)) else (if x228000 = 4 then (if x228002 < 16 then ((spec_l01In.f x228003 1 1000000000).bind fun t231 => (some t231)) else (some false)) else (some (decide (x228002 < 16))))))
def spec_RecOk.f (k : Nat) (a0_0 : Int) (a0_1 : Int) (a0_2 : Int) (a0_3 : Int) : Option (Bool) := (spec_l01In.f a0_2 0 1000000000).bind fun t228 => (if t228 = true then (if a0_0 = 1 then (if a0_1 = 0 then (some (a0_3 == 0)) else (some false)) else ((spec_l01In.f a0_0 2 5).bind fun t229 => (if t229 = true then ((spec_l01In.f a0_1 1 9).bind fun t230 => (if t230 = true then (if a0_0 = 4 then (spec_RecOk.j0 k false a0_0 a0_1 a0_2 a0_3) else (spec_RecOk.j0 k (a0_3 != 0) a0_0 a0_1 a0_2 a0_3)) else (spec_RecOk.j0 k true a0_0 a0_1 a0_2 a0_3))) else (spec_RecOk.j0 k true a0_0 a0_1 a0_2 a0_3)))) else (some false))
def spec_l11Copy.l0 : Nat → Int → List (S88) → List (S88) → Option ((List (S88)))
  | 0, _, _, _ => none
  | k + 1, x4, x125000, x127000 => if x4 < (x125000.length : Int) then (if 0 ≤ x4 then ((some (([] : List Int) : List Int)).bind fun y128 => (if y128.length + ((rd_T88 x125000 x4).f1).length < 17592186044416 then (if x127000.length < 4398046511104 then (spec_l11Copy.l0 k (wrap64 (x4 + 1)) x125000 (x127000 ++ [(⟨(rd_T88 x125000 x4).f0, (y128 ++ ((rd_T88 x125000 x4).f1))⟩ : S88)])) else (none)) else (none))) else (none)) else (some x127000)
def spec_l11Copy.f (k : Nat) (l0_0 : List (S88)) : Option ((List (S88))) := spec_l11Copy.l0 k 0 l0_0 ([] : List (S88))
def spec_l11Root.f (l0_0 : List (S88)) (a1 : Int) : Option (Bool) := if a1 = (-1) then (some true) else ((spec_l01In.f a1 0 (wrap64 ((l0_0.length : Int) - 1))).bind fun t117 => (if t117 = true then (if 0 ≤ a1 then (if a1 < (l0_0.length : Int) then (some (!((rd_T88 l0_0 a1).f0))) else (none)) else (none)) else (some false)))
def spec_l11Get.f (l0_0 : List (S88)) (a1 : Int) (a2 : Int) : Option (Int) := if a1 < 0 then (some 0) else (if 0 ≤ a1 then (if a1 < (l0_0.length : Int) then (if 0 ≤ (wrap64 (Int.tdiv a2 4)) then (if (wrap64 (Int.tdiv a2 4)) < (((rd_T88 l0_0 a1).f1).length : Int) then (if (rd ((rd_T88 l0_0 a1).f1) (wrap64 (Int.tdiv a2 4))) < 0 then (some 0) else (if 0 ≤ (rd ((rd_T88 l0_0 a1).f1) (wrap64 (Int.tdiv a2 4))) then (if (rd ((rd_T88 l0_0 a1).f1) (wrap64 (Int.tdiv a2 4))) < (l0_0.length : Int) then (if 0 ≤ (Int.tmod a2 4) then (if (Int.tmod a2 4) < (((rd_T88 l0_0 (rd ((rd_T88 l0_0 a1).f1) (wrap64 (Int.tdiv a2 4)))).f1).length : Int) then (some (rd ((rd_T88 l0_0 (rd ((rd_T88 l0_0 a1).f1) (wrap64 (Int.tdiv a2 4)))).f1) (Int.tmod a2 4))) else (none)) else (none)) else (none)) else (none))) else (none)) else (none)) else (none)) else (none))
def spec_l12At.l0 : Nat → Int → Int → List (S53) → List (S88) → Int → Option (Int)
  | 0, _, _, _, _, _ => none
  | k + 1, x1, x5, x244000, x244001, x244002 => if x5 < (x244000.length : Int) then (if 0 ≤ x5 then (if ((rd_T53 x244000 x5).f0) = x1 then (some x5) else (spec_l12At.l0 k x1 (wrap64 (x5 + 1)) x244000 x244001 x244002)) else (none)) else (some (-1))
def spec_l12At.f (k : Nat) (l0_0 : List (S53)) (l0_1 : List (S88)) (a0_2 : Int) (a1 : Int) : Option (Int) := spec_l12At.l0 k a1 0 l0_0 l0_1 a0_2
def spec_l11Has.l0 : Nat → Int → List Bool → Int → List (S88) → Option (List Bool)
  | 0, _, _, _, _ => none
  | k + 1, x1, x5, x6, x139000 => if x6 < 4 then (if 0 ≤ x1 then (if x1 < (x139000.length : Int) then (if 0 ≤ x6 then (if x6 < (((rd_T88 x139000 x1).f1).length : Int) then (if (rd ((rd_T88 x139000 x1).f1) x6) ≥ 0 then (if 0 ≤ (rd ((rd_T88 x139000 x1).f1) x6) then (if (rd ((rd_T88 x139000 x1).f1) x6) < (x5.length : Int) then (spec_l11Has.l0 k x1 (x5.set ((rd ((rd_T88 x139000 x1).f1) x6) : Int).toNat true) (wrap64 (x6 + 1)) x139000) else (none)) else (none)) else (spec_l11Has.l0 k x1 x5 (wrap64 (x6 + 1)) x139000)) else (none)) else (none)) else (none)) else (none)) else (some x5)
def spec_l11Has.f (k : Nat) (l0_0 : List (S88)) (a1 : Int) : Option (List Bool) := if 0 ≤ (l0_0.length : Int) then (if ((l0_0.length : Int) : Int).toNat ≤ 281474976710656 then ((some (List.replicate ((l0_0.length : Int) : Int).toNat false : List Bool)).bind fun y139 => (if a1 < 0 then (some y139) else (if 0 ≤ a1 then (if a1 < (y139.length : Int) then (spec_l11Has.l0 k a1 (y139.set (a1 : Int).toNat true) 0 l0_0) else (none)) else (none)))) else (none)) else (none)
mutual
def spec_SweepArena.j1 : Nat → List Int → List Int → Bool → List (S88) → Option ((List (S88)) × List Int)
  | 0, _, _, _, _ => none
  | k + 1, x1, x6, x7, x149000 => if x7 = true then (if 0 ≤ (x149000.length : Int) then (if ((x149000.length : Int) : Int).toNat ≤ 281474976710656 then (spec_SweepArena.l1 k x1 x6 (List.replicate ((x149000.length : Int) : Int).toNat false) 0 x149000) else (none)) else (none)) else ((spec_l11Copy.f k x149000).bind fun t159 => (some (t159, x6)))
def spec_SweepArena.l1 : Nat → List Int → List Int → List Bool → Int → List (S88) → Option ((List (S88)) × List Int)
  | 0, _, _, _, _, _ => none
  | k + 1, x1, x6, x9, x10, x149000 => if x10 < (x1.length : Int) then (if 0 ≤ x10 then ((spec_l11Has.f k x149000 (rd x1 x10)).bind fun t166 => (spec_SweepArena.l2 k x1 x6 x9 x10 t166 0 x149000)) else (none)) else (if 0 ≤ (x149000.length : Int) then (if ((x149000.length : Int) : Int).toNat ≤ 35184372088832 then (spec_SweepArena.l3 k x6 x9 (List.replicate ((x149000.length : Int) : Int).toNat 0) 0 x149000 ([] : List (S88))) else (none)) else (none))
def spec_SweepArena.l2 : Nat → List Int → List Int → List Bool → Int → List Bool → Int → List (S88) → Option ((List (S88)) × List Int)
  | 0, _, _, _, _, _, _, _ => none
  | k + 1, x1, x6, x9, x10, x11, x12, x149000 => if x12 < (x11.length : Int) then (if 0 ≤ x12 then (if x12 < (x9.length : Int) then (if rdOf false x9 x12 = true then (spec_SweepArena.l2 k x1 x6 (x9.set (x12 : Int).toNat true) x10 x11 (wrap64 (x12 + 1)) x149000) else (spec_SweepArena.l2 k x1 x6 (x9.set (x12 : Int).toNat (rdOf false x11 x12)) x10 x11 (wrap64 (x12 + 1)) x149000)) else (none)) else (none)) else (spec_SweepArena.l1 k x1 x6 x9 (wrap64 (x10 + 1)) x149000)
def spec_SweepArena.l3 : Nat → List Int → List Bool → List Int → Int → List (S88) → List (S88) → Option ((List (S88)) × List Int)
  | 0, _, _, _, _, _, _ => none
  | k + 1, x6, x9, x13, x15, x149000, x177000 => if x15 < (x149000.length : Int) then (if 0 ≤ x15 then (if x15 < (x9.length : Int) then (if rdOf false x9 x15 = true then ((some (([] : List Int) : List Int)).bind fun y179 => (if y179.length + ((rd_T88 x149000 x15).f1).length < 17592186044416 then (spec_SweepArena.l4 k x6 x9 x13 x15 0 x149000 x177000 ((rd_T88 x149000 x15).f0) (y179 ++ ((rd_T88 x149000 x15).f1))) else (none))) else (spec_SweepArena.l3 k x6 x9 x13 (wrap64 (x15 + 1)) x149000 x177000)) else (none)) else (none)) else (spec_SweepArena.l5 k x6 x13 0 x177000)
def spec_SweepArena.l4 : Nat → List Int → List Bool → List Int → Int → Int → List (S88) → List (S88) → Bool → List Int → Option ((List (S88)) × List Int)
  | 0, _, _, _, _, _, _, _, _, _ => none
  | k + 1, x6, x9, x13, x15, x17, x149000, x177000, x187000, x187001 => if x17 < 4 then (spec_SweepArena.j6 k x6 x9 x13 x15 x17 (!x187000) x149000 x177000 x187000 x187001) else (spec_SweepArena.j6 k x6 x9 x13 x15 x17 false x149000 x177000 x187000 x187001)
def spec_SweepArena.j6 : Nat → List Int → List Bool → List Int → Int → Int → Bool → List (S88) → List (S88) → Bool → List Int → Option ((List (S88)) × List Int)
  | 0, _, _, _, _, _, _, _, _, _, _ => none
  | k + 1, x6, x9, x13, x15, x17, x117, x149000, x177000, x187000, x187001 => if x117 = true then (if 0 ≤ x17 then (if x17 < (x187001.length : Int) then (if (rd x187001 x17) ≥ 0 then (if 0 ≤ (rd x187001 x17) then (if (rd x187001 x17) < (x13.length : Int) then (spec_SweepArena.l4 k x6 x9 x13 x15 (wrap64 (x17 + 1)) x149000 x177000 x187000 (x187001.set (x17 : Int).toNat (rd x13 (rd x187001 x17)))) else (none)) else (none)) else (spec_SweepArena.l4 k x6 x9 x13 x15 (wrap64 (x17 + 1)) x149000 x177000 x187000 x187001)) else (none)) else (none)) else (if 0 ≤ x15 then (if x15 < (x13.length : Int) then (if x177000.length < 4398046511104 then (spec_SweepArena.l3 k x6 x9 (x13.set (x15 : Int).toNat (x177000.length : Int)) (wrap64 (x15 + 1)) x149000 (x177000 ++ [(⟨x187000, x187001⟩ : S88)])) else (none)) else (none)) else (none))
def spec_SweepArena.l5 : Nat → List Int → List Int → Int → List (S88) → Option ((List (S88)) × List Int)
  | 0, _, _, _, _ => none
  | k + 1, x6, x13, x18, x177000 => if x18 < (x6.length : Int) then (if 0 ≤ x18 then (if (rd x6 x18) ≥ 0 then (if 0 ≤ (rd x6 x18) then (if (rd x6 x18) < (x13.length : Int) then (spec_SweepArena.l5 k (x6.set (x18 : Int).toNat (rd x13 (rd x6 x18))) x13 (wrap64 (x18 + 1)) x177000) else (none)) else (none)) else (spec_SweepArena.l5 k x6 x13 (wrap64 (x18 + 1)) x177000)) else (none)) else (some (x177000, x6))
def spec_SweepArena.l0 : Nat → List Int → List Int → Bool → Int → List (S88) → Option ((List (S88)) × List Int)
  | 0, _, _, _, _, _ => none
  | k + 1, x1, x6, x7, x8, x149000 => if x8 < (x1.length : Int) then (if x7 = true then (if 0 ≤ x8 then ((spec_l11Root.f x149000 (rd x1 x8)).bind fun t158 => (spec_SweepArena.l0 k x1 x6 t158 (wrap64 (x8 + 1)) x149000)) else (none)) else (spec_SweepArena.j1 k x1 x6 x7 x149000)) else (spec_SweepArena.j1 k x1 x6 x7 x149000)
end
def spec_SweepArena.f (k : Nat) (l0_0 : List (S88)) (l1 : List Int) : Option ((List (S88)) × List Int) := (some (([] : List Int) : List Int)).bind fun y150 => (if y150.length + l1.length < 17592186044416 then ((spec_ArenaOk.f k l0_0).bind fun t156 => (spec_SweepArena.l0 k l1 (y150 ++ l1) t156 0 l0_0)) else (none))
def spec_l12Roots.l0 : Nat → List Int → Int → List (S53) → List (S88) → Int → Option (List Int)
  | 0, _, _, _, _, _ => none
  | k + 1, x3, x4, x200000, x200001, x200002 => if x4 < (x200000.length : Int) then (if 0 ≤ x4 then (if x3.length < 17592186044416 then (spec_l12Roots.l0 k (x3 ++ [(rd_T53 x200000 x4).f1]) (wrap64 (x4 + 1)) x200000 x200001 x200002) else (none)) else (none)) else (some x3)
def spec_l12Roots.f (k : Nat) (l0_0 : List (S53)) (l0_1 : List (S88)) (a0_2 : Int) : Option (List Int) := spec_l12Roots.l0 k (([] : List Int)) 0 l0_0 l0_1 a0_2
def impl_volAt.l0 : Nat → Int → List (S53) → Int → Int → Option (Int)
  | 0, _, _, _, _ => none
  | k + 1, x1, x8, x9, x10 => if x10 < x9 then (if 0 ≤ x10 then (if x10 < (x8.length : Int) then (if ((rd_T53 x8 x10).f0) = x1 then (some x10) else (impl_volAt.l0 k x1 x8 x9 (wrap64 (x10 + 1)))) else (none)) else (none)) else (some (-1))
def impl_volAt.f (k : Nat) (l0_0 : List (S53)) (l0_1 : List (S88)) (a0_2 : Int) (a1 : Int) : Option (Int) := impl_volAt.l0 k a1 l0_0 (l0_0.length : Int) 0
def impl_in.f (a0 : Int) (a1 : Int) (a2 : Int) : Option (Bool) := if a0 ≥ a1 then (some (decide (a0 ≤ a2))) else (some false)
def impl_RecOk.j0 : Nat → Bool → Int → Int → Int → Int → Option (Bool)
  | 0, _, _, _, _, _ => none
  | k + 1, x32, x577000, x577001, x577002, x577003 => if x32 = true then (some false) else (if x577000 = 2 then ((impl_in.f x577002 0 9).bind fun t579 => (some t579)) else (if x577000 = 3 then (some (x577002 == 0)) else (if x577000 = 4 then ((impl_in.f x577002 0 15).bind fun t580 => (if t580 = true then ((impl_in.f x577003 1 1000000000).bind fun t581 => (some t581)) else (some false))) else (if x577000 = 5 then ((impl_in.f x577002 0 15).bind fun t582 => (some t582)) else (some false)))))
def impl_RecOk.f (k : Nat) (a0_0 : Int) (a0_1 : Int) (a0_2 : Int) (a0_3 : Int) : Option (Bool) := if a0_0 = 1 then (if a0_1 = 0 then ((impl_in.f a0_2 0 1000000000).bind fun t577 => (if t577 = true then (some (a0_3 == 0)) else (some false))) else (some false)) else ((impl_in.f a0_1 1 9).bind fun t578 => (if t578 = true then (if a0_0 = 4 then (impl_RecOk.j0 k false a0_0 a0_1 a0_2 a0_3) else (impl_RecOk.j0 k (a0_3 != 0) a0_0 a0_1 a0_2 a0_3)) else (impl_RecOk.j0 k true a0_0 a0_1 a0_2 a0_3)))
mutual
def impl_ArenaOk.l0 : Nat → List (S88) → Int → Int → List (S88) → Option (Bool)
  | 0, _, _, _, _ => none
  | k + 1, x8, x9, x10, x496000 => if x10 < x9 then (if 0 ≤ x10 then (if x10 < (x8.length : Int) then (if (((rd_T88 x8 x10).f1).length : Int) = 4 then (impl_ArenaOk.l1 k x10 x8 x9 x10 ((rd_T88 x8 x10).f1) (((rd_T88 x8 x10).f1).length : Int) 0 x496000 ((rd_T88 x8 x10).f0) ((rd_T88 x8 x10).f1)) else (some false)) else (none)) else (none)) else (some true)
def impl_ArenaOk.l1 : Nat → Int → List (S88) → Int → Int → List Int → Int → Int → List (S88) → Bool → List Int → Option (Bool)
  | 0, _, _, _, _, _, _, _, _, _, _ => none
  | k + 1, x3, x8, x9, x10, x20, x21, x22, x496000, x498000, x498001 => if x22 < x21 then (if 0 ≤ x22 then (if x22 < (x20.length : Int) then (if x498000 = true then (if (rd x20 x22) < 0 then (some false) else (impl_ArenaOk.l1 k x3 x8 x9 x10 x20 x21 (wrap64 (x22 + 1)) x496000 x498000 x498001)) else (if (rd x20 x22) = (-1) then (impl_ArenaOk.l1 k x3 x8 x9 x10 x20 x21 (wrap64 (x22 + 1)) x496000 x498000 x498001) else ((impl_in.f (rd x20 x22) 0 (wrap64 (x3 - 1))).bind fun t499 => (if t499 = true then (if 0 ≤ (rd x20 x22) then (if (rd x20 x22) < (x496000.length : Int) then (if ((rd_T88 x496000 (rd x20 x22)).f0 = true) then (impl_ArenaOk.l1 k x3 x8 x9 x10 x20 x21 (wrap64 (x22 + 1)) x496000 x498000 x498001) else (some false)) else (none)) else (none)) else (some false))))) else (none)) else (none)) else (impl_ArenaOk.l0 k x8 x9 (wrap64 (x10 + 1)) x496000)
end
def impl_ArenaOk.f (k : Nat) (l0_0 : List (S88)) : Option (Bool) := impl_ArenaOk.l0 k l0_0 (l0_0.length : Int) 0 l0_0
def impl_hasInt.l0 : Nat → Int → List Int → Int → Int → Option (Bool)
  | 0, _, _, _, _ => none
  | k + 1, x1, x7, x8, x9 => if x9 < x8 then (if 0 ≤ x9 then (if x9 < (x7.length : Int) then (if (rd x7 x9) = x1 then (some true) else (impl_hasInt.l0 k x1 x7 x8 (wrap64 (x9 + 1)))) else (none)) else (none)) else (some false)
def impl_hasInt.f (k : Nat) (l0 : List Int) (a1 : Int) : Option (Bool) := impl_hasInt.l0 k a1 l0 (l0.length : Int) 0
def impl_isRoot.f (l0_0 : List (S88)) (a1 : Int) : Option (Bool) := (impl_in.f a1 0 (wrap64 ((l0_0.length : Int) - 1))).bind fun t502 => (if t502 = true then (if 0 ≤ a1 then (if a1 < (l0_0.length : Int) then (some (!((rd_T88 l0_0 a1).f0))) else (none)) else (none)) else (some false))
def impl_knotsOf.l0 : Nat → List Int → List Int → Int → Int → List (S88) → Option (List Int)
  | 0, _, _, _, _, _ => none
  | k + 1, x5, x19, x20, x21, x506000 => if x21 < x20 then (if 0 ≤ x21 then (if x21 < (x19.length : Int) then ((impl_in.f (rd x19 x21) 0 (wrap64 ((x506000.length : Int) - 1))).bind fun t512 => (if t512 = true then ((impl_hasInt.f k x5 (rd x19 x21)).bind fun t513 => (if t513 = true then (impl_knotsOf.l0 k x5 x19 x20 (wrap64 (x21 + 1)) x506000) else (if x5.length < 17592186044416 then (impl_knotsOf.l0 k (x5 ++ [rd x19 x21]) x19 x20 (wrap64 (x21 + 1)) x506000) else (none)))) else (impl_knotsOf.l0 k x5 x19 x20 (wrap64 (x21 + 1)) x506000))) else (none)) else (none)) else (some x5)
def impl_knotsOf.f (k : Nat) (l0_0 : List (S88)) (a1 : Int) : Option (List Int) := (impl_isRoot.f l0_0 a1).bind fun t506 => (if t506 = true then (if 0 ≤ a1 then (if a1 < (l0_0.length : Int) then (impl_knotsOf.l0 k (([a1] : List Int)) ((rd_T88 l0_0 a1).f1) (((rd_T88 l0_0 a1).f1).length : Int) 0 l0_0) else (none)) else (none)) else (some ([] : List Int)))
mutual
def impl_StoreOk.j0 : Nat → Bool → List (S53) → List (S88) → Int → Option (Bool)
  | 0, _, _, _, _ => none
  | k + 1, x25, x518000, x518001, x518002 => if x25 = true then (some false) else (impl_StoreOk.l0 k ([] : List Int) x518000 (x518000.length : Int) 0 x518000 x518001 x518002)
def impl_StoreOk.l0 : Nat → List Int → List (S53) → Int → Int → List (S53) → List (S88) → Int → Option (Bool)
  | 0, _, _, _, _, _, _, _ => none
  | k + 1, x3, x27, x28, x29, x518000, x518001, x518002 => if x29 < x28 then (if 0 ≤ x29 then (if x29 < (x27.length : Int) then ((impl_in.f ((rd_T53 x27 x29).f0) 1 9).bind fun t522 => (if t522 = true then (if x29 > 0 then (if 0 ≤ (wrap64 (x29 - 1)) then (if (wrap64 (x29 - 1)) < (x518000.length : Int) then (if ((rd_T53 x518000 (wrap64 (x29 - 1))).f0) ≥ ((rd_T53 x27 x29).f0) then (some false) else (if ((rd_T53 x27 x29).f1) = (-1) then ((impl_knotsOf.f k x518001 ((rd_T53 x27 x29).f1)).bind fun t524 => (if x3.length + t524.length < 17592186044416 then (impl_StoreOk.l0 k (x3 ++ t524) x27 x28 (wrap64 (x29 + 1)) x518000 x518001 x518002) else (none))) else ((impl_isRoot.f x518001 ((rd_T53 x27 x29).f1)).bind fun t530 => (if t530 = true then ((impl_knotsOf.f k x518001 ((rd_T53 x27 x29).f1)).bind fun t531 => (if x3.length + t531.length < 17592186044416 then (impl_StoreOk.l0 k (x3 ++ t531) x27 x28 (wrap64 (x29 + 1)) x518000 x518001 x518002) else (none))) else (some false))))) else (none)) else (none)) else (if ((rd_T53 x27 x29).f1) = (-1) then ((impl_knotsOf.f k x518001 ((rd_T53 x27 x29).f1)).bind fun t537 => (if x3.length + t537.length < 17592186044416 then (impl_StoreOk.l0 k (x3 ++ t537) x27 x28 (wrap64 (x29 + 1)) x518000 x518001 x518002) else (none))) else ((impl_isRoot.f x518001 ((rd_T53 x27 x29).f1)).bind fun t543 => (if t543 = true then ((impl_knotsOf.f k x518001 ((rd_T53 x27 x29).f1)).bind fun t544 => (if x3.length + t544.length < 17592186044416 then (impl_StoreOk.l0 k (x3 ++ t544) x27 x28 (wrap64 (x29 + 1)) x518000 x518001 x518002) else (none))) else (some false))))) else (some false))) else (none)) else (none)) else (impl_StoreOk.l1 k x3 x518001 (x518001.length : Int) 0 x518000 x518001 x518002)
def impl_StoreOk.l1 : Nat → List Int → List (S88) → Int → Int → List (S53) → List (S88) → Int → Option (Bool)
  | 0, _, _, _, _, _, _, _ => none
  | k + 1, x3, x77, x78, x79, x518000, x518001, x518002 => if x79 < x78 then (if 0 ≤ x79 then (if x79 < (x77.length : Int) then ((impl_hasInt.f k x3 x79).bind fun t552 => (if t552 = true then (impl_StoreOk.l2 k x3 x77 x78 x79 ((rd_T88 x77 x79).f1) (((rd_T88 x77 x79).f1).length : Int) 0 x518000 x518001 x518002 ((rd_T88 x77 x79).f0) ((rd_T88 x77 x79).f1)) else (some false))) else (none)) else (none)) else (some true)
def impl_StoreOk.l2 : Nat → List Int → List (S88) → Int → Int → List Int → Int → Int → List (S53) → List (S88) → Int → Bool → List Int → Option (Bool)
  | 0, _, _, _, _, _, _, _, _, _, _, _, _ => none
  | k + 1, x3, x77, x78, x79, x89, x90, x91, x518000, x518001, x518002, x552000, x552001 => if x91 < x90 then (if 0 ≤ x91 then (if x91 < (x89.length : Int) then (if x552000 = true then (if (rd x89 x91) ≥ x518002 then (some false) else (impl_StoreOk.l2 k x3 x77 x78 x79 x89 x90 (wrap64 (x91 + 1)) x518000 x518001 x518002 x552000 x552001)) else (impl_StoreOk.l2 k x3 x77 x78 x79 x89 x90 (wrap64 (x91 + 1)) x518000 x518001 x518002 x552000 x552001)) else (none)) else (none)) else (impl_StoreOk.l1 k x3 x77 x78 (wrap64 (x79 + 1)) x518000 x518001 x518002)
end
def impl_StoreOk.f (k : Nat) (l0_0 : List (S53)) (l0_1 : List (S88)) (a0_2 : Int) : Option (Bool) := if (l0_0.length : Int) > 3 then (impl_StoreOk.j0 k true l0_0 l0_1 a0_2) else ((impl_ArenaOk.f k l0_1).bind fun t518 => (if t518 = true then ((impl_in.f a0_2 1 1000000000).bind fun t519 => (impl_StoreOk.j0 k (!t519) l0_0 l0_1 a0_2)) else (impl_StoreOk.j0 k true l0_0 l0_1 a0_2)))
def impl_copyInts.f (l0 : List Int) : Option (List Int) := if ([] : List Int).length + l0.length < 17592186044416 then (some (([] : List Int) ++ l0)) else (none)
def impl_copyArena.l0 : Nat → List (S88) → Int → Int → List (S88) → Option ((List (S88)))
  | 0, _, _, _, _ => none
  | k + 1, x7, x8, x9, x560000 => if x9 < x8 then (if 0 ≤ x9 then (if x9 < (x7.length : Int) then ((impl_copyInts.f ((rd_T88 x7 x9).f1)).bind fun t562 => (if x560000.length < 4398046511104 then (impl_copyArena.l0 k x7 x8 (wrap64 (x9 + 1)) (x560000 ++ [(⟨(rd_T88 x7 x9).f0, t562⟩ : S88)])) else (none))) else (none)) else (none)) else (some x560000)
def impl_copyArena.f (k : Nat) (l0_0 : List (S88)) : Option ((List (S88))) := impl_copyArena.l0 k l0_0 (l0_0.length : Int) 0 ([] : List (S88))
mutual
def impl_SweepArena.l0 : Nat → List Int → List Int → List Int → List Int → Int → Int → List (S88) → Option ((List (S88)) × List Int)
  | 0, _, _, _, _, _, _, _ => none
  | k + 1, x1, x6, x7, x21, x22, x23, x655000 => if x23 < x22 then (if 0 ≤ x23 then (if x23 < (x21.length : Int) then (if (rd x21 x23) = (-1) then (impl_SweepArena.j1 k x1 x6 x7 (rd x21 x23) x21 x22 x23 false x655000) else ((impl_isRoot.f x655000 (rd x21 x23)).bind fun t660 => (impl_SweepArena.j1 k x1 x6 x7 (rd x21 x23) x21 x22 x23 (!t660) x655000))) else (none)) else (none)) else ((impl_ArenaOk.f k x655000).bind fun t670 => (if t670 = true then (if 0 ≤ (x655000.length : Int) then (if ((x655000.length : Int) : Int).toNat ≤ 35184372088832 then (impl_SweepArena.l1 k x1 x6 x7 (List.replicate ((x655000.length : Int) : Int).toNat 0) x655000 (x655000.length : Int) 0 ([] : List (S88))) else (none)) else (none)) else ((impl_copyArena.f k x655000).bind fun t671 => (some (t671, x6)))))
def impl_SweepArena.j1 : Nat → List Int → List Int → List Int → Int → List Int → Int → Int → Bool → List (S88) → Option ((List (S88)) × List Int)
  | 0, _, _, _, _, _, _, _, _, _ => none
  | k + 1, x1, x6, x7, x9, x21, x22, x23, x34, x655000 => if x34 = true then ((impl_copyArena.f k x655000).bind fun t661 => (some (t661, x6))) else ((impl_knotsOf.f k x655000 x9).bind fun t664 => (if x7.length + t664.length < 17592186044416 then (impl_SweepArena.l0 k x1 x6 (x7 ++ t664) x21 x22 (wrap64 (x23 + 1)) x655000) else (none)))
def impl_SweepArena.l1 : Nat → List Int → List Int → List Int → List Int → List (S88) → Int → Int → List (S88) → Option ((List (S88)) × List Int)
  | 0, _, _, _, _, _, _, _, _ => none
  | k + 1, x1, x6, x7, x11, x55, x56, x57, x675000 => if x57 < x56 then (if 0 ≤ x57 then (if x57 < (x55.length : Int) then ((impl_hasInt.f k x7 x57).bind fun t680 => (if t680 = true then (if x57 < (x11.length : Int) then ((impl_copyInts.f ((rd_T88 x55 x57).f1)).bind fun t682 => (impl_SweepArena.l2 k x1 x6 x7 (x11.set (x57 : Int).toNat (x675000.length : Int)) x55 x56 x57 ((rd_T88 x55 x57).f1) (((rd_T88 x55 x57).f1).length : Int) 0 x675000 ((rd_T88 x55 x57).f0) ((rd_T88 x55 x57).f1) ((rd_T88 x55 x57).f0) t682)) else (none)) else (impl_SweepArena.l1 k x1 x6 x7 x11 x55 x56 (wrap64 (x57 + 1)) x675000))) else (none)) else (none)) else (impl_SweepArena.l3 k x6 x11 x1 (x1.length : Int) 0 x675000)
def impl_SweepArena.l2 : Nat → List Int → List Int → List Int → List Int → List (S88) → Int → Int → List Int → Int → Int → List (S88) → Bool → List Int → Bool → List Int → Option ((List (S88)) × List Int)
  | 0, _, _, _, _, _, _, _, _, _, _, _, _, _, _, _ => none
  | k + 1, x1, x6, x7, x11, x55, x56, x57, x79, x80, x81, x675000, x680000, x680001, x686000, x686001 => if x81 < x80 then (if 0 ≤ x81 then (if x81 < (x79.length : Int) then (if x680000 = true then (impl_SweepArena.l2 k x1 x6 x7 x11 x55 x56 x57 x79 x80 (wrap64 (x81 + 1)) x675000 x680000 x680001 x686000 x686001) else (if (rd x79 x81) ≥ 0 then (if 0 ≤ (rd x79 x81) then (if (rd x79 x81) < (x11.length : Int) then (if x81 < (x686001.length : Int) then (impl_SweepArena.l2 k x1 x6 x7 x11 x55 x56 x57 x79 x80 (wrap64 (x81 + 1)) x675000 x680000 x680001 x686000 (x686001.set (x81 : Int).toNat (rd x11 (rd x79 x81)))) else (none)) else (none)) else (none)) else (impl_SweepArena.l2 k x1 x6 x7 x11 x55 x56 x57 x79 x80 (wrap64 (x81 + 1)) x675000 x680000 x680001 x686000 x686001))) else (none)) else (none)) else (if x675000.length < 4398046511104 then (impl_SweepArena.l1 k x1 x6 x7 x11 x55 x56 (wrap64 (x57 + 1)) (x675000 ++ [(⟨x686000, x686001⟩ : S88)])) else (none))
def impl_SweepArena.l3 : Nat → List Int → List Int → List Int → Int → Int → List (S88) → Option ((List (S88)) × List Int)
  | 0, _, _, _, _, _, _ => none
  | k + 1, x6, x11, x109, x110, x111, x675000 => if x111 < x110 then (if 0 ≤ x111 then (if x111 < (x109.length : Int) then (if (rd x109 x111) ≥ 0 then (if 0 ≤ (rd x109 x111) then (if (rd x109 x111) < (x11.length : Int) then (if x111 < (x6.length : Int) then (impl_SweepArena.l3 k (x6.set (x111 : Int).toNat (rd x11 (rd x109 x111))) x11 x109 x110 (wrap64 (x111 + 1)) x675000) else (none)) else (none)) else (none)) else (impl_SweepArena.l3 k x6 x11 x109 x110 (wrap64 (x111 + 1)) x675000)) else (none)) else (none)) else (some (x675000, x6))
end
def impl_SweepArena.f (k : Nat) (l0_0 : List (S88)) (l1 : List Int) : Option ((List (S88)) × List Int) := (impl_copyInts.f l1).bind fun t656 => (impl_SweepArena.l0 k l1 t656 ([] : List Int) l1 (l1.length : Int) 0 l0_0)
def impl_numberAt.f (l0_0 : List (S88)) (a1 : Int) (a2 : Int) : Option (Int) := if 0 ≤ a1 then (if a1 < (l0_0.length : Int) then (if 0 ≤ (wrap64 (Int.tdiv a2 4)) then (if (wrap64 (Int.tdiv a2 4)) < (((rd_T88 l0_0 a1).f1).length : Int) then (if (rd ((rd_T88 l0_0 a1).f1) (wrap64 (Int.tdiv a2 4))) < 0 then (some 0) else (if 0 ≤ (rd ((rd_T88 l0_0 a1).f1) (wrap64 (Int.tdiv a2 4))) then (if (rd ((rd_T88 l0_0 a1).f1) (wrap64 (Int.tdiv a2 4))) < (l0_0.length : Int) then (if 0 ≤ (Int.tmod a2 4) then (if (Int.tmod a2 4) < (((rd_T88 l0_0 (rd ((rd_T88 l0_0 a1).f1) (wrap64 (Int.tdiv a2 4)))).f1).length : Int) then (some (rd ((rd_T88 l0_0 (rd ((rd_T88 l0_0 a1).f1) (wrap64 (Int.tdiv a2 4)))).f1) (Int.tmod a2 4))) else (none)) else (none)) else (none)) else (none))) else (none)) else (none)) else (none)) else (none)
def impl_GetAt.f (k : Nat) (l0_0 : List (S88)) (a1 : Int) (a2 : Int) : Option (Int) := (impl_in.f a2 0 15).bind fun t947 => (if t947 = true then ((impl_isRoot.f l0_0 a1).bind fun t948 => (if t948 = true then ((impl_ArenaOk.f k l0_0).bind fun t949 => (if t949 = true then ((impl_numberAt.f l0_0 a1 a2).bind fun t950 => (some t950)) else (some 0))) else (some 0))) else (some 0))
def impl_ChunkOf.f (k : Nat) (l0_0 : List (S53)) (l0_1 : List (S88)) (a0_2 : Int) (a1 : Int) (a2 : Int) : Option (Int) := (impl_volAt.f k l0_0 l0_1 a0_2 a1).bind fun t1123 => (if t1123 < 0 then (some 0) else (if 0 ≤ t1123 then (if t1123 < (l0_0.length : Int) then ((impl_GetAt.f k l0_1 ((rd_T53 l0_0 t1123).f1) a2).bind fun t1125 => (some t1125)) else (none)) else (none)))
def impl_AllAt.l0 : Nat → Int → List Int → Int → List (S88) → Option (List Int)
  | 0, _, _, _, _ => none
  | k + 1, x1, x5, x7, x952000 => if x7 < 16 then ((impl_GetAt.f k x952000 x1 x7).bind fun t952 => (if x5.length < 17592186044416 then (impl_AllAt.l0 k x1 (x5 ++ [t952]) (wrap64 (x7 + 1)) x952000) else (none))) else (some x5)
def impl_AllAt.f (k : Nat) (l0_0 : List (S88)) (a1 : Int) : Option (List Int) := impl_AllAt.l0 k a1 ([] : List Int) 0 l0_0
mutual
def impl_chunksOf.l0 : Nat → List Int → List (S53) → Int → Int → List (S53) → List (S88) → Int → Option (List Int)
  | 0, _, _, _, _, _, _, _ => none
  | k + 1, x3, x9, x10, x11, x957000, x957001, x957002 => if x11 < x10 then (if 0 ≤ x11 then (if x11 < (x9.length : Int) then ((impl_AllAt.f k x957001 ((rd_T53 x9 x11).f1)).bind fun t959 => (impl_chunksOf.l1 k x3 x9 x10 x11 t959 (t959.length : Int) 0 x957000 x957001 x957002)) else (none)) else (none)) else (some x3)
def impl_chunksOf.l1 : Nat → List Int → List (S53) → Int → Int → List Int → Int → Int → List (S53) → List (S88) → Int → Option (List Int)
  | 0, _, _, _, _, _, _, _, _, _, _ => none
  | k + 1, x3, x9, x10, x11, x19, x20, x21, x957000, x957001, x957002 => if x21 < x20 then (if 0 ≤ x21 then (if x21 < (x19.length : Int) then (if (rd x19 x21) > 0 then (if x3.length < 17592186044416 then (impl_chunksOf.l1 k (x3 ++ [rd x19 x21]) x9 x10 x11 x19 x20 (wrap64 (x21 + 1)) x957000 x957001 x957002) else (none)) else (impl_chunksOf.l1 k x3 x9 x10 x11 x19 x20 (wrap64 (x21 + 1)) x957000 x957001 x957002)) else (none)) else (none)) else (impl_chunksOf.l0 k x3 x9 x10 (wrap64 (x11 + 1)) x957000 x957001 x957002)
end
def impl_chunksOf.f (k : Nat) (l0_0 : List (S53)) (l0_1 : List (S88)) (a0_2 : Int) : Option (List Int) := impl_chunksOf.l0 k ([] : List Int) l0_0 (l0_0.length : Int) 0 l0_0 l0_1 a0_2
def impl_RefsOf.l0 : Nat → Int → Int → List Int → Int → Int → Option (Int)
  | 0, _, _, _, _, _ => none
  | k + 1, x1, x5, x9, x10, x11 => if x11 < x10 then (if 0 ≤ x11 then (if x11 < (x9.length : Int) then (if (rd x9 x11) = x1 then (impl_RefsOf.l0 k x1 (wrap64 (x5 + 1)) x9 x10 (wrap64 (x11 + 1))) else (impl_RefsOf.l0 k x1 x5 x9 x10 (wrap64 (x11 + 1)))) else (none)) else (none)) else (some x5)
def impl_RefsOf.f (k : Nat) (l0_0 : List (S53)) (l0_1 : List (S88)) (a0_2 : Int) (a1 : Int) : Option (Int) := (impl_chunksOf.f k l0_0 l0_1 a0_2).bind fun t1099 => (impl_RefsOf.l0 k a1 0 t1099 (t1099.length : Int) 0)
def spec_GetAt.f (k : Nat) (l0_0 : List (S88)) (a1 : Int) (a2 : Int) : Option (Int) := (spec_ArenaOk.f k l0_0).bind fun t1104 => (if t1104 = true then ((spec_l11Root.f l0_0 a1).bind fun t1105 => (if t1105 = true then ((spec_l01In.f a2 0 15).bind fun t1106 => (if t1106 = true then ((spec_l11Get.f l0_0 a1 a2).bind fun t1107 => (some t1107)) else (some 0))) else (some 0))) else (some 0))
def spec_ChunkOf.f (k : Nat) (l0_0 : List (S53)) (l0_1 : List (S88)) (a0_2 : Int) (a1 : Int) (a2 : Int) : Option (Int) := (spec_l12At.f k l0_0 l0_1 a0_2 a1).bind fun t1261 => (if t1261 < 0 then (some 0) else (if 0 ≤ t1261 then (if t1261 < (l0_0.length : Int) then ((spec_GetAt.f k l0_1 ((rd_T53 l0_0 t1261).f1) a2).bind fun t1263 => (some t1263)) else (none)) else (none)))
def spec_DrawPlaces.l0 : Nat → List Int → Int → List Int → Int → Int → Option (List Int)
  | 0, _, _, _, _, _ => none
  | k + 1, x4, x5, x1248000, x1248001, x1248002 => if x5 < 12 then ((spec_l01Below.f x1248000 x1248001 x1248002 10000).bind fun bt1254 => (if x4.length < 17592186044416 then (spec_DrawPlaces.l0 k (x4 ++ [bt1254.1]) (wrap64 (x5 + 1)) x1248000 bt1254.2.1 bt1254.2.2) else (none))) else (some x4)
def spec_DrawPlaces.f (k : Nat) (l0 : List Int) : Option (List Int) := (spec_l01New.f k l0).bind fun bt1244 => ((spec_l01Byte.f bt1244.1 bt1244.2.1 bt1244.2.2).bind fun bt1248 => (spec_DrawPlaces.l0 k (([] : List Int)) 0 bt1244.1 bt1248.2.1 bt1248.2.2))
end Go.Proofs.Yteideicglgpfiaa.PK

/- From the print's plain functions to the own ones: small words. -/
namespace Go.Proofs.Yteideicglgpfiaa.M2
open Go Go.RowKit Go.Proofs.YteideicglgpfiaaW.PrintWords Go.Proofs.Yteideicglgpfiaa.PK
theorem w64_eq (n : Int) : w64 n = wrap64 n := IntWalk.i64_left n
theorem wu8_eq (n : Int) : Go.IntKind.wrap .u8 n = n % 256 := by simp [IntKind.wrap, IntKind.signed, IntKind.bits]
theorem int_beq (a b : Int) : (a == b) = decide (a = b) := rfl
theorem emp_eq : (⟨#[]⟩ : ByteArray).toList = [] := by kernel_rfl
theorem itE {α : Type} {c : Prop} [Decidable c] {a b : Option α} {r : α} {G : Prop} (h : (if c then a else b) = some r) (x : c → a = some r → G) (y : ¬ c → b = some r → G) : G := by
  by_cases hc : c
  · rw [if_pos hc] at h; exact x hc h
  · rw [if_neg hc] at h; exact y hc h
theorem bnE {α β : Type} {o : Option α} {f : α → Option β} {r : β} {G : Prop} (h : o.bind f = some r) (x : ∀ t, o = some t → f t = some r → G) : G := by
  obtain ⟨t, h1, h2⟩ := Option.bind_eq_some_iff.1 h; exact x t h1 h2
theorem bsE {α β : Type} {a : α} {f : α → Option β} {r : β} {G : Prop} (h : (some a).bind f = some r) (x : f a = some r → G) : G := x h
theorem noE {α : Type} {r : α} {G : Prop} (h : none = some r) : G := by cases h
theorem ite_inv {α : Type} {c : Prop} [Decidable c] {a b : Option α} {r : α} (h : (if c then a else b) = some r) : (c ∧ a = some r) ∨ (¬ c ∧ b = some r) := by
  by_cases hc : c
  · rw [if_pos hc] at h; exact .inl ⟨hc, h⟩
  · rw [if_neg hc] at h; exact .inr ⟨hc, h⟩
theorem fdiv33 (a : Int) : Int.fdiv a 8589934592 = a / 8589934592 := Int.fdiv_eq_ediv_of_nonneg a (by decide)
theorem fdiv45 (a : Int) : Int.fdiv a 35184372088832 = a / 35184372088832 := Int.fdiv_eq_ediv_of_nonneg a (by decide)
theorem shlR (x y : Int) : w64 (x * 2 ^ (min y.toNat 64)) = Go.Proofs.YteideicglgpfiaaW.PrintWords.shl .i64 x y := rfl
theorem bt_eq (s : ByteArray) (i : Int) : bt s i = Go.Proofs.YteideicglgpfiaaW.PrintWords.bt s i := rfl
theorem tmodN (n : Nat) (k : Int) : Int.tmod (n : Int) k = (n : Int) % k := Int.tmod_eq_emod_of_nonneg (Int.natCast_nonneg n)
theorem rdOfB (a b : Int) : (a - b < 0) = (a < b) := by simp only [eq_iff_iff]; omega
theorem rdOfL (l : List Bool) (i : Int) : rdOf false l i = rd_T4 l i := rfl
theorem rdT3_eq (l : List Int) (i : Int) : rd_T3 l i = rd l i := rfl
theorem rdT5_eq (l : List Int) (i : Int) : rd_T5 l i = rd l i := rfl
theorem rdn3 (l : List Int) (i : Int) : rd_T3 l ((i.toNat : Nat) : Int) = rd_T3 l i := rfl
theorem rdset3 (l : List Int) (i : Int) (y : Int) (h : i < (l.length : Int)) (h0 : 0 ≤ i) : rd_T3 (l.set i.toNat y) i = y := by
  unfold rd_T3; rw [List.getD_eq_getElem?_getD, List.getElem?_set_self (by omega)]; rfl
theorem rdn88 (l : List S88) (i : Int) : rd_T88 l ((i.toNat : Nat) : Int) = rd_T88 l i := rfl
theorem rdset88 (l : List S88) (i : Int) (y : S88) (h : i < (l.length : Int)) (h0 : 0 ≤ i) : rd_T88 (l.set i.toNat y) i = y := by
  unfold rd_T88; rw [List.getD_eq_getElem?_getD, List.getElem?_set_self (by omega)]; rfl
theorem rdn53 (l : List S53) (i : Int) : rd_T53 l ((i.toNat : Nat) : Int) = rd_T53 l i := rfl
theorem rdset53 (l : List S53) (i : Int) (y : S53) (h : i < (l.length : Int)) (h0 : 0 ≤ i) : rd_T53 (l.set i.toNat y) i = y := by
  unfold rd_T53; rw [List.getD_eq_getElem?_getD, List.getElem?_set_self (by omega)]; rfl
theorem rdn5 (l : List Int) (i : Int) : rd_T5 l ((i.toNat : Nat) : Int) = rd_T5 l i := rfl
theorem rdset5 (l : List Int) (i : Int) (y : Int) (h : i < (l.length : Int)) (h0 : 0 ≤ i) : rd_T5 (l.set i.toNat y) i = y := by
  unfold rd_T5; rw [List.getD_eq_getElem?_getD, List.getElem?_set_self (by omega)]; rfl
theorem rdn4 (l : List Bool) (i : Int) : rd_T4 l ((i.toNat : Nat) : Int) = rd_T4 l i := rfl
theorem rdset4 (l : List Bool) (i : Int) (y : Bool) (h : i < (l.length : Int)) (h0 : 0 ≤ i) : rd_T4 (l.set i.toNat y) i = y := by
  unfold rd_T4; rw [List.getD_eq_getElem?_getD, List.getElem?_set_self (by omega)]; rfl
end Go.Proofs.Yteideicglgpfiaa.M2

/- What the print's plain functions answer, the own ones answer. Written by a program of this session. -/
namespace Go.Proofs.Yteideicglgpfiaa.M2
open Go Go.RowKit Go.Proofs.YteideicglgpfiaaW.PrintWords Go.Proofs.Yteideicglgpfiaa.PK
set_option linter.unusedVariables false
set_option linter.unusedSimpArgs false
theorem laws_big.rel (k : Nat) (l0 : List Int) (r) (h : PK.laws_big.f l0 = some r) (m : Nat) (hm : k ≤ m) : laws_big.f m l0 = some r := by
  rw [PK.laws_big.f] at h
  rw [laws_big.f]
  try simp only [w64_eq, wu8_eq, gt_iff_lt, ge_iff_le, int_beq, fdiv33, fdiv45, bt_eq, tmodN, rdOfB, rdOfL] at h
  try simp only [shlR]
  try simp only [w64_eq, wu8_eq, gt_iff_lt, ge_iff_le, int_beq, fdiv33, fdiv45, bt_eq, tmodN, rdOfB, rdOfL, rdT3_eq, rdT5_eq, seq, maxI, minI, emp_eq, rdn3, rdn88, rdn53, rdn5, rdn4]
  refine ?_
  all_goals (try cases h)
  all_goals (try simp only [*, if_true, if_false, ↓reduceIte, Option.bind_some, List.length_cons, List.length_nil, List.length_append, Bool.not_true, Bool.not_false, Bool.true_eq_false, Bool.false_eq_true])
  all_goals (repeat first | rw [if_pos (by omega)] | rw [if_neg (by omega)])
  all_goals first | exact h | apply h | rfl | (simp_all [-Bool.forall_bool]; done) | (simp_all [-Bool.forall_bool]; first | exact h | apply h) | (simp_all [-Bool.forall_bool, emp_eq, int_beq]; done) | (simp_all [-Bool.forall_bool]; (intros; simp_all; done)) | (simp_all [-Bool.forall_bool, rdset3, rdset88, rdset53, rdset5, rdset4]; done) | grind

theorem spec_l01Byte.rel (k : Nat) (s0_0 : List Int) (s0_1 : Int) (s0_2 : Int) (r) (h : PK.spec_l01Byte.f s0_0 s0_1 s0_2 = some r) (m : Nat) (hm : k ≤ m) : spec_l01Byte.f m s0_0 s0_1 s0_2 = some (r.1, s0_0, r.2.1, r.2.2) := by
  rw [PK.spec_l01Byte.f] at h
  rw [spec_l01Byte.f]
  try simp only [w64_eq, wu8_eq, gt_iff_lt, ge_iff_le, int_beq, fdiv33, fdiv45, bt_eq, tmodN, rdOfB, rdOfL] at h
  try simp only [shlR]
  try simp only [w64_eq, wu8_eq, gt_iff_lt, ge_iff_le, int_beq, fdiv33, fdiv45, bt_eq, tmodN, rdOfB, rdOfL, rdT3_eq, rdT5_eq, seq, maxI, minI, emp_eq, rdn3, rdn88, rdn53, rdn5, rdn4]
  refine (itE h (fun q h => (itE h (fun q h => ?_) (fun q h => (noE h)))) (fun q h => ?_))
  all_goals (try cases h)
  all_goals (try simp only [*, if_true, if_false, ↓reduceIte, Option.bind_some, List.length_cons, List.length_nil, List.length_append, Bool.not_true, Bool.not_false, Bool.true_eq_false, Bool.false_eq_true])
  all_goals (repeat first | rw [if_pos (by omega)] | rw [if_neg (by omega)])
  all_goals first | exact h | apply h | rfl | (simp_all [-Bool.forall_bool]; done) | (simp_all [-Bool.forall_bool]; first | exact h | apply h) | (simp_all [-Bool.forall_bool, emp_eq, int_beq]; done) | (simp_all [-Bool.forall_bool]; (intros; simp_all; done)) | (simp_all [-Bool.forall_bool, rdset3, rdset88, rdset53, rdset5, rdset4]; done) | grind

theorem spec_l01Below.rel (k : Nat) (s0_0 : List Int) (s0_1 : Int) (s0_2 : Int) (a1 : Int) (r) (h : PK.spec_l01Below.f s0_0 s0_1 s0_2 a1 = some r) (m : Nat) (hm : k ≤ m) : spec_l01Below.f m a1 s0_0 s0_1 s0_2 = some (r.1, s0_0, r.2.1, r.2.2) := by
  rw [PK.spec_l01Below.f] at h
  rw [spec_l01Below.f]
  try simp only [w64_eq, wu8_eq, gt_iff_lt, ge_iff_le, int_beq, fdiv33, fdiv45, bt_eq, tmodN, rdOfB, rdOfL] at h
  try simp only [shlR]
  try simp only [w64_eq, wu8_eq, gt_iff_lt, ge_iff_le, int_beq, fdiv33, fdiv45, bt_eq, tmodN, rdOfB, rdOfL, rdT3_eq, rdT5_eq, seq, maxI, minI, emp_eq, rdn3, rdn88, rdn53, rdn5, rdn4]
  refine (itE h (fun q h => ?_) (fun q h => (itE h (fun q h => (bnE h (fun _ g h => (fun g => (itE h (fun q h => (noE h)) (fun q h => ?_))) (spec_l01Byte.rel m _ _ _ _ g m (by omega))))) (fun q h => (bnE h (fun _ g h => (fun g => (bnE h (fun _ g h => (fun g => (bnE h (fun _ g h => (fun g => (bnE h (fun _ g h => (fun g => (itE h (fun q h => (noE h)) (fun q h => ?_))) (spec_l01Byte.rel m _ _ _ _ g m (by omega))))) (spec_l01Byte.rel m _ _ _ _ g m (by omega))))) (spec_l01Byte.rel m _ _ _ _ g m (by omega))))) (spec_l01Byte.rel m _ _ _ _ g m (by omega))))))))
  all_goals (try cases h)
  all_goals (try simp only [*, if_true, if_false, ↓reduceIte, Option.bind_some, List.length_cons, List.length_nil, List.length_append, Bool.not_true, Bool.not_false, Bool.true_eq_false, Bool.false_eq_true])
  all_goals (repeat first | rw [if_pos (by omega)] | rw [if_neg (by omega)])
  all_goals first | exact h | apply h | rfl | (simp_all [-Bool.forall_bool]; done) | (simp_all [-Bool.forall_bool]; first | exact h | apply h) | (simp_all [-Bool.forall_bool, emp_eq, int_beq]; done) | (simp_all [-Bool.forall_bool]; (intros; simp_all; done)) | (simp_all [-Bool.forall_bool, rdset3, rdset88, rdset53, rdset5, rdset4]; done) | grind

theorem spec_l01Once.rel (k : Nat) (s0_0 : List Int) (s0_1 : Int) (s0_2 : Int) (a1 : Int) (r) (h : PK.spec_l01Once.f s0_0 s0_1 s0_2 a1 = some r) (m : Nat) (hm : k ≤ m) : spec_l01Once.f m a1 s0_0 s0_1 s0_2 = some (r.1, s0_0, r.2.1, r.2.2) := by
  rw [PK.spec_l01Once.f] at h
  rw [spec_l01Once.f]
  try simp only [w64_eq, wu8_eq, gt_iff_lt, ge_iff_le, int_beq, fdiv33, fdiv45, bt_eq, tmodN, rdOfB, rdOfL] at h
  try simp only [shlR]
  try simp only [w64_eq, wu8_eq, gt_iff_lt, ge_iff_le, int_beq, fdiv33, fdiv45, bt_eq, tmodN, rdOfB, rdOfL, rdT3_eq, rdT5_eq, seq, maxI, minI, emp_eq, rdn3, rdn88, rdn53, rdn5, rdn4]
  refine (bnE h (fun _ g h => (fun g => ?_) (spec_l01Below.rel m _ _ _ _ _ g m (by omega))))
  all_goals (try cases h)
  all_goals (try simp only [*, if_true, if_false, ↓reduceIte, Option.bind_some, List.length_cons, List.length_nil, List.length_append, Bool.not_true, Bool.not_false, Bool.true_eq_false, Bool.false_eq_true])
  all_goals (repeat first | rw [if_pos (by omega)] | rw [if_neg (by omega)])
  all_goals first | exact h | apply h | rfl | (simp_all [-Bool.forall_bool]; done) | (simp_all [-Bool.forall_bool]; first | exact h | apply h) | (simp_all [-Bool.forall_bool, emp_eq, int_beq]; done) | (simp_all [-Bool.forall_bool]; (intros; simp_all; done)) | (simp_all [-Bool.forall_bool, rdset3, rdset88, rdset53, rdset5, rdset4]; done) | grind

theorem spec_l01New.rel_l (k : Nat) : (∀ x0 x3 x4 r, PK.spec_l01New.l0 k x0 x3 x4 = some r → ∀ m, k ≤ m → spec_l01New.c3 m x0 x3 x4 = some (r.1, r.2.1, r.2.2)) := by
  induction k using Nat.strongRecOn with
  | _ k ih =>
  have il0 := fun k' hk' => (ih k' hk')
  clear ih
  intro x0 x3 x4 r h m hm
  cases k with
  | zero => simp only [PK.spec_l01New.l0] at h; cases h
  | succ k =>
    obtain ⟨m, rfl⟩ : ∃ m', m = m' + 1 := ⟨m - 1, by omega⟩
    rw [PK.spec_l01New.l0] at h
    rw [spec_l01New.c3]
    try simp only [w64_eq, wu8_eq, gt_iff_lt, ge_iff_le, int_beq, fdiv33, fdiv45, bt_eq, tmodN, rdOfB, rdOfL] at h
    try simp only [shlR]
    try simp only [w64_eq, wu8_eq, gt_iff_lt, ge_iff_le, int_beq, fdiv33, fdiv45, bt_eq, tmodN, rdOfB, rdOfL, rdT3_eq, rdT5_eq, seq, maxI, minI, emp_eq, rdn3, rdn88, rdn53, rdn5, rdn4]
    refine (itE h (fun q h => (itE h (fun q h => (itE h (fun q h => ((fun h => ?_) (il0 _ (by omega) _ _ _ _ h m (by omega)))) (fun q h => (noE h)))) (fun q h => ?_))) (fun q h => ?_))
    all_goals clear il0
    all_goals (try cases h)
    all_goals (try simp only [*, if_true, if_false, ↓reduceIte, Option.bind_some, List.length_cons, List.length_nil, List.length_append, Bool.not_true, Bool.not_false, Bool.true_eq_false, Bool.false_eq_true])
    all_goals (repeat first | rw [if_pos (by omega)] | rw [if_neg (by omega)])
    all_goals first | exact h | apply h | rfl | (simp_all [-Bool.forall_bool]; done) | (simp_all [-Bool.forall_bool]; first | exact h | apply h) | (simp_all [-Bool.forall_bool, emp_eq, int_beq]; done) | (simp_all [-Bool.forall_bool]; (intros; simp_all; done)) | (simp_all [-Bool.forall_bool, rdset3, rdset88, rdset53, rdset5, rdset4]; done) | grind
theorem spec_l01New.rel (k : Nat) (l0 : List Int) (r) (h : PK.spec_l01New.f k l0 = some r) (m : Nat) (hm : k ≤ m) : spec_l01New.f m l0 = some (r.1, r.2.1, r.2.2) := by
  have il0 := fun k' (_ : k' < k + 1) => (spec_l01New.rel_l k')
  rw [PK.spec_l01New.f] at h
  rw [spec_l01New.f]
  try simp only [w64_eq, wu8_eq, gt_iff_lt, ge_iff_le, int_beq, fdiv33, fdiv45, bt_eq, tmodN, rdOfB, rdOfL] at h
  try simp only [shlR]
  try simp only [w64_eq, wu8_eq, gt_iff_lt, ge_iff_le, int_beq, fdiv33, fdiv45, bt_eq, tmodN, rdOfB, rdOfL, rdT3_eq, rdT5_eq, seq, maxI, minI, emp_eq, rdn3, rdn88, rdn53, rdn5, rdn4]
  refine ((fun h => ?_) (il0 _ (by omega) _ _ _ _ h m (by omega)))
  all_goals clear il0
  all_goals (try cases h)
  all_goals (try simp only [*, if_true, if_false, ↓reduceIte, Option.bind_some, List.length_cons, List.length_nil, List.length_append, Bool.not_true, Bool.not_false, Bool.true_eq_false, Bool.false_eq_true])
  all_goals (repeat first | rw [if_pos (by omega)] | rw [if_neg (by omega)])
  all_goals first | exact h | apply h | rfl | (simp_all [-Bool.forall_bool]; done) | (simp_all [-Bool.forall_bool]; first | exact h | apply h) | (simp_all [-Bool.forall_bool, emp_eq, int_beq]; done) | (simp_all [-Bool.forall_bool]; (intros; simp_all; done)) | (simp_all [-Bool.forall_bool, rdset3, rdset88, rdset53, rdset5, rdset4]; done) | grind
end Go.Proofs.Yteideicglgpfiaa.M2

/- What the print's plain functions answer, the own ones answer. Written by a program of this session. -/
namespace Go.Proofs.Yteideicglgpfiaa.M2
open Go Go.RowKit Go.Proofs.YteideicglgpfiaaW.PrintWords Go.Proofs.Yteideicglgpfiaa.PK
set_option linter.unusedVariables false
set_option linter.unusedSimpArgs false
theorem spec_l01In.rel (k : Nat) (a0 : Int) (a1 : Int) (a2 : Int) (r) (h : PK.spec_l01In.f a0 a1 a2 = some r) (m : Nat) (hm : k ≤ m) : spec_l01In.f m a0 a1 a2 = some r := by
  rw [PK.spec_l01In.f] at h
  rw [spec_l01In.f]
  try simp only [w64_eq, wu8_eq, gt_iff_lt, ge_iff_le, int_beq, fdiv33, fdiv45, bt_eq, tmodN, rdOfB, rdOfL] at h
  try simp only [shlR]
  try simp only [w64_eq, wu8_eq, gt_iff_lt, ge_iff_le, int_beq, fdiv33, fdiv45, bt_eq, tmodN, rdOfB, rdOfL, rdT3_eq, rdT5_eq, seq, maxI, minI, emp_eq, rdn3, rdn88, rdn53, rdn5, rdn4]
  refine (itE h (fun q h => ?_) (fun q h => ?_))
  all_goals (try cases h)
  all_goals (try simp only [*, if_true, if_false, ↓reduceIte, Option.bind_some, List.length_cons, List.length_nil, List.length_append, Bool.not_true, Bool.not_false, Bool.true_eq_false, Bool.false_eq_true])
  all_goals (repeat first | rw [if_pos (by omega)] | rw [if_neg (by omega)])
  all_goals first | exact h | apply h | rfl | (simp_all [-Bool.forall_bool]; done) | (simp_all [-Bool.forall_bool]; first | exact h | apply h) | (simp_all [-Bool.forall_bool, emp_eq, int_beq]; done) | (simp_all [-Bool.forall_bool]; (intros; simp_all; done)) | (simp_all [-Bool.forall_bool, rdset3, rdset88, rdset53, rdset5, rdset4]; done) | grind

theorem spec_ArenaOk.rel_l (k : Nat) : (∀ x3 x111000 r, PK.spec_ArenaOk.l0 k x3 x111000 = some r → ∀ m, k ≤ m → spec_ArenaOk.c2 m x3 x111000 = some r) ∧ (∀ x3 x5 x111000 x113000 x113001 r, PK.spec_ArenaOk.l1 k x3 x5 x111000 x113000 x113001 = some r → ∀ m, k ≤ m → spec_ArenaOk.c8 m x3 x5 x111000 x113000 x113001 = some r) := by
  induction k using Nat.strongRecOn with
  | _ k ih =>
  have il0 := fun k' hk' => (ih k' hk').1
  have il1 := fun k' hk' => (ih k' hk').2
  clear ih
  refine ⟨?_, ?_⟩
  · intro x3 x111000 r h m hm
    cases k with
    | zero => simp only [PK.spec_ArenaOk.l0] at h; cases h
    | succ k =>
      obtain ⟨m, rfl⟩ : ∃ m', m = m' + 1 := ⟨m - 1, by omega⟩
      rw [PK.spec_ArenaOk.l0] at h
      rw [spec_ArenaOk.c2]
      try simp only [w64_eq, wu8_eq, gt_iff_lt, ge_iff_le, int_beq, fdiv33, fdiv45, bt_eq, tmodN, rdOfB, rdOfL] at h
      try simp only [shlR]
      try simp only [w64_eq, wu8_eq, gt_iff_lt, ge_iff_le, int_beq, fdiv33, fdiv45, bt_eq, tmodN, rdOfB, rdOfL, rdT3_eq, rdT5_eq, seq, maxI, minI, emp_eq, rdn3, rdn88, rdn53, rdn5, rdn4]
      refine (itE h (fun q h => (itE h (fun q h => (itE h (fun q h => ((fun h => ?_) (il1 _ (by omega) _ _ _ _ _ _ h m (by omega)))) (fun q h => ?_))) (fun q h => (noE h)))) (fun q h => ?_))
      all_goals clear il0 il1
      all_goals (try cases h)
      all_goals (try simp only [*, if_true, if_false, ↓reduceIte, Option.bind_some, List.length_cons, List.length_nil, List.length_append, Bool.not_true, Bool.not_false, Bool.true_eq_false, Bool.false_eq_true])
      all_goals (repeat first | rw [if_pos (by omega)] | rw [if_neg (by omega)])
      all_goals first | exact h | apply h | rfl | (simp_all [-Bool.forall_bool]; done) | (simp_all [-Bool.forall_bool]; first | exact h | apply h) | (simp_all [-Bool.forall_bool, emp_eq, int_beq]; done) | (simp_all [-Bool.forall_bool]; (intros; simp_all; done)) | (simp_all [-Bool.forall_bool, rdset3, rdset88, rdset53, rdset5, rdset4]; done) | grind
  · intro x3 x5 x111000 x113000 x113001 r h m hm
    cases k with
    | zero => simp only [PK.spec_ArenaOk.l1] at h; cases h
    | succ k =>
      obtain ⟨m, rfl⟩ : ∃ m', m = m' + 1 := ⟨m - 1, by omega⟩
      rw [PK.spec_ArenaOk.l1] at h
      rw [spec_ArenaOk.c8]
      try simp only [w64_eq, wu8_eq, gt_iff_lt, ge_iff_le, int_beq, fdiv33, fdiv45, bt_eq, tmodN, rdOfB, rdOfL] at h
      try simp only [shlR]
      try simp only [w64_eq, wu8_eq, gt_iff_lt, ge_iff_le, int_beq, fdiv33, fdiv45, bt_eq, tmodN, rdOfB, rdOfL, rdT3_eq, rdT5_eq, seq, maxI, minI, emp_eq, rdn3, rdn88, rdn53, rdn5, rdn4]
      refine (itE h (fun q h => (itE h (fun q h => (itE h (fun q h => (itE h (fun q h => (itE h (fun q h => ?_) (fun q h => ((fun h => ?_) (il1 _ (by omega) _ _ _ _ _ _ h m (by omega)))))) (fun q h => (itE h (fun q h => ((fun h => ?_) (il1 _ (by omega) _ _ _ _ _ _ h m (by omega)))) (fun q h => (bnE h (fun _ g h => (fun g => (itE h (fun q h => (itE h (fun q h => (itE h (fun q h => (itE h (fun q h => ((fun h => ?_) (il1 _ (by omega) _ _ _ _ _ _ h m (by omega)))) (fun q h => ?_))) (fun q h => (noE h)))) (fun q h => (noE h)))) (fun q h => ?_))) (spec_l01In.rel m _ _ _ _ g m (by omega))))))))) (fun q h => (noE h)))) (fun q h => (noE h)))) (fun q h => ((fun h => ?_) (il0 _ (by omega) _ _ _ h m (by omega)))))
      all_goals clear il0 il1
      all_goals (try cases h)
      all_goals (try simp only [*, if_true, if_false, ↓reduceIte, Option.bind_some, List.length_cons, List.length_nil, List.length_append, Bool.not_true, Bool.not_false, Bool.true_eq_false, Bool.false_eq_true])
      all_goals (repeat first | rw [if_pos (by omega)] | rw [if_neg (by omega)])
      all_goals first | exact h | apply h | rfl | (simp_all [-Bool.forall_bool]; done) | (simp_all [-Bool.forall_bool]; first | exact h | apply h) | (simp_all [-Bool.forall_bool, emp_eq, int_beq]; done) | (simp_all [-Bool.forall_bool]; (intros; simp_all; done)) | (simp_all [-Bool.forall_bool, rdset3, rdset88, rdset53, rdset5, rdset4]; done) | grind
theorem spec_ArenaOk.rel (k : Nat) (l0_0 : List (S88)) (r) (h : PK.spec_ArenaOk.f k l0_0 = some r) (m : Nat) (hm : k ≤ m) : spec_ArenaOk.f m l0_0 = some r := by
  have il0 := fun k' (_ : k' < k + 1) => (spec_ArenaOk.rel_l k').1
  have il1 := fun k' (_ : k' < k + 1) => (spec_ArenaOk.rel_l k').2
  rw [PK.spec_ArenaOk.f] at h
  rw [spec_ArenaOk.f]
  try simp only [w64_eq, wu8_eq, gt_iff_lt, ge_iff_le, int_beq, fdiv33, fdiv45, bt_eq, tmodN, rdOfB, rdOfL] at h
  try simp only [shlR]
  try simp only [w64_eq, wu8_eq, gt_iff_lt, ge_iff_le, int_beq, fdiv33, fdiv45, bt_eq, tmodN, rdOfB, rdOfL, rdT3_eq, rdT5_eq, seq, maxI, minI, emp_eq, rdn3, rdn88, rdn53, rdn5, rdn4]
  refine ((fun h => ?_) (il0 _ (by omega) _ _ _ h m (by omega)))
  all_goals clear il0 il1
  all_goals (try cases h)
  all_goals (try simp only [*, if_true, if_false, ↓reduceIte, Option.bind_some, List.length_cons, List.length_nil, List.length_append, Bool.not_true, Bool.not_false, Bool.true_eq_false, Bool.false_eq_true])
  all_goals (repeat first | rw [if_pos (by omega)] | rw [if_neg (by omega)])
  all_goals first | exact h | apply h | rfl | (simp_all [-Bool.forall_bool]; done) | (simp_all [-Bool.forall_bool]; first | exact h | apply h) | (simp_all [-Bool.forall_bool, emp_eq, int_beq]; done) | (simp_all [-Bool.forall_bool]; (intros; simp_all; done)) | (simp_all [-Bool.forall_bool, rdset3, rdset88, rdset53, rdset5, rdset4]; done) | grind
end Go.Proofs.Yteideicglgpfiaa.M2

/- What the print's plain functions answer, the own ones answer. Written by a program of this session. -/
namespace Go.Proofs.Yteideicglgpfiaa.M2
open Go Go.RowKit Go.Proofs.YteideicglgpfiaaW.PrintWords Go.Proofs.Yteideicglgpfiaa.PK
set_option linter.unusedVariables false
set_option linter.unusedSimpArgs false
theorem impl_in.rel (k : Nat) (a0 : Int) (a1 : Int) (a2 : Int) (r) (h : PK.impl_in.f a0 a1 a2 = some r) (m : Nat) (hm : k ≤ m) : impl_in.f m a0 a1 a2 = some r := by
  rw [PK.impl_in.f] at h
  rw [impl_in.f]
  try simp only [w64_eq, wu8_eq, gt_iff_lt, ge_iff_le, int_beq, fdiv33, fdiv45, bt_eq, tmodN, rdOfB, rdOfL] at h
  try simp only [shlR]
  try simp only [w64_eq, wu8_eq, gt_iff_lt, ge_iff_le, int_beq, fdiv33, fdiv45, bt_eq, tmodN, rdOfB, rdOfL, rdT3_eq, rdT5_eq, seq, maxI, minI, emp_eq, rdn3, rdn88, rdn53, rdn5, rdn4]
  refine (itE h (fun q h => ?_) (fun q h => ?_))
  all_goals (try cases h)
  all_goals (try simp only [*, if_true, if_false, ↓reduceIte, Option.bind_some, List.length_cons, List.length_nil, List.length_append, Bool.not_true, Bool.not_false, Bool.true_eq_false, Bool.false_eq_true])
  all_goals (repeat first | rw [if_pos (by omega)] | rw [if_neg (by omega)])
  all_goals first | exact h | apply h | rfl | (simp_all [-Bool.forall_bool]; done) | (simp_all [-Bool.forall_bool]; first | exact h | apply h) | (simp_all [-Bool.forall_bool, emp_eq, int_beq]; done) | (simp_all [-Bool.forall_bool]; (intros; simp_all; done)) | (simp_all [-Bool.forall_bool, rdset3, rdset88, rdset53, rdset5, rdset4]; done) | grind

theorem impl_RecOk.rel (k : Nat) (a0_0 : Int) (a0_1 : Int) (a0_2 : Int) (a0_3 : Int) (r) (h : PK.impl_RecOk.f k a0_0 a0_1 a0_2 a0_3 = some r) (m : Nat) (hm : k ≤ m) : impl_RecOk.f m a0_0 a0_1 a0_2 a0_3 = some r := by
  rw [PK.impl_RecOk.f] at h
  rw [impl_RecOk.f]
  try simp only [w64_eq, wu8_eq, gt_iff_lt, ge_iff_le, int_beq, fdiv33, fdiv45, bt_eq, tmodN, rdOfB, rdOfL] at h
  try simp only [shlR]
  try simp only [w64_eq, wu8_eq, gt_iff_lt, ge_iff_le, int_beq, fdiv33, fdiv45, bt_eq, tmodN, rdOfB, rdOfL, rdT3_eq, rdT5_eq, seq, maxI, minI, emp_eq, rdn3, rdn88, rdn53, rdn5, rdn4]
  refine (itE h (fun q h => (itE h (fun q h => (bnE h (fun _ g h => (fun g => (itE h (fun q h => ?_) (fun q h => ?_))) (impl_in.rel m _ _ _ _ g m (by omega))))) (fun q h => ?_))) (fun q h => (bnE h (fun _ g h => (fun g => (itE h (fun q h => (itE h (fun q h => (by cases k with | zero => (simp only [PK.impl_RecOk.j0] at h; cases h) | succ k => (rw [PK.impl_RecOk.j0] at h; (try simp only [w64_eq, wu8_eq, gt_iff_lt, ge_iff_le, int_beq, fdiv33, fdiv45, bt_eq, tmodN, rdOfB, rdOfL] at h); refine (itE h (fun q h => ?_) (fun q h => (itE h (fun q h => (bnE h (fun _ g h => (fun g => ?_) (impl_in.rel m _ _ _ _ g m (by omega))))) (fun q h => (itE h (fun q h => ?_) (fun q h => (itE h (fun q h => (bnE h (fun _ g h => (fun g => (itE h (fun q h => (bnE h (fun _ g h => (fun g => ?_) (impl_in.rel m _ _ _ _ g m (by omega))))) (fun q h => ?_))) (impl_in.rel m _ _ _ _ g m (by omega))))) (fun q h => (itE h (fun q h => (bnE h (fun _ g h => (fun g => ?_) (impl_in.rel m _ _ _ _ g m (by omega))))) (fun q h => ?_)))))))))) <;> ((try cases h); (try simp only [*, if_true, if_false, ↓reduceIte, Option.bind_some, List.length_cons, List.length_nil, List.length_append, Bool.not_true, Bool.not_false, Bool.true_eq_false, Bool.false_eq_true]); all_goals (repeat first | rw [if_pos (by omega)] | rw [if_neg (by omega)]); all_goals (first | exact h | apply h | rfl | (simp_all [-Bool.forall_bool]; done) | (simp_all [-Bool.forall_bool]; first | exact h | apply h) | (simp_all [-Bool.forall_bool, emp_eq, int_beq]; done) | (simp_all [-Bool.forall_bool]; (intros; simp_all; done)) | (simp_all [-Bool.forall_bool, rdset3, rdset88, rdset53, rdset5, rdset4]; done) | grind))))) (fun q h => (by cases k with | zero => (simp only [PK.impl_RecOk.j0] at h; cases h) | succ k => (rw [PK.impl_RecOk.j0] at h; (try simp only [w64_eq, wu8_eq, gt_iff_lt, ge_iff_le, int_beq, fdiv33, fdiv45, bt_eq, tmodN, rdOfB, rdOfL] at h); refine (itE h (fun q h => ?_) (fun q h => (itE h (fun q h => (bnE h (fun _ g h => (fun g => ?_) (impl_in.rel m _ _ _ _ g m (by omega))))) (fun q h => (itE h (fun q h => ?_) (fun q h => (itE h (fun q h => (bnE h (fun _ g h => (fun g => (itE h (fun q h => (bnE h (fun _ g h => (fun g => ?_) (impl_in.rel m _ _ _ _ g m (by omega))))) (fun q h => ?_))) (impl_in.rel m _ _ _ _ g m (by omega))))) (fun q h => (itE h (fun q h => (bnE h (fun _ g h => (fun g => ?_) (impl_in.rel m _ _ _ _ g m (by omega))))) (fun q h => ?_)))))))))) <;> ((try cases h); (try simp only [*, if_true, if_false, ↓reduceIte, Option.bind_some, List.length_cons, List.length_nil, List.length_append, Bool.not_true, Bool.not_false, Bool.true_eq_false, Bool.false_eq_true]); all_goals (repeat first | rw [if_pos (by omega)] | rw [if_neg (by omega)]); all_goals (first | exact h | apply h | rfl | (simp_all [-Bool.forall_bool]; done) | (simp_all [-Bool.forall_bool]; first | exact h | apply h) | (simp_all [-Bool.forall_bool, emp_eq, int_beq]; done) | (simp_all [-Bool.forall_bool]; (intros; simp_all; done)) | (simp_all [-Bool.forall_bool, rdset3, rdset88, rdset53, rdset5, rdset4]; done) | grind))))))) (fun q h => (by cases k with | zero => (simp only [PK.impl_RecOk.j0] at h; cases h) | succ k => (rw [PK.impl_RecOk.j0] at h; (try simp only [w64_eq, wu8_eq, gt_iff_lt, ge_iff_le, int_beq, fdiv33, fdiv45, bt_eq, tmodN, rdOfB, rdOfL] at h); refine (itE h (fun q h => ?_) (fun q h => (itE h (fun q h => (bnE h (fun _ g h => (fun g => ?_) (impl_in.rel m _ _ _ _ g m (by omega))))) (fun q h => (itE h (fun q h => ?_) (fun q h => (itE h (fun q h => (bnE h (fun _ g h => (fun g => (itE h (fun q h => (bnE h (fun _ g h => (fun g => ?_) (impl_in.rel m _ _ _ _ g m (by omega))))) (fun q h => ?_))) (impl_in.rel m _ _ _ _ g m (by omega))))) (fun q h => (itE h (fun q h => (bnE h (fun _ g h => (fun g => ?_) (impl_in.rel m _ _ _ _ g m (by omega))))) (fun q h => ?_)))))))))) <;> ((try cases h); (try simp only [*, if_true, if_false, ↓reduceIte, Option.bind_some, List.length_cons, List.length_nil, List.length_append, Bool.not_true, Bool.not_false, Bool.true_eq_false, Bool.false_eq_true]); all_goals (repeat first | rw [if_pos (by omega)] | rw [if_neg (by omega)]); all_goals (first | exact h | apply h | rfl | (simp_all [-Bool.forall_bool]; done) | (simp_all [-Bool.forall_bool]; first | exact h | apply h) | (simp_all [-Bool.forall_bool, emp_eq, int_beq]; done) | (simp_all [-Bool.forall_bool]; (intros; simp_all; done)) | (simp_all [-Bool.forall_bool, rdset3, rdset88, rdset53, rdset5, rdset4]; done) | grind))))))) (impl_in.rel m _ _ _ _ g m (by omega))))))
  all_goals (try cases h)
  all_goals (try simp only [*, if_true, if_false, ↓reduceIte, Option.bind_some, List.length_cons, List.length_nil, List.length_append, Bool.not_true, Bool.not_false, Bool.true_eq_false, Bool.false_eq_true])
  all_goals (repeat first | rw [if_pos (by omega)] | rw [if_neg (by omega)])
  all_goals first | exact h | apply h | rfl | (simp_all [-Bool.forall_bool]; done) | (simp_all [-Bool.forall_bool]; first | exact h | apply h) | (simp_all [-Bool.forall_bool, emp_eq, int_beq]; done) | (simp_all [-Bool.forall_bool]; (intros; simp_all; done)) | (simp_all [-Bool.forall_bool, rdset3, rdset88, rdset53, rdset5, rdset4]; done) | grind
end Go.Proofs.Yteideicglgpfiaa.M2

/- What the print's plain functions answer, the own ones answer. Written by a program of this session. -/
namespace Go.Proofs.Yteideicglgpfiaa.M2
open Go Go.RowKit Go.Proofs.YteideicglgpfiaaW.PrintWords Go.Proofs.Yteideicglgpfiaa.PK
set_option linter.unusedVariables false
set_option linter.unusedSimpArgs false
theorem impl_ArenaOk.rel_l (k : Nat) : (∀ x8 x9 x10 x496000 r, PK.impl_ArenaOk.l0 k x8 x9 x10 x496000 = some r → ∀ m, k ≤ m → impl_ArenaOk.c2 m x8 x9 x10 x496000 = some r) ∧ (∀ x3 x8 x9 x10 x20 x21 x22 x496000 x498000 x498001 r, PK.impl_ArenaOk.l1 k x3 x8 x9 x10 x20 x21 x22 x496000 x498000 x498001 = some r → ∀ m, k ≤ m → impl_ArenaOk.c7 m x3 x8 x9 x10 x20 x21 x22 x496000 x498000 x498001 = some r) := by
  induction k using Nat.strongRecOn with
  | _ k ih =>
  have il0 := fun k' hk' => (ih k' hk').1
  have il1 := fun k' hk' => (ih k' hk').2
  clear ih
  refine ⟨?_, ?_⟩
  · intro x8 x9 x10 x496000 r h m hm
    cases k with
    | zero => simp only [PK.impl_ArenaOk.l0] at h; cases h
    | succ k =>
      obtain ⟨m, rfl⟩ : ∃ m', m = m' + 1 := ⟨m - 1, by omega⟩
      rw [PK.impl_ArenaOk.l0] at h
      rw [impl_ArenaOk.c2]
      try simp only [w64_eq, wu8_eq, gt_iff_lt, ge_iff_le, int_beq, fdiv33, fdiv45, bt_eq, tmodN, rdOfB, rdOfL] at h
      try simp only [shlR]
      try simp only [w64_eq, wu8_eq, gt_iff_lt, ge_iff_le, int_beq, fdiv33, fdiv45, bt_eq, tmodN, rdOfB, rdOfL, rdT3_eq, rdT5_eq, seq, maxI, minI, emp_eq, rdn3, rdn88, rdn53, rdn5, rdn4]
      refine (itE h (fun q h => (itE h (fun q h => (itE h (fun q h => (itE h (fun q h => ((fun h => ?_) (il1 _ (by omega) _ _ _ _ _ _ _ _ _ _ _ h m (by omega)))) (fun q h => ?_))) (fun q h => (noE h)))) (fun q h => (noE h)))) (fun q h => ?_))
      all_goals clear il0 il1
      all_goals (try cases h)
      all_goals (try simp only [*, if_true, if_false, ↓reduceIte, Option.bind_some, List.length_cons, List.length_nil, List.length_append, Bool.not_true, Bool.not_false, Bool.true_eq_false, Bool.false_eq_true])
      all_goals (repeat first | rw [if_pos (by omega)] | rw [if_neg (by omega)])
      all_goals first | exact h | apply h | rfl | (simp_all [-Bool.forall_bool]; done) | (simp_all [-Bool.forall_bool]; first | exact h | apply h) | (simp_all [-Bool.forall_bool, emp_eq, int_beq]; done) | (simp_all [-Bool.forall_bool]; (intros; simp_all; done)) | (simp_all [-Bool.forall_bool, rdset3, rdset88, rdset53, rdset5, rdset4]; done) | grind
  · intro x3 x8 x9 x10 x20 x21 x22 x496000 x498000 x498001 r h m hm
    cases k with
    | zero => simp only [PK.impl_ArenaOk.l1] at h; cases h
    | succ k =>
      obtain ⟨m, rfl⟩ : ∃ m', m = m' + 1 := ⟨m - 1, by omega⟩
      rw [PK.impl_ArenaOk.l1] at h
      rw [impl_ArenaOk.c7]
      try simp only [w64_eq, wu8_eq, gt_iff_lt, ge_iff_le, int_beq, fdiv33, fdiv45, bt_eq, tmodN, rdOfB, rdOfL] at h
      try simp only [shlR]
      try simp only [w64_eq, wu8_eq, gt_iff_lt, ge_iff_le, int_beq, fdiv33, fdiv45, bt_eq, tmodN, rdOfB, rdOfL, rdT3_eq, rdT5_eq, seq, maxI, minI, emp_eq, rdn3, rdn88, rdn53, rdn5, rdn4]
      refine (itE h (fun q h => (itE h (fun q h => (itE h (fun q h => (itE h (fun q h => (itE h (fun q h => ?_) (fun q h => ((fun h => ?_) (il1 _ (by omega) _ _ _ _ _ _ _ _ _ _ _ h m (by omega)))))) (fun q h => (itE h (fun q h => ((fun h => ?_) (il1 _ (by omega) _ _ _ _ _ _ _ _ _ _ _ h m (by omega)))) (fun q h => (bnE h (fun _ g h => (fun g => (itE h (fun q h => (itE h (fun q h => (itE h (fun q h => (itE h (fun q h => ((fun h => ?_) (il1 _ (by omega) _ _ _ _ _ _ _ _ _ _ _ h m (by omega)))) (fun q h => ?_))) (fun q h => (noE h)))) (fun q h => (noE h)))) (fun q h => ?_))) (impl_in.rel m _ _ _ _ g m (by omega))))))))) (fun q h => (noE h)))) (fun q h => (noE h)))) (fun q h => ((fun h => ?_) (il0 _ (by omega) _ _ _ _ _ h m (by omega)))))
      all_goals clear il0 il1
      all_goals (try cases h)
      all_goals (try simp only [*, if_true, if_false, ↓reduceIte, Option.bind_some, List.length_cons, List.length_nil, List.length_append, Bool.not_true, Bool.not_false, Bool.true_eq_false, Bool.false_eq_true])
      all_goals (repeat first | rw [if_pos (by omega)] | rw [if_neg (by omega)])
      all_goals first | exact h | apply h | rfl | (simp_all [-Bool.forall_bool]; done) | (simp_all [-Bool.forall_bool]; first | exact h | apply h) | (simp_all [-Bool.forall_bool, emp_eq, int_beq]; done) | (simp_all [-Bool.forall_bool]; (intros; simp_all; done)) | (simp_all [-Bool.forall_bool, rdset3, rdset88, rdset53, rdset5, rdset4]; done) | grind
theorem impl_ArenaOk.rel (k : Nat) (l0_0 : List (S88)) (r) (h : PK.impl_ArenaOk.f k l0_0 = some r) (m : Nat) (hm : k ≤ m) : impl_ArenaOk.f m l0_0 = some r := by
  have il0 := fun k' (_ : k' < k + 1) => (impl_ArenaOk.rel_l k').1
  have il1 := fun k' (_ : k' < k + 1) => (impl_ArenaOk.rel_l k').2
  rw [PK.impl_ArenaOk.f] at h
  rw [impl_ArenaOk.f]
  try simp only [w64_eq, wu8_eq, gt_iff_lt, ge_iff_le, int_beq, fdiv33, fdiv45, bt_eq, tmodN, rdOfB, rdOfL] at h
  try simp only [shlR]
  try simp only [w64_eq, wu8_eq, gt_iff_lt, ge_iff_le, int_beq, fdiv33, fdiv45, bt_eq, tmodN, rdOfB, rdOfL, rdT3_eq, rdT5_eq, seq, maxI, minI, emp_eq, rdn3, rdn88, rdn53, rdn5, rdn4]
  refine ((fun h => ?_) (il0 _ (by omega) _ _ _ _ _ h m (by omega)))
  all_goals clear il0 il1
  all_goals (try cases h)
  all_goals (try simp only [*, if_true, if_false, ↓reduceIte, Option.bind_some, List.length_cons, List.length_nil, List.length_append, Bool.not_true, Bool.not_false, Bool.true_eq_false, Bool.false_eq_true])
  all_goals (repeat first | rw [if_pos (by omega)] | rw [if_neg (by omega)])
  all_goals first | exact h | apply h | rfl | (simp_all [-Bool.forall_bool]; done) | (simp_all [-Bool.forall_bool]; first | exact h | apply h) | (simp_all [-Bool.forall_bool, emp_eq, int_beq]; done) | (simp_all [-Bool.forall_bool]; (intros; simp_all; done)) | (simp_all [-Bool.forall_bool, rdset3, rdset88, rdset53, rdset5, rdset4]; done) | grind

theorem impl_hasInt.rel_l (k : Nat) : (∀ x1 x7 x8 x9 r, PK.impl_hasInt.l0 k x1 x7 x8 x9 = some r → ∀ m, k ≤ m → impl_hasInt.c2 m x1 x7 x8 x9 = some r) := by
  induction k using Nat.strongRecOn with
  | _ k ih =>
  have il0 := fun k' hk' => (ih k' hk')
  clear ih
  intro x1 x7 x8 x9 r h m hm
  cases k with
  | zero => simp only [PK.impl_hasInt.l0] at h; cases h
  | succ k =>
    obtain ⟨m, rfl⟩ : ∃ m', m = m' + 1 := ⟨m - 1, by omega⟩
    rw [PK.impl_hasInt.l0] at h
    rw [impl_hasInt.c2]
    try simp only [w64_eq, wu8_eq, gt_iff_lt, ge_iff_le, int_beq, fdiv33, fdiv45, bt_eq, tmodN, rdOfB, rdOfL] at h
    try simp only [shlR]
    try simp only [w64_eq, wu8_eq, gt_iff_lt, ge_iff_le, int_beq, fdiv33, fdiv45, bt_eq, tmodN, rdOfB, rdOfL, rdT3_eq, rdT5_eq, seq, maxI, minI, emp_eq, rdn3, rdn88, rdn53, rdn5, rdn4]
    refine (itE h (fun q h => (itE h (fun q h => (itE h (fun q h => (itE h (fun q h => ?_) (fun q h => ((fun h => ?_) (il0 _ (by omega) _ _ _ _ _ h m (by omega)))))) (fun q h => (noE h)))) (fun q h => (noE h)))) (fun q h => ?_))
    all_goals clear il0
    all_goals (try cases h)
    all_goals (try simp only [*, if_true, if_false, ↓reduceIte, Option.bind_some, List.length_cons, List.length_nil, List.length_append, Bool.not_true, Bool.not_false, Bool.true_eq_false, Bool.false_eq_true])
    all_goals (repeat first | rw [if_pos (by omega)] | rw [if_neg (by omega)])
    all_goals first | exact h | apply h | rfl | (simp_all [-Bool.forall_bool]; done) | (simp_all [-Bool.forall_bool]; first | exact h | apply h) | (simp_all [-Bool.forall_bool, emp_eq, int_beq]; done) | (simp_all [-Bool.forall_bool]; (intros; simp_all; done)) | (simp_all [-Bool.forall_bool, rdset3, rdset88, rdset53, rdset5, rdset4]; done) | grind
theorem impl_hasInt.rel (k : Nat) (l0 : List Int) (a1 : Int) (r) (h : PK.impl_hasInt.f k l0 a1 = some r) (m : Nat) (hm : k ≤ m) : impl_hasInt.f m l0 a1 = some r := by
  have il0 := fun k' (_ : k' < k + 1) => (impl_hasInt.rel_l k')
  rw [PK.impl_hasInt.f] at h
  rw [impl_hasInt.f]
  try simp only [w64_eq, wu8_eq, gt_iff_lt, ge_iff_le, int_beq, fdiv33, fdiv45, bt_eq, tmodN, rdOfB, rdOfL] at h
  try simp only [shlR]
  try simp only [w64_eq, wu8_eq, gt_iff_lt, ge_iff_le, int_beq, fdiv33, fdiv45, bt_eq, tmodN, rdOfB, rdOfL, rdT3_eq, rdT5_eq, seq, maxI, minI, emp_eq, rdn3, rdn88, rdn53, rdn5, rdn4]
  refine ((fun h => ?_) (il0 _ (by omega) _ _ _ _ _ h m (by omega)))
  all_goals clear il0
  all_goals (try cases h)
  all_goals (try simp only [*, if_true, if_false, ↓reduceIte, Option.bind_some, List.length_cons, List.length_nil, List.length_append, Bool.not_true, Bool.not_false, Bool.true_eq_false, Bool.false_eq_true])
  all_goals (repeat first | rw [if_pos (by omega)] | rw [if_neg (by omega)])
  all_goals first | exact h | apply h | rfl | (simp_all [-Bool.forall_bool]; done) | (simp_all [-Bool.forall_bool]; first | exact h | apply h) | (simp_all [-Bool.forall_bool, emp_eq, int_beq]; done) | (simp_all [-Bool.forall_bool]; (intros; simp_all; done)) | (simp_all [-Bool.forall_bool, rdset3, rdset88, rdset53, rdset5, rdset4]; done) | grind
end Go.Proofs.Yteideicglgpfiaa.M2

/- What the print's plain functions answer, the own ones answer. Written by a program of this session. -/
namespace Go.Proofs.Yteideicglgpfiaa.M2
open Go Go.RowKit Go.Proofs.YteideicglgpfiaaW.PrintWords Go.Proofs.Yteideicglgpfiaa.PK
set_option linter.unusedVariables false
set_option linter.unusedSimpArgs false
theorem impl_isRoot.rel (k : Nat) (l0_0 : List (S88)) (a1 : Int) (r) (h : PK.impl_isRoot.f l0_0 a1 = some r) (m : Nat) (hm : k ≤ m) : impl_isRoot.f m l0_0 a1 = some r := by
  rw [PK.impl_isRoot.f] at h
  rw [impl_isRoot.f]
  try simp only [w64_eq, wu8_eq, gt_iff_lt, ge_iff_le, int_beq, fdiv33, fdiv45, bt_eq, tmodN, rdOfB, rdOfL] at h
  try simp only [shlR]
  try simp only [w64_eq, wu8_eq, gt_iff_lt, ge_iff_le, int_beq, fdiv33, fdiv45, bt_eq, tmodN, rdOfB, rdOfL, rdT3_eq, rdT5_eq, seq, maxI, minI, emp_eq, rdn3, rdn88, rdn53, rdn5, rdn4]
  refine (bnE h (fun _ g h => (fun g => (itE h (fun q h => (itE h (fun q h => (itE h (fun q h => ?_) (fun q h => (noE h)))) (fun q h => (noE h)))) (fun q h => ?_))) (impl_in.rel m _ _ _ _ g m (by omega))))
  all_goals (try cases h)
  all_goals (try simp only [*, if_true, if_false, ↓reduceIte, Option.bind_some, List.length_cons, List.length_nil, List.length_append, Bool.not_true, Bool.not_false, Bool.true_eq_false, Bool.false_eq_true])
  all_goals (repeat first | rw [if_pos (by omega)] | rw [if_neg (by omega)])
  all_goals first | exact h | apply h | rfl | (simp_all [-Bool.forall_bool]; done) | (simp_all [-Bool.forall_bool]; first | exact h | apply h) | (simp_all [-Bool.forall_bool, emp_eq, int_beq]; done) | (simp_all [-Bool.forall_bool]; (intros; simp_all; done)) | (simp_all [-Bool.forall_bool, rdset3, rdset88, rdset53, rdset5, rdset4]; done) | grind

theorem impl_knotsOf.rel_l (k : Nat) : (∀ x5 x19 x20 x21 x506000 r, PK.impl_knotsOf.l0 k x5 x19 x20 x21 x506000 = some r → ∀ m, k ≤ m → impl_knotsOf.c5 m x19 x20 x21 x506000 x5 = some r) := by
  induction k using Nat.strongRecOn with
  | _ k ih =>
  have il0 := fun k' hk' => (ih k' hk')
  clear ih
  intro x5 x19 x20 x21 x506000 r h m hm
  cases k with
  | zero => simp only [PK.impl_knotsOf.l0] at h; cases h
  | succ k =>
    obtain ⟨m, rfl⟩ : ∃ m', m = m' + 1 := ⟨m - 1, by omega⟩
    rw [PK.impl_knotsOf.l0] at h
    rw [impl_knotsOf.c5]
    try simp only [w64_eq, wu8_eq, gt_iff_lt, ge_iff_le, int_beq, fdiv33, fdiv45, bt_eq, tmodN, rdOfB, rdOfL] at h
    try simp only [shlR]
    try simp only [w64_eq, wu8_eq, gt_iff_lt, ge_iff_le, int_beq, fdiv33, fdiv45, bt_eq, tmodN, rdOfB, rdOfL, rdT3_eq, rdT5_eq, seq, maxI, minI, emp_eq, rdn3, rdn88, rdn53, rdn5, rdn4]
    refine (itE h (fun q h => (itE h (fun q h => (itE h (fun q h => (bnE h (fun _ g h => (fun g => (itE h (fun q h => (bnE h (fun _ g h => (fun g => (itE h (fun q h => ((fun h => ?_) (il0 _ (by omega) _ _ _ _ _ _ h m (by omega)))) (fun q h => (itE h (fun q h => ((fun h => ?_) (il0 _ (by omega) _ _ _ _ _ _ h m (by omega)))) (fun q h => (noE h)))))) (impl_hasInt.rel _ _ _ _ g m (by omega))))) (fun q h => ((fun h => ?_) (il0 _ (by omega) _ _ _ _ _ _ h m (by omega)))))) (impl_in.rel m _ _ _ _ g m (by omega))))) (fun q h => (noE h)))) (fun q h => (noE h)))) (fun q h => ?_))
    all_goals clear il0
    all_goals (try cases h)
    all_goals (try simp only [*, if_true, if_false, ↓reduceIte, Option.bind_some, List.length_cons, List.length_nil, List.length_append, Bool.not_true, Bool.not_false, Bool.true_eq_false, Bool.false_eq_true])
    all_goals (repeat first | rw [if_pos (by omega)] | rw [if_neg (by omega)])
    all_goals first | exact h | apply h | rfl | (simp_all [-Bool.forall_bool]; done) | (simp_all [-Bool.forall_bool]; first | exact h | apply h) | (simp_all [-Bool.forall_bool, emp_eq, int_beq]; done) | (simp_all [-Bool.forall_bool]; (intros; simp_all; done)) | (simp_all [-Bool.forall_bool, rdset3, rdset88, rdset53, rdset5, rdset4]; done) | grind
theorem impl_knotsOf.rel (k : Nat) (l0_0 : List (S88)) (a1 : Int) (r) (h : PK.impl_knotsOf.f k l0_0 a1 = some r) (m : Nat) (hm : k ≤ m) : impl_knotsOf.f m l0_0 a1 = some r := by
  have il0 := fun k' (_ : k' < k + 1) => (impl_knotsOf.rel_l k')
  rw [PK.impl_knotsOf.f] at h
  rw [impl_knotsOf.f]
  try simp only [w64_eq, wu8_eq, gt_iff_lt, ge_iff_le, int_beq, fdiv33, fdiv45, bt_eq, tmodN, rdOfB, rdOfL] at h
  try simp only [shlR]
  try simp only [w64_eq, wu8_eq, gt_iff_lt, ge_iff_le, int_beq, fdiv33, fdiv45, bt_eq, tmodN, rdOfB, rdOfL, rdT3_eq, rdT5_eq, seq, maxI, minI, emp_eq, rdn3, rdn88, rdn53, rdn5, rdn4]
  refine (bnE h (fun _ g h => (fun g => (itE h (fun q h => (itE h (fun q h => (itE h (fun q h => ((fun h => ?_) (il0 _ (by omega) _ _ _ _ _ _ h m (by omega)))) (fun q h => (noE h)))) (fun q h => (noE h)))) (fun q h => ?_))) (impl_isRoot.rel m _ _ _ g m (by omega))))
  all_goals clear il0
  all_goals (try cases h)
  all_goals (try simp only [*, if_true, if_false, ↓reduceIte, Option.bind_some, List.length_cons, List.length_nil, List.length_append, Bool.not_true, Bool.not_false, Bool.true_eq_false, Bool.false_eq_true])
  all_goals (repeat first | rw [if_pos (by omega)] | rw [if_neg (by omega)])
  all_goals first | exact h | apply h | rfl | (simp_all [-Bool.forall_bool]; done) | (simp_all [-Bool.forall_bool]; first | exact h | apply h) | (simp_all [-Bool.forall_bool, emp_eq, int_beq]; done) | (simp_all [-Bool.forall_bool]; (intros; simp_all; done)) | (simp_all [-Bool.forall_bool, rdset3, rdset88, rdset53, rdset5, rdset4]; done) | grind

theorem impl_StoreOk.rel_l (k : Nat) : (∀ x3 x27 x28 x29 x518000 x518001 x518002 r, PK.impl_StoreOk.l0 k x3 x27 x28 x29 x518000 x518001 x518002 = some r → ∀ m, k ≤ m → impl_StoreOk.c5 m x27 x28 x29 x518000 x518001 x518002 x3 = some r) ∧ (∀ x3 x77 x78 x79 x518000 x518001 x518002 r, PK.impl_StoreOk.l1 k x3 x77 x78 x79 x518000 x518001 x518002 = some r → ∀ m, k ≤ m → impl_StoreOk.c12 m x77 x78 x79 x518000 x518001 x518002 x3 = some r) ∧ (∀ x3 x77 x78 x79 x89 x90 x91 x518000 x518001 x518002 x552000 x552001 r, PK.impl_StoreOk.l2 k x3 x77 x78 x79 x89 x90 x91 x518000 x518001 x518002 x552000 x552001 = some r → ∀ m, k ≤ m → impl_StoreOk.c17 m x77 x78 x79 x89 x90 x91 x518000 x518001 x518002 x3 x552000 x552001 = some r) := by
  induction k using Nat.strongRecOn with
  | _ k ih =>
  have il0 := fun k' hk' => (ih k' hk').1
  have il1 := fun k' hk' => (ih k' hk').2.1
  have il2 := fun k' hk' => (ih k' hk').2.2
  clear ih
  refine ⟨?_, ?_, ?_⟩
  · intro x3 x27 x28 x29 x518000 x518001 x518002 r h m hm
    cases k with
    | zero => simp only [PK.impl_StoreOk.l0] at h; cases h
    | succ k =>
      obtain ⟨m, rfl⟩ : ∃ m', m = m' + 1 := ⟨m - 1, by omega⟩
      rw [PK.impl_StoreOk.l0] at h
      rw [impl_StoreOk.c5]
      try simp only [w64_eq, wu8_eq, gt_iff_lt, ge_iff_le, int_beq, fdiv33, fdiv45, bt_eq, tmodN, rdOfB, rdOfL] at h
      try simp only [shlR]
      try simp only [w64_eq, wu8_eq, gt_iff_lt, ge_iff_le, int_beq, fdiv33, fdiv45, bt_eq, tmodN, rdOfB, rdOfL, rdT3_eq, rdT5_eq, seq, maxI, minI, emp_eq, rdn3, rdn88, rdn53, rdn5, rdn4]
      refine (itE h (fun q h => (itE h (fun q h => (itE h (fun q h => (bnE h (fun _ g h => (fun g => (itE h (fun q h => (itE h (fun q h => (itE h (fun q h => (itE h (fun q h => (itE h (fun q h => ?_) (fun q h => (itE h (fun q h => (bnE h (fun _ g h => (fun g => (itE h (fun q h => ((fun h => ?_) (il0 _ (by omega) _ _ _ _ _ _ _ _ h m (by omega)))) (fun q h => (noE h)))) (impl_knotsOf.rel _ _ _ _ g m (by omega))))) (fun q h => (bnE h (fun _ g h => (fun g => (itE h (fun q h => (bnE h (fun _ g h => (fun g => (itE h (fun q h => ((fun h => ?_) (il0 _ (by omega) _ _ _ _ _ _ _ _ h m (by omega)))) (fun q h => (noE h)))) (impl_knotsOf.rel _ _ _ _ g m (by omega))))) (fun q h => ?_))) (impl_isRoot.rel m _ _ _ g m (by omega))))))))) (fun q h => (noE h)))) (fun q h => (noE h)))) (fun q h => (itE h (fun q h => (bnE h (fun _ g h => (fun g => (itE h (fun q h => ((fun h => ?_) (il0 _ (by omega) _ _ _ _ _ _ _ _ h m (by omega)))) (fun q h => (noE h)))) (impl_knotsOf.rel _ _ _ _ g m (by omega))))) (fun q h => (bnE h (fun _ g h => (fun g => (itE h (fun q h => (bnE h (fun _ g h => (fun g => (itE h (fun q h => ((fun h => ?_) (il0 _ (by omega) _ _ _ _ _ _ _ _ h m (by omega)))) (fun q h => (noE h)))) (impl_knotsOf.rel _ _ _ _ g m (by omega))))) (fun q h => ?_))) (impl_isRoot.rel m _ _ _ g m (by omega))))))))) (fun q h => ?_))) (impl_in.rel m _ _ _ _ g m (by omega))))) (fun q h => (noE h)))) (fun q h => (noE h)))) (fun q h => ((fun h => ?_) (il1 _ (by omega) _ _ _ _ _ _ _ _ h m (by omega)))))
      all_goals clear il0 il1 il2
      all_goals (try cases h)
      all_goals (try simp only [*, if_true, if_false, ↓reduceIte, Option.bind_some, List.length_cons, List.length_nil, List.length_append, Bool.not_true, Bool.not_false, Bool.true_eq_false, Bool.false_eq_true])
      all_goals (repeat first | rw [if_pos (by omega)] | rw [if_neg (by omega)])
      all_goals first | exact h | apply h | rfl | (simp_all [-Bool.forall_bool]; done) | (simp_all [-Bool.forall_bool]; first | exact h | apply h) | (simp_all [-Bool.forall_bool, emp_eq, int_beq]; done) | (simp_all [-Bool.forall_bool]; (intros; simp_all; done)) | (simp_all [-Bool.forall_bool, rdset3, rdset88, rdset53, rdset5, rdset4]; done) | grind
  · intro x3 x77 x78 x79 x518000 x518001 x518002 r h m hm
    cases k with
    | zero => simp only [PK.impl_StoreOk.l1] at h; cases h
    | succ k =>
      obtain ⟨m, rfl⟩ : ∃ m', m = m' + 1 := ⟨m - 1, by omega⟩
      rw [PK.impl_StoreOk.l1] at h
      rw [impl_StoreOk.c12]
      try simp only [w64_eq, wu8_eq, gt_iff_lt, ge_iff_le, int_beq, fdiv33, fdiv45, bt_eq, tmodN, rdOfB, rdOfL] at h
      try simp only [shlR]
      try simp only [w64_eq, wu8_eq, gt_iff_lt, ge_iff_le, int_beq, fdiv33, fdiv45, bt_eq, tmodN, rdOfB, rdOfL, rdT3_eq, rdT5_eq, seq, maxI, minI, emp_eq, rdn3, rdn88, rdn53, rdn5, rdn4]
      refine (itE h (fun q h => (itE h (fun q h => (itE h (fun q h => (bnE h (fun _ g h => (fun g => (itE h (fun q h => ((fun h => ?_) (il2 _ (by omega) _ _ _ _ _ _ _ _ _ _ _ _ _ h m (by omega)))) (fun q h => ?_))) (impl_hasInt.rel _ _ _ _ g m (by omega))))) (fun q h => (noE h)))) (fun q h => (noE h)))) (fun q h => ?_))
      all_goals clear il0 il1 il2
      all_goals (try cases h)
      all_goals (try simp only [*, if_true, if_false, ↓reduceIte, Option.bind_some, List.length_cons, List.length_nil, List.length_append, Bool.not_true, Bool.not_false, Bool.true_eq_false, Bool.false_eq_true])
      all_goals (repeat first | rw [if_pos (by omega)] | rw [if_neg (by omega)])
      all_goals first | exact h | apply h | rfl | (simp_all [-Bool.forall_bool]; done) | (simp_all [-Bool.forall_bool]; first | exact h | apply h) | (simp_all [-Bool.forall_bool, emp_eq, int_beq]; done) | (simp_all [-Bool.forall_bool]; (intros; simp_all; done)) | (simp_all [-Bool.forall_bool, rdset3, rdset88, rdset53, rdset5, rdset4]; done) | grind
  · intro x3 x77 x78 x79 x89 x90 x91 x518000 x518001 x518002 x552000 x552001 r h m hm
    cases k with
    | zero => simp only [PK.impl_StoreOk.l2] at h; cases h
    | succ k =>
      obtain ⟨m, rfl⟩ : ∃ m', m = m' + 1 := ⟨m - 1, by omega⟩
      rw [PK.impl_StoreOk.l2] at h
      rw [impl_StoreOk.c17]
      try simp only [w64_eq, wu8_eq, gt_iff_lt, ge_iff_le, int_beq, fdiv33, fdiv45, bt_eq, tmodN, rdOfB, rdOfL] at h
      try simp only [shlR]
      try simp only [w64_eq, wu8_eq, gt_iff_lt, ge_iff_le, int_beq, fdiv33, fdiv45, bt_eq, tmodN, rdOfB, rdOfL, rdT3_eq, rdT5_eq, seq, maxI, minI, emp_eq, rdn3, rdn88, rdn53, rdn5, rdn4]
      refine (itE h (fun q h => (itE h (fun q h => (itE h (fun q h => (itE h (fun q h => (itE h (fun q h => ?_) (fun q h => ((fun h => ?_) (il2 _ (by omega) _ _ _ _ _ _ _ _ _ _ _ _ _ h m (by omega)))))) (fun q h => ((fun h => ?_) (il2 _ (by omega) _ _ _ _ _ _ _ _ _ _ _ _ _ h m (by omega)))))) (fun q h => (noE h)))) (fun q h => (noE h)))) (fun q h => ((fun h => ?_) (il1 _ (by omega) _ _ _ _ _ _ _ _ h m (by omega)))))
      all_goals clear il0 il1 il2
      all_goals (try cases h)
      all_goals (try simp only [*, if_true, if_false, ↓reduceIte, Option.bind_some, List.length_cons, List.length_nil, List.length_append, Bool.not_true, Bool.not_false, Bool.true_eq_false, Bool.false_eq_true])
      all_goals (repeat first | rw [if_pos (by omega)] | rw [if_neg (by omega)])
      all_goals first | exact h | apply h | rfl | (simp_all [-Bool.forall_bool]; done) | (simp_all [-Bool.forall_bool]; first | exact h | apply h) | (simp_all [-Bool.forall_bool, emp_eq, int_beq]; done) | (simp_all [-Bool.forall_bool]; (intros; simp_all; done)) | (simp_all [-Bool.forall_bool, rdset3, rdset88, rdset53, rdset5, rdset4]; done) | grind
theorem impl_StoreOk.rel (k : Nat) (l0_0 : List (S53)) (l0_1 : List (S88)) (a0_2 : Int) (r) (h : PK.impl_StoreOk.f k l0_0 l0_1 a0_2 = some r) (m : Nat) (hm : k ≤ m) : impl_StoreOk.f m l0_0 l0_1 a0_2 = some r := by
  have il0 := fun k' (_ : k' < k + 1) => (impl_StoreOk.rel_l k').1
  have il1 := fun k' (_ : k' < k + 1) => (impl_StoreOk.rel_l k').2.1
  have il2 := fun k' (_ : k' < k + 1) => (impl_StoreOk.rel_l k').2.2
  rw [PK.impl_StoreOk.f] at h
  rw [impl_StoreOk.f]
  try simp only [w64_eq, wu8_eq, gt_iff_lt, ge_iff_le, int_beq, fdiv33, fdiv45, bt_eq, tmodN, rdOfB, rdOfL] at h
  try simp only [shlR]
  try simp only [w64_eq, wu8_eq, gt_iff_lt, ge_iff_le, int_beq, fdiv33, fdiv45, bt_eq, tmodN, rdOfB, rdOfL, rdT3_eq, rdT5_eq, seq, maxI, minI, emp_eq, rdn3, rdn88, rdn53, rdn5, rdn4]
  refine (itE h (fun q h => (by cases k with | zero => (simp only [PK.impl_StoreOk.j0] at h; cases h) | succ k => (rw [PK.impl_StoreOk.j0] at h; (try simp only [w64_eq, wu8_eq, gt_iff_lt, ge_iff_le, int_beq, fdiv33, fdiv45, bt_eq, tmodN, rdOfB, rdOfL] at h); refine (itE h (fun q h => ?_) (fun q h => ((fun h => ?_) (il0 _ (by omega) _ _ _ _ _ _ _ _ h m (by omega))))) <;> ((try cases h); (try simp only [*, if_true, if_false, ↓reduceIte, Option.bind_some, List.length_cons, List.length_nil, List.length_append, Bool.not_true, Bool.not_false, Bool.true_eq_false, Bool.false_eq_true]); all_goals (repeat first | rw [if_pos (by omega)] | rw [if_neg (by omega)]); all_goals (first | exact h | apply h | rfl | (simp_all [-Bool.forall_bool]; done) | (simp_all [-Bool.forall_bool]; first | exact h | apply h) | (simp_all [-Bool.forall_bool, emp_eq, int_beq]; done) | (simp_all [-Bool.forall_bool]; (intros; simp_all; done)) | (simp_all [-Bool.forall_bool, rdset3, rdset88, rdset53, rdset5, rdset4]; done) | grind))))) (fun q h => (bnE h (fun _ g h => (fun g => (itE h (fun q h => (bnE h (fun _ g h => (fun g => (by cases k with | zero => (simp only [PK.impl_StoreOk.j0] at h; cases h) | succ k => (rw [PK.impl_StoreOk.j0] at h; (try simp only [w64_eq, wu8_eq, gt_iff_lt, ge_iff_le, int_beq, fdiv33, fdiv45, bt_eq, tmodN, rdOfB, rdOfL] at h); refine (itE h (fun q h => ?_) (fun q h => ((fun h => ?_) (il0 _ (by omega) _ _ _ _ _ _ _ _ h m (by omega))))) <;> ((try cases h); (try simp only [*, if_true, if_false, ↓reduceIte, Option.bind_some, List.length_cons, List.length_nil, List.length_append, Bool.not_true, Bool.not_false, Bool.true_eq_false, Bool.false_eq_true]); all_goals (repeat first | rw [if_pos (by omega)] | rw [if_neg (by omega)]); all_goals (first | exact h | apply h | rfl | (simp_all [-Bool.forall_bool]; done) | (simp_all [-Bool.forall_bool]; first | exact h | apply h) | (simp_all [-Bool.forall_bool, emp_eq, int_beq]; done) | (simp_all [-Bool.forall_bool]; (intros; simp_all; done)) | (simp_all [-Bool.forall_bool, rdset3, rdset88, rdset53, rdset5, rdset4]; done) | grind))))) (impl_in.rel m _ _ _ _ g m (by omega))))) (fun q h => (by cases k with | zero => (simp only [PK.impl_StoreOk.j0] at h; cases h) | succ k => (rw [PK.impl_StoreOk.j0] at h; (try simp only [w64_eq, wu8_eq, gt_iff_lt, ge_iff_le, int_beq, fdiv33, fdiv45, bt_eq, tmodN, rdOfB, rdOfL] at h); refine (itE h (fun q h => ?_) (fun q h => ((fun h => ?_) (il0 _ (by omega) _ _ _ _ _ _ _ _ h m (by omega))))) <;> ((try cases h); (try simp only [*, if_true, if_false, ↓reduceIte, Option.bind_some, List.length_cons, List.length_nil, List.length_append, Bool.not_true, Bool.not_false, Bool.true_eq_false, Bool.false_eq_true]); all_goals (repeat first | rw [if_pos (by omega)] | rw [if_neg (by omega)]); all_goals (first | exact h | apply h | rfl | (simp_all [-Bool.forall_bool]; done) | (simp_all [-Bool.forall_bool]; first | exact h | apply h) | (simp_all [-Bool.forall_bool, emp_eq, int_beq]; done) | (simp_all [-Bool.forall_bool]; (intros; simp_all; done)) | (simp_all [-Bool.forall_bool, rdset3, rdset88, rdset53, rdset5, rdset4]; done) | grind))))))) (impl_ArenaOk.rel _ _ _ g m (by omega))))))
  all_goals clear il0 il1 il2
  all_goals (try cases h)
  all_goals (try simp only [*, if_true, if_false, ↓reduceIte, Option.bind_some, List.length_cons, List.length_nil, List.length_append, Bool.not_true, Bool.not_false, Bool.true_eq_false, Bool.false_eq_true])
  all_goals (repeat first | rw [if_pos (by omega)] | rw [if_neg (by omega)])
  all_goals first | exact h | apply h | rfl | (simp_all [-Bool.forall_bool]; done) | (simp_all [-Bool.forall_bool]; first | exact h | apply h) | (simp_all [-Bool.forall_bool, emp_eq, int_beq]; done) | (simp_all [-Bool.forall_bool]; (intros; simp_all; done)) | (simp_all [-Bool.forall_bool, rdset3, rdset88, rdset53, rdset5, rdset4]; done) | grind
end Go.Proofs.Yteideicglgpfiaa.M2

/- What the print's plain functions answer, the own ones answer. Written by a program of this session. -/
namespace Go.Proofs.Yteideicglgpfiaa.M2
open Go Go.RowKit Go.Proofs.YteideicglgpfiaaW.PrintWords Go.Proofs.Yteideicglgpfiaa.PK
set_option linter.unusedVariables false
set_option linter.unusedSimpArgs false
theorem impl_copyInts.rel (k : Nat) (l0 : List Int) (r) (h : PK.impl_copyInts.f l0 = some r) (m : Nat) (hm : k ≤ m) : impl_copyInts.f m l0 = some r := by
  rw [PK.impl_copyInts.f] at h
  rw [impl_copyInts.f]
  try simp only [w64_eq, wu8_eq, gt_iff_lt, ge_iff_le, int_beq, fdiv33, fdiv45, bt_eq, tmodN, rdOfB, rdOfL] at h
  try simp only [shlR]
  try simp only [w64_eq, wu8_eq, gt_iff_lt, ge_iff_le, int_beq, fdiv33, fdiv45, bt_eq, tmodN, rdOfB, rdOfL, rdT3_eq, rdT5_eq, seq, maxI, minI, emp_eq, rdn3, rdn88, rdn53, rdn5, rdn4]
  refine (itE h (fun q h => ?_) (fun q h => (noE h)))
  all_goals (try cases h)
  all_goals (try simp only [*, if_true, if_false, ↓reduceIte, Option.bind_some, List.length_cons, List.length_nil, List.length_append, Bool.not_true, Bool.not_false, Bool.true_eq_false, Bool.false_eq_true])
  all_goals (repeat first | rw [if_pos (by omega)] | rw [if_neg (by omega)])
  all_goals first | exact h | apply h | rfl | (simp_all [-Bool.forall_bool]; done) | (simp_all [-Bool.forall_bool]; first | exact h | apply h) | (simp_all [-Bool.forall_bool, emp_eq, int_beq]; done) | (simp_all [-Bool.forall_bool]; (intros; simp_all; done)) | (simp_all [-Bool.forall_bool, rdset3, rdset88, rdset53, rdset5, rdset4]; done) | grind

theorem impl_copyArena.rel_l (k : Nat) : (∀ x7 x8 x9 x560000 r, PK.impl_copyArena.l0 k x7 x8 x9 x560000 = some r → ∀ m, k ≤ m → ∀ (h65 : List S88), impl_copyArena.c3 m x7 x8 x9 h65 x560000 = some r) := by
  induction k using Nat.strongRecOn with
  | _ k ih =>
  have il0 := fun k' hk' => (ih k' hk')
  clear ih
  intro x7 x8 x9 x560000 r h m hm h65
  cases k with
  | zero => simp only [PK.impl_copyArena.l0] at h; cases h
  | succ k =>
    obtain ⟨m, rfl⟩ : ∃ m', m = m' + 1 := ⟨m - 1, by omega⟩
    rw [PK.impl_copyArena.l0] at h
    rw [impl_copyArena.c3]
    try simp only [w64_eq, wu8_eq, gt_iff_lt, ge_iff_le, int_beq, fdiv33, fdiv45, bt_eq, tmodN, rdOfB, rdOfL] at h
    try simp only [shlR]
    try simp only [w64_eq, wu8_eq, gt_iff_lt, ge_iff_le, int_beq, fdiv33, fdiv45, bt_eq, tmodN, rdOfB, rdOfL, rdT3_eq, rdT5_eq, seq, maxI, minI, emp_eq, rdn3, rdn88, rdn53, rdn5, rdn4]
    refine (itE h (fun q h => (itE h (fun q h => (itE h (fun q h => (bnE h (fun _ g h => (fun g => (itE h (fun q h => ((fun h => ?_) (il0 _ (by omega) _ _ _ _ _ h m (by omega)))) (fun q h => (noE h)))) (impl_copyInts.rel m _ _ g m (by omega))))) (fun q h => (noE h)))) (fun q h => (noE h)))) (fun q h => ?_))
    all_goals clear il0
    all_goals (try cases h)
    all_goals (try simp only [*, if_true, if_false, ↓reduceIte, Option.bind_some, List.length_cons, List.length_nil, List.length_append, Bool.not_true, Bool.not_false, Bool.true_eq_false, Bool.false_eq_true])
    all_goals (repeat first | rw [if_pos (by omega)] | rw [if_neg (by omega)])
    all_goals first | exact h | apply h | rfl | (simp_all [-Bool.forall_bool]; done) | (simp_all [-Bool.forall_bool]; first | exact h | apply h) | (simp_all [-Bool.forall_bool, emp_eq, int_beq]; done) | (simp_all [-Bool.forall_bool]; (intros; simp_all; done)) | (simp_all [-Bool.forall_bool, rdset3, rdset88, rdset53, rdset5, rdset4]; done) | grind
theorem impl_copyArena.rel (k : Nat) (l0_0 : List (S88)) (r) (h : PK.impl_copyArena.f k l0_0 = some r) (m : Nat) (hm : k ≤ m) : impl_copyArena.f m l0_0 = some r := by
  have il0 := fun k' (_ : k' < k + 1) => (impl_copyArena.rel_l k')
  rw [PK.impl_copyArena.f] at h
  rw [impl_copyArena.f]
  try simp only [w64_eq, wu8_eq, gt_iff_lt, ge_iff_le, int_beq, fdiv33, fdiv45, bt_eq, tmodN, rdOfB, rdOfL] at h
  try simp only [shlR]
  try simp only [w64_eq, wu8_eq, gt_iff_lt, ge_iff_le, int_beq, fdiv33, fdiv45, bt_eq, tmodN, rdOfB, rdOfL, rdT3_eq, rdT5_eq, seq, maxI, minI, emp_eq, rdn3, rdn88, rdn53, rdn5, rdn4]
  refine ((fun h => ?_) (il0 _ (by omega) _ _ _ _ _ h m (by omega)))
  all_goals clear il0
  all_goals (try cases h)
  all_goals (try simp only [*, if_true, if_false, ↓reduceIte, Option.bind_some, List.length_cons, List.length_nil, List.length_append, Bool.not_true, Bool.not_false, Bool.true_eq_false, Bool.false_eq_true])
  all_goals (repeat first | rw [if_pos (by omega)] | rw [if_neg (by omega)])
  all_goals first | exact h | apply h | rfl | (simp_all [-Bool.forall_bool]; done) | (simp_all [-Bool.forall_bool]; first | exact h | apply h) | (simp_all [-Bool.forall_bool, emp_eq, int_beq]; done) | (simp_all [-Bool.forall_bool]; (intros; simp_all; done)) | (simp_all [-Bool.forall_bool, rdset3, rdset88, rdset53, rdset5, rdset4]; done) | grind

theorem impl_SweepArena.rel_l (k : Nat) : (∀ x1 x6 x7 x21 x22 x23 x655000 r, PK.impl_SweepArena.l0 k x1 x6 x7 x21 x22 x23 x655000 = some r → ∀ m, k ≤ m → ∀ (h66 : List S88), impl_SweepArena.c4 m x1 x21 x22 x23 x655000 h66 x6 x7 = some (r.1, r.2)) ∧ (∀ x1 x6 x7 x11 x55 x56 x57 x675000 r, PK.impl_SweepArena.l1 k x1 x6 x7 x11 x55 x56 x57 x675000 = some r → ∀ m, k ≤ m → ∀ (h65 : List S88), impl_SweepArena.c15 m x1 x55 x56 x57 h65 x6 x7 x675000 x11 = some (r.1, r.2)) ∧ (∀ x1 x6 x7 x11 x55 x56 x57 x79 x80 x81 x675000 x680000 x680001 x686000 x686001 r, PK.impl_SweepArena.l2 k x1 x6 x7 x11 x55 x56 x57 x79 x80 x81 x675000 x680000 x680001 x686000 x686001 = some r → ∀ m, k ≤ m → ∀ (h65 : List S88), impl_SweepArena.c21 m x1 x55 x56 x57 x79 x80 x81 h65 x6 x7 (x675000) x11 x680000 x680001 x686001 x686000 = some (r.1, r.2)) ∧ (∀ x6 x11 x109 x110 x111 x675000 r, PK.impl_SweepArena.l3 k x6 x11 x109 x110 x111 x675000 = some r → ∀ m, k ≤ m → ∀ (h65 : List S88), impl_SweepArena.c29 m x109 x110 x111 h65 x6 x675000 x11 = some (r.1, r.2)) := by
  induction k using Nat.strongRecOn with
  | _ k ih =>
  have il0 := fun k' hk' => (ih k' hk').1
  have il1 := fun k' hk' => (ih k' hk').2.1
  have il2 := fun k' hk' => (ih k' hk').2.2.1
  have il3 := fun k' hk' => (ih k' hk').2.2.2
  clear ih
  refine ⟨?_, ?_, ?_, ?_⟩
  · intro x1 x6 x7 x21 x22 x23 x655000 r h m hm h66
    cases k with
    | zero => simp only [PK.impl_SweepArena.l0] at h; cases h
    | succ k =>
      obtain ⟨m, rfl⟩ : ∃ m', m = m' + 1 := ⟨m - 1, by omega⟩
      rw [PK.impl_SweepArena.l0] at h
      rw [impl_SweepArena.c4]
      try simp only [w64_eq, wu8_eq, gt_iff_lt, ge_iff_le, int_beq, fdiv33, fdiv45, bt_eq, tmodN, rdOfB, rdOfL] at h
      try simp only [shlR]
      try simp only [w64_eq, wu8_eq, gt_iff_lt, ge_iff_le, int_beq, fdiv33, fdiv45, bt_eq, tmodN, rdOfB, rdOfL, rdT3_eq, rdT5_eq, seq, maxI, minI, emp_eq, rdn3, rdn88, rdn53, rdn5, rdn4]
      refine (itE h (fun q h => (itE h (fun q h => (itE h (fun q h => (itE h (fun q h => (by cases k with | zero => (simp only [PK.impl_SweepArena.j1] at h; cases h) | succ k => (rw [PK.impl_SweepArena.j1] at h; (try simp only [w64_eq, wu8_eq, gt_iff_lt, ge_iff_le, int_beq, fdiv33, fdiv45, bt_eq, tmodN, rdOfB, rdOfL] at h); refine (itE h (fun q h => (bnE h (fun _ g h => (fun g => ?_) (impl_copyArena.rel _ _ _ g m (by omega))))) (fun q h => (bnE h (fun _ g h => (fun g => (itE h (fun q h => ((fun h => ?_) (il0 _ (by omega) _ _ _ _ _ _ _ _ h m (by omega)))) (fun q h => (noE h)))) (impl_knotsOf.rel _ _ _ _ g m (by omega)))))) <;> ((try cases h); (try simp only [*, if_true, if_false, ↓reduceIte, Option.bind_some, List.length_cons, List.length_nil, List.length_append, Bool.not_true, Bool.not_false, Bool.true_eq_false, Bool.false_eq_true]); all_goals (repeat first | rw [if_pos (by omega)] | rw [if_neg (by omega)]); all_goals (first | exact h | apply h | rfl | (simp_all [-Bool.forall_bool]; done) | (simp_all [-Bool.forall_bool]; first | exact h | apply h) | (simp_all [-Bool.forall_bool, emp_eq, int_beq]; done) | (simp_all [-Bool.forall_bool]; (intros; simp_all; done)) | (simp_all [-Bool.forall_bool, rdset3, rdset88, rdset53, rdset5, rdset4]; done) | grind))))) (fun q h => (bnE h (fun _ g h => (fun g => (by cases k with | zero => (simp only [PK.impl_SweepArena.j1] at h; cases h) | succ k => (rw [PK.impl_SweepArena.j1] at h; (try simp only [w64_eq, wu8_eq, gt_iff_lt, ge_iff_le, int_beq, fdiv33, fdiv45, bt_eq, tmodN, rdOfB, rdOfL] at h); refine (itE h (fun q h => (bnE h (fun _ g h => (fun g => ?_) (impl_copyArena.rel _ _ _ g m (by omega))))) (fun q h => (bnE h (fun _ g h => (fun g => (itE h (fun q h => ((fun h => ?_) (il0 _ (by omega) _ _ _ _ _ _ _ _ h m (by omega)))) (fun q h => (noE h)))) (impl_knotsOf.rel _ _ _ _ g m (by omega)))))) <;> ((try cases h); (try simp only [*, if_true, if_false, ↓reduceIte, Option.bind_some, List.length_cons, List.length_nil, List.length_append, Bool.not_true, Bool.not_false, Bool.true_eq_false, Bool.false_eq_true]); all_goals (repeat first | rw [if_pos (by omega)] | rw [if_neg (by omega)]); all_goals (first | exact h | apply h | rfl | (simp_all [-Bool.forall_bool]; done) | (simp_all [-Bool.forall_bool]; first | exact h | apply h) | (simp_all [-Bool.forall_bool, emp_eq, int_beq]; done) | (simp_all [-Bool.forall_bool]; (intros; simp_all; done)) | (simp_all [-Bool.forall_bool, rdset3, rdset88, rdset53, rdset5, rdset4]; done) | grind))))) (impl_isRoot.rel m _ _ _ g m (by omega))))))) (fun q h => (noE h)))) (fun q h => (noE h)))) (fun q h => (bnE h (fun _ g h => (fun g => (itE h (fun q h => (itE h (fun q h => (itE h (fun q h => ((fun h => ?_) (il1 _ (by omega) _ _ _ _ _ _ _ _ _ h m (by omega)))) (fun q h => (noE h)))) (fun q h => (noE h)))) (fun q h => (bnE h (fun _ g h => (fun g => ?_) (impl_copyArena.rel _ _ _ g m (by omega))))))) (impl_ArenaOk.rel _ _ _ g m (by omega))))))
      all_goals clear il0 il1 il2 il3
      all_goals (try cases h)
      all_goals (try simp only [*, if_true, if_false, ↓reduceIte, Option.bind_some, List.length_cons, List.length_nil, List.length_append, Bool.not_true, Bool.not_false, Bool.true_eq_false, Bool.false_eq_true])
      all_goals (repeat first | rw [if_pos (by omega)] | rw [if_neg (by omega)])
      all_goals first | exact h | apply h | rfl | (simp_all [-Bool.forall_bool]; done) | (simp_all [-Bool.forall_bool]; first | exact h | apply h) | (simp_all [-Bool.forall_bool, emp_eq, int_beq]; done) | (simp_all [-Bool.forall_bool]; (intros; simp_all; done)) | (simp_all [-Bool.forall_bool, rdset3, rdset88, rdset53, rdset5, rdset4]; done) | grind
  · intro x1 x6 x7 x11 x55 x56 x57 x675000 r h m hm h65
    cases k with
    | zero => simp only [PK.impl_SweepArena.l1] at h; cases h
    | succ k =>
      obtain ⟨m, rfl⟩ : ∃ m', m = m' + 1 := ⟨m - 1, by omega⟩
      rw [PK.impl_SweepArena.l1] at h
      rw [impl_SweepArena.c15]
      try simp only [w64_eq, wu8_eq, gt_iff_lt, ge_iff_le, int_beq, fdiv33, fdiv45, bt_eq, tmodN, rdOfB, rdOfL] at h
      try simp only [shlR]
      try simp only [w64_eq, wu8_eq, gt_iff_lt, ge_iff_le, int_beq, fdiv33, fdiv45, bt_eq, tmodN, rdOfB, rdOfL, rdT3_eq, rdT5_eq, seq, maxI, minI, emp_eq, rdn3, rdn88, rdn53, rdn5, rdn4]
      refine (itE h (fun q h => (itE h (fun q h => (itE h (fun q h => (bnE h (fun _ g h => (fun g => (itE h (fun q h => (itE h (fun q h => (bnE h (fun _ g h => (fun g => ((fun h => ?_) (il2 _ (by omega) _ _ _ _ _ _ _ _ _ _ _ _ _ _ _ _ h m (by omega)))) (impl_copyInts.rel m _ _ g m (by omega))))) (fun q h => (noE h)))) (fun q h => ((fun h => ?_) (il1 _ (by omega) _ _ _ _ _ _ _ _ _ h m (by omega)))))) (impl_hasInt.rel _ _ _ _ g m (by omega))))) (fun q h => (noE h)))) (fun q h => (noE h)))) (fun q h => ((fun h => ?_) (il3 _ (by omega) _ _ _ _ _ _ _ h m (by omega)))))
      all_goals clear il0 il1 il2 il3
      all_goals (try cases h)
      all_goals (try simp only [*, if_true, if_false, ↓reduceIte, Option.bind_some, List.length_cons, List.length_nil, List.length_append, Bool.not_true, Bool.not_false, Bool.true_eq_false, Bool.false_eq_true])
      all_goals (repeat first | rw [if_pos (by omega)] | rw [if_neg (by omega)])
      all_goals first | exact h | apply h | rfl | (simp_all [-Bool.forall_bool]; done) | (simp_all [-Bool.forall_bool]; first | exact h | apply h) | (simp_all [-Bool.forall_bool, emp_eq, int_beq]; done) | (simp_all [-Bool.forall_bool]; (intros; simp_all; done)) | (simp_all [-Bool.forall_bool, rdset3, rdset88, rdset53, rdset5, rdset4]; done) | grind
  · intro x1 x6 x7 x11 x55 x56 x57 x79 x80 x81 x675000 x680000 x680001 x686000 x686001 r h m hm h65
    cases k with
    | zero => simp only [PK.impl_SweepArena.l2] at h; cases h
    | succ k =>
      obtain ⟨m, rfl⟩ : ∃ m', m = m' + 1 := ⟨m - 1, by omega⟩
      rw [PK.impl_SweepArena.l2] at h
      rw [impl_SweepArena.c21]
      try simp only [w64_eq, wu8_eq, gt_iff_lt, ge_iff_le, int_beq, fdiv33, fdiv45, bt_eq, tmodN, rdOfB, rdOfL] at h
      try simp only [shlR]
      try simp only [w64_eq, wu8_eq, gt_iff_lt, ge_iff_le, int_beq, fdiv33, fdiv45, bt_eq, tmodN, rdOfB, rdOfL, rdT3_eq, rdT5_eq, seq, maxI, minI, emp_eq, rdn3, rdn88, rdn53, rdn5, rdn4]
      refine (itE h (fun q h => (itE h (fun q h => (itE h (fun q h => (itE h (fun q h => ((fun h => ?_) (il2 _ (by omega) _ _ _ _ _ _ _ _ _ _ _ _ _ _ _ _ h m (by omega)))) (fun q h => (itE h (fun q h => (itE h (fun q h => (itE h (fun q h => (itE h (fun q h => ((fun h => ?_) (il2 _ (by omega) _ _ _ _ _ _ _ _ _ _ _ _ _ _ _ _ h m (by omega)))) (fun q h => (noE h)))) (fun q h => (noE h)))) (fun q h => (noE h)))) (fun q h => ((fun h => ?_) (il2 _ (by omega) _ _ _ _ _ _ _ _ _ _ _ _ _ _ _ _ h m (by omega)))))))) (fun q h => (noE h)))) (fun q h => (noE h)))) (fun q h => (itE h (fun q h => ((fun h => ?_) (il1 _ (by omega) _ _ _ _ _ _ _ _ _ h m (by omega)))) (fun q h => (noE h)))))
      all_goals clear il0 il1 il2 il3
      all_goals (try cases h)
      all_goals (try simp only [*, if_true, if_false, ↓reduceIte, Option.bind_some, List.length_cons, List.length_nil, List.length_append, Bool.not_true, Bool.not_false, Bool.true_eq_false, Bool.false_eq_true])
      all_goals (repeat first | rw [if_pos (by omega)] | rw [if_neg (by omega)])
      all_goals first | exact h | apply h | rfl | (simp_all [-Bool.forall_bool]; done) | (simp_all [-Bool.forall_bool]; first | exact h | apply h) | (simp_all [-Bool.forall_bool, emp_eq, int_beq]; done) | (simp_all [-Bool.forall_bool]; (intros; simp_all; done)) | (simp_all [-Bool.forall_bool, rdset3, rdset88, rdset53, rdset5, rdset4]; done) | grind
  · intro x6 x11 x109 x110 x111 x675000 r h m hm h65
    cases k with
    | zero => simp only [PK.impl_SweepArena.l3] at h; cases h
    | succ k =>
      obtain ⟨m, rfl⟩ : ∃ m', m = m' + 1 := ⟨m - 1, by omega⟩
      rw [PK.impl_SweepArena.l3] at h
      rw [impl_SweepArena.c29]
      try simp only [w64_eq, wu8_eq, gt_iff_lt, ge_iff_le, int_beq, fdiv33, fdiv45, bt_eq, tmodN, rdOfB, rdOfL] at h
      try simp only [shlR]
      try simp only [w64_eq, wu8_eq, gt_iff_lt, ge_iff_le, int_beq, fdiv33, fdiv45, bt_eq, tmodN, rdOfB, rdOfL, rdT3_eq, rdT5_eq, seq, maxI, minI, emp_eq, rdn3, rdn88, rdn53, rdn5, rdn4]
      refine (itE h (fun q h => (itE h (fun q h => (itE h (fun q h => (itE h (fun q h => (itE h (fun q h => (itE h (fun q h => (itE h (fun q h => ((fun h => ?_) (il3 _ (by omega) _ _ _ _ _ _ _ h m (by omega)))) (fun q h => (noE h)))) (fun q h => (noE h)))) (fun q h => (noE h)))) (fun q h => ((fun h => ?_) (il3 _ (by omega) _ _ _ _ _ _ _ h m (by omega)))))) (fun q h => (noE h)))) (fun q h => (noE h)))) (fun q h => ?_))
      all_goals clear il0 il1 il2 il3
      all_goals (try cases h)
      all_goals (try simp only [*, if_true, if_false, ↓reduceIte, Option.bind_some, List.length_cons, List.length_nil, List.length_append, Bool.not_true, Bool.not_false, Bool.true_eq_false, Bool.false_eq_true])
      all_goals (repeat first | rw [if_pos (by omega)] | rw [if_neg (by omega)])
      all_goals first | exact h | apply h | rfl | (simp_all [-Bool.forall_bool]; done) | (simp_all [-Bool.forall_bool]; first | exact h | apply h) | (simp_all [-Bool.forall_bool, emp_eq, int_beq]; done) | (simp_all [-Bool.forall_bool]; (intros; simp_all; done)) | (simp_all [-Bool.forall_bool, rdset3, rdset88, rdset53, rdset5, rdset4]; done) | grind
theorem impl_SweepArena.rel (k : Nat) (l0_0 : List (S88)) (l1 : List Int) (r) (h : PK.impl_SweepArena.f k l0_0 l1 = some r) (m : Nat) (hm : k ≤ m) : impl_SweepArena.f m l0_0 l1 = some (r.1, r.2) := by
  have il0 := fun k' (_ : k' < k + 1) => (impl_SweepArena.rel_l k').1
  have il1 := fun k' (_ : k' < k + 1) => (impl_SweepArena.rel_l k').2.1
  have il2 := fun k' (_ : k' < k + 1) => (impl_SweepArena.rel_l k').2.2.1
  have il3 := fun k' (_ : k' < k + 1) => (impl_SweepArena.rel_l k').2.2.2
  rw [PK.impl_SweepArena.f] at h
  rw [impl_SweepArena.f]
  try simp only [w64_eq, wu8_eq, gt_iff_lt, ge_iff_le, int_beq, fdiv33, fdiv45, bt_eq, tmodN, rdOfB, rdOfL] at h
  try simp only [shlR]
  try simp only [w64_eq, wu8_eq, gt_iff_lt, ge_iff_le, int_beq, fdiv33, fdiv45, bt_eq, tmodN, rdOfB, rdOfL, rdT3_eq, rdT5_eq, seq, maxI, minI, emp_eq, rdn3, rdn88, rdn53, rdn5, rdn4]
  refine (bnE h (fun _ g h => (fun g => ((fun h => ?_) (il0 _ (by omega) _ _ _ _ _ _ _ _ h m (by omega)))) (impl_copyInts.rel m _ _ g m (by omega))))
  all_goals clear il0 il1 il2 il3
  all_goals (try cases h)
  all_goals (try simp only [*, if_true, if_false, ↓reduceIte, Option.bind_some, List.length_cons, List.length_nil, List.length_append, Bool.not_true, Bool.not_false, Bool.true_eq_false, Bool.false_eq_true])
  all_goals (repeat first | rw [if_pos (by omega)] | rw [if_neg (by omega)])
  all_goals first | exact h | apply h | rfl | (simp_all [-Bool.forall_bool]; done) | (simp_all [-Bool.forall_bool]; first | exact h | apply h) | (simp_all [-Bool.forall_bool, emp_eq, int_beq]; done) | (simp_all [-Bool.forall_bool]; (intros; simp_all; done)) | (simp_all [-Bool.forall_bool, rdset3, rdset88, rdset53, rdset5, rdset4]; done) | grind
end Go.Proofs.Yteideicglgpfiaa.M2

/- What the print's plain functions answer, the own ones answer. Written by a program of this session. -/
namespace Go.Proofs.Yteideicglgpfiaa.M2
open Go Go.RowKit Go.Proofs.YteideicglgpfiaaW.PrintWords Go.Proofs.Yteideicglgpfiaa.PK
set_option linter.unusedVariables false
set_option linter.unusedSimpArgs false
theorem spec_l12Roots.rel_l (k : Nat) : (∀ x3 x4 x200000 x200001 x200002 r, PK.spec_l12Roots.l0 k x3 x4 x200000 x200001 x200002 = some r → ∀ m, k ≤ m → spec_l12Roots.c3 m x4 x200000 x200001 x200002 x3 = some r) := by
  induction k using Nat.strongRecOn with
  | _ k ih =>
  have il0 := fun k' hk' => (ih k' hk')
  clear ih
  intro x3 x4 x200000 x200001 x200002 r h m hm
  cases k with
  | zero => simp only [PK.spec_l12Roots.l0] at h; cases h
  | succ k =>
    obtain ⟨m, rfl⟩ : ∃ m', m = m' + 1 := ⟨m - 1, by omega⟩
    rw [PK.spec_l12Roots.l0] at h
    rw [spec_l12Roots.c3]
    try simp only [w64_eq, wu8_eq, gt_iff_lt, ge_iff_le, int_beq, fdiv33, fdiv45, bt_eq, tmodN, rdOfB, rdOfL] at h
    try simp only [shlR]
    try simp only [w64_eq, wu8_eq, gt_iff_lt, ge_iff_le, int_beq, fdiv33, fdiv45, bt_eq, tmodN, rdOfB, rdOfL, rdT3_eq, rdT5_eq, seq, maxI, minI, emp_eq, rdn3, rdn88, rdn53, rdn5, rdn4]
    refine (itE h (fun q h => (itE h (fun q h => (itE h (fun q h => ((fun h => ?_) (il0 _ (by omega) _ _ _ _ _ _ h m (by omega)))) (fun q h => (noE h)))) (fun q h => (noE h)))) (fun q h => ?_))
    all_goals clear il0
    all_goals (try cases h)
    all_goals (try simp only [*, if_true, if_false, ↓reduceIte, Option.bind_some, List.length_cons, List.length_nil, List.length_append, Bool.not_true, Bool.not_false, Bool.true_eq_false, Bool.false_eq_true])
    all_goals (repeat first | rw [if_pos (by omega)] | rw [if_neg (by omega)])
    all_goals first | exact h | apply h | rfl | (simp_all [-Bool.forall_bool]; done) | (simp_all [-Bool.forall_bool]; first | exact h | apply h) | (simp_all [-Bool.forall_bool, emp_eq, int_beq]; done) | (simp_all [-Bool.forall_bool]; (intros; simp_all; done)) | (simp_all [-Bool.forall_bool, rdset3, rdset88, rdset53, rdset5, rdset4]; done) | grind
theorem spec_l12Roots.rel (k : Nat) (l0_0 : List (S53)) (l0_1 : List (S88)) (a0_2 : Int) (r) (h : PK.spec_l12Roots.f k l0_0 l0_1 a0_2 = some r) (m : Nat) (hm : k ≤ m) : spec_l12Roots.f m l0_0 l0_1 a0_2 = some r := by
  have il0 := fun k' (_ : k' < k + 1) => (spec_l12Roots.rel_l k')
  rw [PK.spec_l12Roots.f] at h
  rw [spec_l12Roots.f]
  try simp only [w64_eq, wu8_eq, gt_iff_lt, ge_iff_le, int_beq, fdiv33, fdiv45, bt_eq, tmodN, rdOfB, rdOfL] at h
  try simp only [shlR]
  try simp only [w64_eq, wu8_eq, gt_iff_lt, ge_iff_le, int_beq, fdiv33, fdiv45, bt_eq, tmodN, rdOfB, rdOfL, rdT3_eq, rdT5_eq, seq, maxI, minI, emp_eq, rdn3, rdn88, rdn53, rdn5, rdn4]
  refine ((fun h => ?_) (il0 _ (by omega) _ _ _ _ _ _ h m (by omega)))
  all_goals clear il0
  all_goals (try cases h)
  all_goals (try simp only [*, if_true, if_false, ↓reduceIte, Option.bind_some, List.length_cons, List.length_nil, List.length_append, Bool.not_true, Bool.not_false, Bool.true_eq_false, Bool.false_eq_true])
  all_goals (repeat first | rw [if_pos (by omega)] | rw [if_neg (by omega)])
  all_goals first | exact h | apply h | rfl | (simp_all [-Bool.forall_bool]; done) | (simp_all [-Bool.forall_bool]; first | exact h | apply h) | (simp_all [-Bool.forall_bool, emp_eq, int_beq]; done) | (simp_all [-Bool.forall_bool]; (intros; simp_all; done)) | (simp_all [-Bool.forall_bool, rdset3, rdset88, rdset53, rdset5, rdset4]; done) | grind

theorem impl_volAt.rel_l (k : Nat) : (∀ x1 x8 x9 x10 r, PK.impl_volAt.l0 k x1 x8 x9 x10 = some r → ∀ m, k ≤ m → impl_volAt.c2 m x1 x8 x9 x10 = some r) := by
  induction k using Nat.strongRecOn with
  | _ k ih =>
  have il0 := fun k' hk' => (ih k' hk')
  clear ih
  intro x1 x8 x9 x10 r h m hm
  cases k with
  | zero => simp only [PK.impl_volAt.l0] at h; cases h
  | succ k =>
    obtain ⟨m, rfl⟩ : ∃ m', m = m' + 1 := ⟨m - 1, by omega⟩
    rw [PK.impl_volAt.l0] at h
    rw [impl_volAt.c2]
    try simp only [w64_eq, wu8_eq, gt_iff_lt, ge_iff_le, int_beq, fdiv33, fdiv45, bt_eq, tmodN, rdOfB, rdOfL] at h
    try simp only [shlR]
    try simp only [w64_eq, wu8_eq, gt_iff_lt, ge_iff_le, int_beq, fdiv33, fdiv45, bt_eq, tmodN, rdOfB, rdOfL, rdT3_eq, rdT5_eq, seq, maxI, minI, emp_eq, rdn3, rdn88, rdn53, rdn5, rdn4]
    refine (itE h (fun q h => (itE h (fun q h => (itE h (fun q h => (itE h (fun q h => ?_) (fun q h => ((fun h => ?_) (il0 _ (by omega) _ _ _ _ _ h m (by omega)))))) (fun q h => (noE h)))) (fun q h => (noE h)))) (fun q h => ?_))
    all_goals clear il0
    all_goals (try cases h)
    all_goals (try simp only [*, if_true, if_false, ↓reduceIte, Option.bind_some, List.length_cons, List.length_nil, List.length_append, Bool.not_true, Bool.not_false, Bool.true_eq_false, Bool.false_eq_true])
    all_goals (repeat first | rw [if_pos (by omega)] | rw [if_neg (by omega)])
    all_goals first | exact h | apply h | rfl | (simp_all [-Bool.forall_bool]; done) | (simp_all [-Bool.forall_bool]; first | exact h | apply h) | (simp_all [-Bool.forall_bool, emp_eq, int_beq]; done) | (simp_all [-Bool.forall_bool]; (intros; simp_all; done)) | (simp_all [-Bool.forall_bool, rdset3, rdset88, rdset53, rdset5, rdset4]; done) | grind
theorem impl_volAt.rel (k : Nat) (l0_0 : List (S53)) (l0_1 : List (S88)) (a0_2 : Int) (a1 : Int) (r) (h : PK.impl_volAt.f k l0_0 l0_1 a0_2 a1 = some r) (m : Nat) (hm : k ≤ m) : impl_volAt.f m l0_0 l0_1 a0_2 a1 = some r := by
  have il0 := fun k' (_ : k' < k + 1) => (impl_volAt.rel_l k')
  rw [PK.impl_volAt.f] at h
  rw [impl_volAt.f]
  try simp only [w64_eq, wu8_eq, gt_iff_lt, ge_iff_le, int_beq, fdiv33, fdiv45, bt_eq, tmodN, rdOfB, rdOfL] at h
  try simp only [shlR]
  try simp only [w64_eq, wu8_eq, gt_iff_lt, ge_iff_le, int_beq, fdiv33, fdiv45, bt_eq, tmodN, rdOfB, rdOfL, rdT3_eq, rdT5_eq, seq, maxI, minI, emp_eq, rdn3, rdn88, rdn53, rdn5, rdn4]
  refine ((fun h => ?_) (il0 _ (by omega) _ _ _ _ _ h m (by omega)))
  all_goals clear il0
  all_goals (try cases h)
  all_goals (try simp only [*, if_true, if_false, ↓reduceIte, Option.bind_some, List.length_cons, List.length_nil, List.length_append, Bool.not_true, Bool.not_false, Bool.true_eq_false, Bool.false_eq_true])
  all_goals (repeat first | rw [if_pos (by omega)] | rw [if_neg (by omega)])
  all_goals first | exact h | apply h | rfl | (simp_all [-Bool.forall_bool]; done) | (simp_all [-Bool.forall_bool]; first | exact h | apply h) | (simp_all [-Bool.forall_bool, emp_eq, int_beq]; done) | (simp_all [-Bool.forall_bool]; (intros; simp_all; done)) | (simp_all [-Bool.forall_bool, rdset3, rdset88, rdset53, rdset5, rdset4]; done) | grind
end Go.Proofs.Yteideicglgpfiaa.M2

/- What the print's plain functions answer, the own ones answer. Written by a program of this session. -/
namespace Go.Proofs.Yteideicglgpfiaa.M2
open Go Go.RowKit Go.Proofs.YteideicglgpfiaaW.PrintWords Go.Proofs.Yteideicglgpfiaa.PK
set_option linter.unusedVariables false
set_option linter.unusedSimpArgs false
theorem impl_numberAt.rel (k : Nat) (l0_0 : List (S88)) (a1 : Int) (a2 : Int) (r) (h : PK.impl_numberAt.f l0_0 a1 a2 = some r) (m : Nat) (hm : k ≤ m) : impl_numberAt.f m l0_0 a1 a2 = some r := by
  rw [PK.impl_numberAt.f] at h
  rw [impl_numberAt.f]
  try simp only [w64_eq, wu8_eq, gt_iff_lt, ge_iff_le, int_beq, fdiv33, fdiv45, bt_eq, tmodN, rdOfB, rdOfL] at h
  try simp only [shlR]
  try simp only [w64_eq, wu8_eq, gt_iff_lt, ge_iff_le, int_beq, fdiv33, fdiv45, bt_eq, tmodN, rdOfB, rdOfL, rdT3_eq, rdT5_eq, seq, maxI, minI, emp_eq, rdn3, rdn88, rdn53, rdn5, rdn4]
  refine (itE h (fun q h => (itE h (fun q h => (itE h (fun q h => (itE h (fun q h => (itE h (fun q h => ?_) (fun q h => (itE h (fun q h => (itE h (fun q h => (itE h (fun q h => (itE h (fun q h => ?_) (fun q h => (noE h)))) (fun q h => (noE h)))) (fun q h => (noE h)))) (fun q h => (noE h)))))) (fun q h => (noE h)))) (fun q h => (noE h)))) (fun q h => (noE h)))) (fun q h => (noE h)))
  all_goals (try cases h)
  all_goals (try simp only [*, if_true, if_false, ↓reduceIte, Option.bind_some, List.length_cons, List.length_nil, List.length_append, Bool.not_true, Bool.not_false, Bool.true_eq_false, Bool.false_eq_true])
  all_goals (repeat first | rw [if_pos (by omega)] | rw [if_neg (by omega)])
  all_goals first | exact h | apply h | rfl | (simp_all [-Bool.forall_bool]; done) | (simp_all [-Bool.forall_bool]; first | exact h | apply h) | (simp_all [-Bool.forall_bool, emp_eq, int_beq]; done) | (simp_all [-Bool.forall_bool]; (intros; simp_all; done)) | (simp_all [-Bool.forall_bool, rdset3, rdset88, rdset53, rdset5, rdset4]; done) | grind

theorem impl_GetAt.rel (k : Nat) (l0_0 : List (S88)) (a1 : Int) (a2 : Int) (r) (h : PK.impl_GetAt.f k l0_0 a1 a2 = some r) (m : Nat) (hm : k ≤ m) : impl_GetAt.f m l0_0 a1 a2 = some r := by
  rw [PK.impl_GetAt.f] at h
  rw [impl_GetAt.f]
  try simp only [w64_eq, wu8_eq, gt_iff_lt, ge_iff_le, int_beq, fdiv33, fdiv45, bt_eq, tmodN, rdOfB, rdOfL] at h
  try simp only [shlR]
  try simp only [w64_eq, wu8_eq, gt_iff_lt, ge_iff_le, int_beq, fdiv33, fdiv45, bt_eq, tmodN, rdOfB, rdOfL, rdT3_eq, rdT5_eq, seq, maxI, minI, emp_eq, rdn3, rdn88, rdn53, rdn5, rdn4]
  refine (bnE h (fun _ g h => (fun g => (itE h (fun q h => (bnE h (fun _ g h => (fun g => (itE h (fun q h => (bnE h (fun _ g h => (fun g => (itE h (fun q h => (bnE h (fun _ g h => (fun g => ?_) (impl_numberAt.rel m _ _ _ _ g m (by omega))))) (fun q h => ?_))) (impl_ArenaOk.rel _ _ _ g m (by omega))))) (fun q h => ?_))) (impl_isRoot.rel m _ _ _ g m (by omega))))) (fun q h => ?_))) (impl_in.rel m _ _ _ _ g m (by omega))))
  all_goals (try cases h)
  all_goals (try simp only [*, if_true, if_false, ↓reduceIte, Option.bind_some, List.length_cons, List.length_nil, List.length_append, Bool.not_true, Bool.not_false, Bool.true_eq_false, Bool.false_eq_true])
  all_goals (repeat first | rw [if_pos (by omega)] | rw [if_neg (by omega)])
  all_goals first | exact h | apply h | rfl | (simp_all [-Bool.forall_bool]; done) | (simp_all [-Bool.forall_bool]; first | exact h | apply h) | (simp_all [-Bool.forall_bool, emp_eq, int_beq]; done) | (simp_all [-Bool.forall_bool]; (intros; simp_all; done)) | (simp_all [-Bool.forall_bool, rdset3, rdset88, rdset53, rdset5, rdset4]; done) | grind

theorem impl_ChunkOf.rel (k : Nat) (l0_0 : List (S53)) (l0_1 : List (S88)) (a0_2 : Int) (a1 : Int) (a2 : Int) (r) (h : PK.impl_ChunkOf.f k l0_0 l0_1 a0_2 a1 a2 = some r) (m : Nat) (hm : k ≤ m) : impl_ChunkOf.f m l0_0 l0_1 a0_2 a1 a2 = some r := by
  rw [PK.impl_ChunkOf.f] at h
  rw [impl_ChunkOf.f]
  try simp only [w64_eq, wu8_eq, gt_iff_lt, ge_iff_le, int_beq, fdiv33, fdiv45, bt_eq, tmodN, rdOfB, rdOfL] at h
  try simp only [shlR]
  try simp only [w64_eq, wu8_eq, gt_iff_lt, ge_iff_le, int_beq, fdiv33, fdiv45, bt_eq, tmodN, rdOfB, rdOfL, rdT3_eq, rdT5_eq, seq, maxI, minI, emp_eq, rdn3, rdn88, rdn53, rdn5, rdn4]
  refine (bnE h (fun _ g h => (fun g => (itE h (fun q h => ?_) (fun q h => (itE h (fun q h => (itE h (fun q h => (bnE h (fun _ g h => (fun g => ?_) (impl_GetAt.rel _ _ _ _ _ g m (by omega))))) (fun q h => (noE h)))) (fun q h => (noE h)))))) (impl_volAt.rel _ _ _ _ _ _ g m (by omega))))
  all_goals (try cases h)
  all_goals (try simp only [*, if_true, if_false, ↓reduceIte, Option.bind_some, List.length_cons, List.length_nil, List.length_append, Bool.not_true, Bool.not_false, Bool.true_eq_false, Bool.false_eq_true])
  all_goals (repeat first | rw [if_pos (by omega)] | rw [if_neg (by omega)])
  all_goals first | exact h | apply h | rfl | (simp_all [-Bool.forall_bool]; done) | (simp_all [-Bool.forall_bool]; first | exact h | apply h) | (simp_all [-Bool.forall_bool, emp_eq, int_beq]; done) | (simp_all [-Bool.forall_bool]; (intros; simp_all; done)) | (simp_all [-Bool.forall_bool, rdset3, rdset88, rdset53, rdset5, rdset4]; done) | grind

theorem impl_AllAt.rel_l (k : Nat) : (∀ x1 x5 x7 x952000 r, PK.impl_AllAt.l0 k x1 x5 x7 x952000 = some r → ∀ m, k ≤ m → impl_AllAt.c3 m x1 x7 x952000 x5 = some r) := by
  induction k using Nat.strongRecOn with
  | _ k ih =>
  have il0 := fun k' hk' => (ih k' hk')
  clear ih
  intro x1 x5 x7 x952000 r h m hm
  cases k with
  | zero => simp only [PK.impl_AllAt.l0] at h; cases h
  | succ k =>
    obtain ⟨m, rfl⟩ : ∃ m', m = m' + 1 := ⟨m - 1, by omega⟩
    rw [PK.impl_AllAt.l0] at h
    rw [impl_AllAt.c3]
    try simp only [w64_eq, wu8_eq, gt_iff_lt, ge_iff_le, int_beq, fdiv33, fdiv45, bt_eq, tmodN, rdOfB, rdOfL] at h
    try simp only [shlR]
    try simp only [w64_eq, wu8_eq, gt_iff_lt, ge_iff_le, int_beq, fdiv33, fdiv45, bt_eq, tmodN, rdOfB, rdOfL, rdT3_eq, rdT5_eq, seq, maxI, minI, emp_eq, rdn3, rdn88, rdn53, rdn5, rdn4]
    refine (itE h (fun q h => (bnE h (fun _ g h => (fun g => (itE h (fun q h => ((fun h => ?_) (il0 _ (by omega) _ _ _ _ _ h m (by omega)))) (fun q h => (noE h)))) (impl_GetAt.rel _ _ _ _ _ g m (by omega))))) (fun q h => ?_))
    all_goals clear il0
    all_goals (try cases h)
    all_goals (try simp only [*, if_true, if_false, ↓reduceIte, Option.bind_some, List.length_cons, List.length_nil, List.length_append, Bool.not_true, Bool.not_false, Bool.true_eq_false, Bool.false_eq_true])
    all_goals (repeat first | rw [if_pos (by omega)] | rw [if_neg (by omega)])
    all_goals first | exact h | apply h | rfl | (simp_all [-Bool.forall_bool]; done) | (simp_all [-Bool.forall_bool]; first | exact h | apply h) | (simp_all [-Bool.forall_bool, emp_eq, int_beq]; done) | (simp_all [-Bool.forall_bool]; (intros; simp_all; done)) | (simp_all [-Bool.forall_bool, rdset3, rdset88, rdset53, rdset5, rdset4]; done) | grind
theorem impl_AllAt.rel (k : Nat) (l0_0 : List (S88)) (a1 : Int) (r) (h : PK.impl_AllAt.f k l0_0 a1 = some r) (m : Nat) (hm : k ≤ m) : impl_AllAt.f m l0_0 a1 = some r := by
  have il0 := fun k' (_ : k' < k + 1) => (impl_AllAt.rel_l k')
  rw [PK.impl_AllAt.f] at h
  rw [impl_AllAt.f]
  try simp only [w64_eq, wu8_eq, gt_iff_lt, ge_iff_le, int_beq, fdiv33, fdiv45, bt_eq, tmodN, rdOfB, rdOfL] at h
  try simp only [shlR]
  try simp only [w64_eq, wu8_eq, gt_iff_lt, ge_iff_le, int_beq, fdiv33, fdiv45, bt_eq, tmodN, rdOfB, rdOfL, rdT3_eq, rdT5_eq, seq, maxI, minI, emp_eq, rdn3, rdn88, rdn53, rdn5, rdn4]
  refine ((fun h => ?_) (il0 _ (by omega) _ _ _ _ _ h m (by omega)))
  all_goals clear il0
  all_goals (try cases h)
  all_goals (try simp only [*, if_true, if_false, ↓reduceIte, Option.bind_some, List.length_cons, List.length_nil, List.length_append, Bool.not_true, Bool.not_false, Bool.true_eq_false, Bool.false_eq_true])
  all_goals (repeat first | rw [if_pos (by omega)] | rw [if_neg (by omega)])
  all_goals first | exact h | apply h | rfl | (simp_all [-Bool.forall_bool]; done) | (simp_all [-Bool.forall_bool]; first | exact h | apply h) | (simp_all [-Bool.forall_bool, emp_eq, int_beq]; done) | (simp_all [-Bool.forall_bool]; (intros; simp_all; done)) | (simp_all [-Bool.forall_bool, rdset3, rdset88, rdset53, rdset5, rdset4]; done) | grind
end Go.Proofs.Yteideicglgpfiaa.M2

/- What the print's plain functions answer, the own ones answer. Written by a program of this session. -/
namespace Go.Proofs.Yteideicglgpfiaa.M2
open Go Go.RowKit Go.Proofs.YteideicglgpfiaaW.PrintWords Go.Proofs.Yteideicglgpfiaa.PK
set_option linter.unusedVariables false
set_option linter.unusedSimpArgs false
theorem impl_chunksOf.rel_l (k : Nat) : (∀ x3 x9 x10 x11 x957000 x957001 x957002 r, PK.impl_chunksOf.l0 k x3 x9 x10 x11 x957000 x957001 x957002 = some r → ∀ m, k ≤ m → impl_chunksOf.c3 m x9 x10 x11 x957000 x957001 x957002 x3 = some r) ∧ (∀ x3 x9 x10 x11 x19 x20 x21 x957000 x957001 x957002 r, PK.impl_chunksOf.l1 k x3 x9 x10 x11 x19 x20 x21 x957000 x957001 x957002 = some r → ∀ m, k ≤ m → impl_chunksOf.c6 m x9 x10 x11 x20 x21 x957000 x957001 x957002 x3 x19 = some r) := by
  induction k using Nat.strongRecOn with
  | _ k ih =>
  have il0 := fun k' hk' => (ih k' hk').1
  have il1 := fun k' hk' => (ih k' hk').2
  clear ih
  refine ⟨?_, ?_⟩
  · intro x3 x9 x10 x11 x957000 x957001 x957002 r h m hm
    cases k with
    | zero => simp only [PK.impl_chunksOf.l0] at h; cases h
    | succ k =>
      obtain ⟨m, rfl⟩ : ∃ m', m = m' + 1 := ⟨m - 1, by omega⟩
      rw [PK.impl_chunksOf.l0] at h
      rw [impl_chunksOf.c3]
      try simp only [w64_eq, wu8_eq, gt_iff_lt, ge_iff_le, int_beq, fdiv33, fdiv45, bt_eq, tmodN, rdOfB, rdOfL] at h
      try simp only [shlR]
      try simp only [w64_eq, wu8_eq, gt_iff_lt, ge_iff_le, int_beq, fdiv33, fdiv45, bt_eq, tmodN, rdOfB, rdOfL, rdT3_eq, rdT5_eq, seq, maxI, minI, emp_eq, rdn3, rdn88, rdn53, rdn5, rdn4]
      refine (itE h (fun q h => (itE h (fun q h => (itE h (fun q h => (bnE h (fun _ g h => (fun g => ((fun h => ?_) (il1 _ (by omega) _ _ _ _ _ _ _ _ _ _ _ h m (by omega)))) (impl_AllAt.rel _ _ _ _ g m (by omega))))) (fun q h => (noE h)))) (fun q h => (noE h)))) (fun q h => ?_))
      all_goals clear il0 il1
      all_goals (try cases h)
      all_goals (try simp only [*, if_true, if_false, ↓reduceIte, Option.bind_some, List.length_cons, List.length_nil, List.length_append, Bool.not_true, Bool.not_false, Bool.true_eq_false, Bool.false_eq_true])
      all_goals (repeat first | rw [if_pos (by omega)] | rw [if_neg (by omega)])
      all_goals first | exact h | apply h | rfl | (simp_all [-Bool.forall_bool]; done) | (simp_all [-Bool.forall_bool]; first | exact h | apply h) | (simp_all [-Bool.forall_bool, emp_eq, int_beq]; done) | (simp_all [-Bool.forall_bool]; (intros; simp_all; done)) | (simp_all [-Bool.forall_bool, rdset3, rdset88, rdset53, rdset5, rdset4]; done) | grind
  · intro x3 x9 x10 x11 x19 x20 x21 x957000 x957001 x957002 r h m hm
    cases k with
    | zero => simp only [PK.impl_chunksOf.l1] at h; cases h
    | succ k =>
      obtain ⟨m, rfl⟩ : ∃ m', m = m' + 1 := ⟨m - 1, by omega⟩
      rw [PK.impl_chunksOf.l1] at h
      rw [impl_chunksOf.c6]
      try simp only [w64_eq, wu8_eq, gt_iff_lt, ge_iff_le, int_beq, fdiv33, fdiv45, bt_eq, tmodN, rdOfB, rdOfL] at h
      try simp only [shlR]
      try simp only [w64_eq, wu8_eq, gt_iff_lt, ge_iff_le, int_beq, fdiv33, fdiv45, bt_eq, tmodN, rdOfB, rdOfL, rdT3_eq, rdT5_eq, seq, maxI, minI, emp_eq, rdn3, rdn88, rdn53, rdn5, rdn4]
      refine (itE h (fun q h => (itE h (fun q h => (itE h (fun q h => (itE h (fun q h => (itE h (fun q h => ((fun h => ?_) (il1 _ (by omega) _ _ _ _ _ _ _ _ _ _ _ h m (by omega)))) (fun q h => (noE h)))) (fun q h => ((fun h => ?_) (il1 _ (by omega) _ _ _ _ _ _ _ _ _ _ _ h m (by omega)))))) (fun q h => (noE h)))) (fun q h => (noE h)))) (fun q h => ((fun h => ?_) (il0 _ (by omega) _ _ _ _ _ _ _ _ h m (by omega)))))
      all_goals clear il0 il1
      all_goals (try cases h)
      all_goals (try simp only [*, if_true, if_false, ↓reduceIte, Option.bind_some, List.length_cons, List.length_nil, List.length_append, Bool.not_true, Bool.not_false, Bool.true_eq_false, Bool.false_eq_true])
      all_goals (repeat first | rw [if_pos (by omega)] | rw [if_neg (by omega)])
      all_goals first | exact h | apply h | rfl | (simp_all [-Bool.forall_bool]; done) | (simp_all [-Bool.forall_bool]; first | exact h | apply h) | (simp_all [-Bool.forall_bool, emp_eq, int_beq]; done) | (simp_all [-Bool.forall_bool]; (intros; simp_all; done)) | (simp_all [-Bool.forall_bool, rdset3, rdset88, rdset53, rdset5, rdset4]; done) | grind
theorem impl_chunksOf.rel (k : Nat) (l0_0 : List (S53)) (l0_1 : List (S88)) (a0_2 : Int) (r) (h : PK.impl_chunksOf.f k l0_0 l0_1 a0_2 = some r) (m : Nat) (hm : k ≤ m) : impl_chunksOf.f m l0_0 l0_1 a0_2 = some r := by
  have il0 := fun k' (_ : k' < k + 1) => (impl_chunksOf.rel_l k').1
  have il1 := fun k' (_ : k' < k + 1) => (impl_chunksOf.rel_l k').2
  rw [PK.impl_chunksOf.f] at h
  rw [impl_chunksOf.f]
  try simp only [w64_eq, wu8_eq, gt_iff_lt, ge_iff_le, int_beq, fdiv33, fdiv45, bt_eq, tmodN, rdOfB, rdOfL] at h
  try simp only [shlR]
  try simp only [w64_eq, wu8_eq, gt_iff_lt, ge_iff_le, int_beq, fdiv33, fdiv45, bt_eq, tmodN, rdOfB, rdOfL, rdT3_eq, rdT5_eq, seq, maxI, minI, emp_eq, rdn3, rdn88, rdn53, rdn5, rdn4]
  refine ((fun h => ?_) (il0 _ (by omega) _ _ _ _ _ _ _ _ h m (by omega)))
  all_goals clear il0 il1
  all_goals (try cases h)
  all_goals (try simp only [*, if_true, if_false, ↓reduceIte, Option.bind_some, List.length_cons, List.length_nil, List.length_append, Bool.not_true, Bool.not_false, Bool.true_eq_false, Bool.false_eq_true])
  all_goals (repeat first | rw [if_pos (by omega)] | rw [if_neg (by omega)])
  all_goals first | exact h | apply h | rfl | (simp_all [-Bool.forall_bool]; done) | (simp_all [-Bool.forall_bool]; first | exact h | apply h) | (simp_all [-Bool.forall_bool, emp_eq, int_beq]; done) | (simp_all [-Bool.forall_bool]; (intros; simp_all; done)) | (simp_all [-Bool.forall_bool, rdset3, rdset88, rdset53, rdset5, rdset4]; done) | grind

theorem impl_RefsOf.rel_l (k : Nat) : (∀ x1 x5 x9 x10 x11 r, PK.impl_RefsOf.l0 k x1 x5 x9 x10 x11 = some r → ∀ m, k ≤ m → impl_RefsOf.c3 m x1 x5 x10 x11 x9 = some r) := by
  induction k using Nat.strongRecOn with
  | _ k ih =>
  have il0 := fun k' hk' => (ih k' hk')
  clear ih
  intro x1 x5 x9 x10 x11 r h m hm
  cases k with
  | zero => simp only [PK.impl_RefsOf.l0] at h; cases h
  | succ k =>
    obtain ⟨m, rfl⟩ : ∃ m', m = m' + 1 := ⟨m - 1, by omega⟩
    rw [PK.impl_RefsOf.l0] at h
    rw [impl_RefsOf.c3]
    try simp only [w64_eq, wu8_eq, gt_iff_lt, ge_iff_le, int_beq, fdiv33, fdiv45, bt_eq, tmodN, rdOfB, rdOfL] at h
    try simp only [shlR]
    try simp only [w64_eq, wu8_eq, gt_iff_lt, ge_iff_le, int_beq, fdiv33, fdiv45, bt_eq, tmodN, rdOfB, rdOfL, rdT3_eq, rdT5_eq, seq, maxI, minI, emp_eq, rdn3, rdn88, rdn53, rdn5, rdn4]
    refine (itE h (fun q h => (itE h (fun q h => (itE h (fun q h => (itE h (fun q h => ((fun h => ?_) (il0 _ (by omega) _ _ _ _ _ _ h m (by omega)))) (fun q h => ((fun h => ?_) (il0 _ (by omega) _ _ _ _ _ _ h m (by omega)))))) (fun q h => (noE h)))) (fun q h => (noE h)))) (fun q h => ?_))
    all_goals clear il0
    all_goals (try cases h)
    all_goals (try simp only [*, if_true, if_false, ↓reduceIte, Option.bind_some, List.length_cons, List.length_nil, List.length_append, Bool.not_true, Bool.not_false, Bool.true_eq_false, Bool.false_eq_true])
    all_goals (repeat first | rw [if_pos (by omega)] | rw [if_neg (by omega)])
    all_goals first | exact h | apply h | rfl | (simp_all [-Bool.forall_bool]; done) | (simp_all [-Bool.forall_bool]; first | exact h | apply h) | (simp_all [-Bool.forall_bool, emp_eq, int_beq]; done) | (simp_all [-Bool.forall_bool]; (intros; simp_all; done)) | (simp_all [-Bool.forall_bool, rdset3, rdset88, rdset53, rdset5, rdset4]; done) | grind
theorem impl_RefsOf.rel (k : Nat) (l0_0 : List (S53)) (l0_1 : List (S88)) (a0_2 : Int) (a1 : Int) (r) (h : PK.impl_RefsOf.f k l0_0 l0_1 a0_2 a1 = some r) (m : Nat) (hm : k ≤ m) : impl_RefsOf.f m l0_0 l0_1 a0_2 a1 = some r := by
  have il0 := fun k' (_ : k' < k + 1) => (impl_RefsOf.rel_l k')
  rw [PK.impl_RefsOf.f] at h
  rw [impl_RefsOf.f]
  try simp only [w64_eq, wu8_eq, gt_iff_lt, ge_iff_le, int_beq, fdiv33, fdiv45, bt_eq, tmodN, rdOfB, rdOfL] at h
  try simp only [shlR]
  try simp only [w64_eq, wu8_eq, gt_iff_lt, ge_iff_le, int_beq, fdiv33, fdiv45, bt_eq, tmodN, rdOfB, rdOfL, rdT3_eq, rdT5_eq, seq, maxI, minI, emp_eq, rdn3, rdn88, rdn53, rdn5, rdn4]
  refine (bnE h (fun _ g h => (fun g => ((fun h => ?_) (il0 _ (by omega) _ _ _ _ _ _ h m (by omega)))) (impl_chunksOf.rel _ _ _ _ _ g m (by omega))))
  all_goals clear il0
  all_goals (try cases h)
  all_goals (try simp only [*, if_true, if_false, ↓reduceIte, Option.bind_some, List.length_cons, List.length_nil, List.length_append, Bool.not_true, Bool.not_false, Bool.true_eq_false, Bool.false_eq_true])
  all_goals (repeat first | rw [if_pos (by omega)] | rw [if_neg (by omega)])
  all_goals first | exact h | apply h | rfl | (simp_all [-Bool.forall_bool]; done) | (simp_all [-Bool.forall_bool]; first | exact h | apply h) | (simp_all [-Bool.forall_bool, emp_eq, int_beq]; done) | (simp_all [-Bool.forall_bool]; (intros; simp_all; done)) | (simp_all [-Bool.forall_bool, rdset3, rdset88, rdset53, rdset5, rdset4]; done) | grind
end Go.Proofs.Yteideicglgpfiaa.M2

/- What the print's plain functions answer, the own ones answer. Written by a program of this session. -/
namespace Go.Proofs.Yteideicglgpfiaa.M2
open Go Go.RowKit Go.Proofs.YteideicglgpfiaaW.PrintWords Go.Proofs.Yteideicglgpfiaa.PK
set_option linter.unusedVariables false
set_option linter.unusedSimpArgs false
theorem spec_l11Copy.rel_l (k : Nat) : (∀ x4 x125000 x127000 r, PK.spec_l11Copy.l0 k x4 x125000 x127000 = some r → ∀ m, k ≤ m → ∀ (h66 : List S88), spec_l11Copy.c3 m x4 x125000 h66 x127000 = some r) := by
  induction k using Nat.strongRecOn with
  | _ k ih =>
  have il0 := fun k' hk' => (ih k' hk')
  clear ih
  intro x4 x125000 x127000 r h m hm h66
  cases k with
  | zero => simp only [PK.spec_l11Copy.l0] at h; cases h
  | succ k =>
    obtain ⟨m, rfl⟩ : ∃ m', m = m' + 1 := ⟨m - 1, by omega⟩
    rw [PK.spec_l11Copy.l0] at h
    rw [spec_l11Copy.c3]
    try simp only [w64_eq, wu8_eq, gt_iff_lt, ge_iff_le, int_beq, fdiv33, fdiv45, bt_eq, tmodN, rdOfB, rdOfL] at h
    try simp only [shlR]
    try simp only [w64_eq, wu8_eq, gt_iff_lt, ge_iff_le, int_beq, fdiv33, fdiv45, bt_eq, tmodN, rdOfB, rdOfL, rdT3_eq, rdT5_eq, seq, maxI, minI, emp_eq, rdn3, rdn88, rdn53, rdn5, rdn4]
    refine (itE h (fun q h => (itE h (fun q h => (bsE h (fun h => (itE h (fun q h => (itE h (fun q h => ((fun h => ?_) (il0 _ (by omega) _ _ _ _ h m (by omega)))) (fun q h => (noE h)))) (fun q h => (noE h)))))) (fun q h => (noE h)))) (fun q h => ?_))
    all_goals clear il0
    all_goals (try cases h)
    all_goals (try simp only [*, if_true, if_false, ↓reduceIte, Option.bind_some, List.length_cons, List.length_nil, List.length_append, Bool.not_true, Bool.not_false, Bool.true_eq_false, Bool.false_eq_true])
    all_goals (repeat first | rw [if_pos (by omega)] | rw [if_neg (by omega)])
    all_goals first | exact h | apply h | rfl | (simp_all [-Bool.forall_bool]; done) | (simp_all [-Bool.forall_bool]; first | exact h | apply h) | (simp_all [-Bool.forall_bool, emp_eq, int_beq]; done) | (simp_all [-Bool.forall_bool]; (intros; simp_all; done)) | (simp_all [-Bool.forall_bool, rdset3, rdset88, rdset53, rdset5, rdset4]; done) | grind
theorem spec_l11Copy.rel (k : Nat) (l0_0 : List (S88)) (r) (h : PK.spec_l11Copy.f k l0_0 = some r) (m : Nat) (hm : k ≤ m) : spec_l11Copy.f m l0_0 = some r := by
  have il0 := fun k' (_ : k' < k + 1) => (spec_l11Copy.rel_l k')
  rw [PK.spec_l11Copy.f] at h
  rw [spec_l11Copy.f]
  try simp only [w64_eq, wu8_eq, gt_iff_lt, ge_iff_le, int_beq, fdiv33, fdiv45, bt_eq, tmodN, rdOfB, rdOfL] at h
  try simp only [shlR]
  try simp only [w64_eq, wu8_eq, gt_iff_lt, ge_iff_le, int_beq, fdiv33, fdiv45, bt_eq, tmodN, rdOfB, rdOfL, rdT3_eq, rdT5_eq, seq, maxI, minI, emp_eq, rdn3, rdn88, rdn53, rdn5, rdn4]
  refine ((fun h => ?_) (il0 _ (by omega) _ _ _ _ h m (by omega)))
  all_goals clear il0
  all_goals (try cases h)
  all_goals (try simp only [*, if_true, if_false, ↓reduceIte, Option.bind_some, List.length_cons, List.length_nil, List.length_append, Bool.not_true, Bool.not_false, Bool.true_eq_false, Bool.false_eq_true])
  all_goals (repeat first | rw [if_pos (by omega)] | rw [if_neg (by omega)])
  all_goals first | exact h | apply h | rfl | (simp_all [-Bool.forall_bool]; done) | (simp_all [-Bool.forall_bool]; first | exact h | apply h) | (simp_all [-Bool.forall_bool, emp_eq, int_beq]; done) | (simp_all [-Bool.forall_bool]; (intros; simp_all; done)) | (simp_all [-Bool.forall_bool, rdset3, rdset88, rdset53, rdset5, rdset4]; done) | grind

theorem spec_l11Root.rel (k : Nat) (l0_0 : List (S88)) (a1 : Int) (r) (h : PK.spec_l11Root.f l0_0 a1 = some r) (m : Nat) (hm : k ≤ m) : spec_l11Root.f m l0_0 a1 = some r := by
  rw [PK.spec_l11Root.f] at h
  rw [spec_l11Root.f]
  try simp only [w64_eq, wu8_eq, gt_iff_lt, ge_iff_le, int_beq, fdiv33, fdiv45, bt_eq, tmodN, rdOfB, rdOfL] at h
  try simp only [shlR]
  try simp only [w64_eq, wu8_eq, gt_iff_lt, ge_iff_le, int_beq, fdiv33, fdiv45, bt_eq, tmodN, rdOfB, rdOfL, rdT3_eq, rdT5_eq, seq, maxI, minI, emp_eq, rdn3, rdn88, rdn53, rdn5, rdn4]
  refine (itE h (fun q h => ?_) (fun q h => (bnE h (fun _ g h => (fun g => (itE h (fun q h => (itE h (fun q h => (itE h (fun q h => ?_) (fun q h => (noE h)))) (fun q h => (noE h)))) (fun q h => ?_))) (spec_l01In.rel m _ _ _ _ g m (by omega))))))
  all_goals (try cases h)
  all_goals (try simp only [*, if_true, if_false, ↓reduceIte, Option.bind_some, List.length_cons, List.length_nil, List.length_append, Bool.not_true, Bool.not_false, Bool.true_eq_false, Bool.false_eq_true])
  all_goals (repeat first | rw [if_pos (by omega)] | rw [if_neg (by omega)])
  all_goals first | exact h | apply h | rfl | (simp_all [-Bool.forall_bool]; done) | (simp_all [-Bool.forall_bool]; first | exact h | apply h) | (simp_all [-Bool.forall_bool, emp_eq, int_beq]; done) | (simp_all [-Bool.forall_bool]; (intros; simp_all; done)) | (simp_all [-Bool.forall_bool, rdset3, rdset88, rdset53, rdset5, rdset4]; done) | grind

theorem spec_l11Get.rel (k : Nat) (l0_0 : List (S88)) (a1 : Int) (a2 : Int) (r) (h : PK.spec_l11Get.f l0_0 a1 a2 = some r) (m : Nat) (hm : k ≤ m) : spec_l11Get.f m l0_0 a1 a2 = some r := by
  rw [PK.spec_l11Get.f] at h
  rw [spec_l11Get.f]
  try simp only [w64_eq, wu8_eq, gt_iff_lt, ge_iff_le, int_beq, fdiv33, fdiv45, bt_eq, tmodN, rdOfB, rdOfL] at h
  try simp only [shlR]
  try simp only [w64_eq, wu8_eq, gt_iff_lt, ge_iff_le, int_beq, fdiv33, fdiv45, bt_eq, tmodN, rdOfB, rdOfL, rdT3_eq, rdT5_eq, seq, maxI, minI, emp_eq, rdn3, rdn88, rdn53, rdn5, rdn4]
  refine (itE h (fun q h => ?_) (fun q h => (itE h (fun q h => (itE h (fun q h => (itE h (fun q h => (itE h (fun q h => (itE h (fun q h => ?_) (fun q h => (itE h (fun q h => (itE h (fun q h => (itE h (fun q h => (itE h (fun q h => ?_) (fun q h => (noE h)))) (fun q h => (noE h)))) (fun q h => (noE h)))) (fun q h => (noE h)))))) (fun q h => (noE h)))) (fun q h => (noE h)))) (fun q h => (noE h)))) (fun q h => (noE h)))))
  all_goals (try cases h)
  all_goals (try simp only [*, if_true, if_false, ↓reduceIte, Option.bind_some, List.length_cons, List.length_nil, List.length_append, Bool.not_true, Bool.not_false, Bool.true_eq_false, Bool.false_eq_true])
  all_goals (repeat first | rw [if_pos (by omega)] | rw [if_neg (by omega)])
  all_goals first | exact h | apply h | rfl | (simp_all [-Bool.forall_bool]; done) | (simp_all [-Bool.forall_bool]; first | exact h | apply h) | (simp_all [-Bool.forall_bool, emp_eq, int_beq]; done) | (simp_all [-Bool.forall_bool]; (intros; simp_all; done)) | (simp_all [-Bool.forall_bool, rdset3, rdset88, rdset53, rdset5, rdset4]; done) | grind
end Go.Proofs.Yteideicglgpfiaa.M2

/- What the print's plain functions answer, the own ones answer. Written by a program of this session. -/
namespace Go.Proofs.Yteideicglgpfiaa.M2
open Go Go.RowKit Go.Proofs.YteideicglgpfiaaW.PrintWords Go.Proofs.Yteideicglgpfiaa.PK
set_option linter.unusedVariables false
set_option linter.unusedSimpArgs false
theorem spec_l12At.rel_l (k : Nat) : (∀ x1 x5 x244000 x244001 x244002 r, PK.spec_l12At.l0 k x1 x5 x244000 x244001 x244002 = some r → ∀ m, k ≤ m → spec_l12At.c2 m x1 x5 x244000 x244001 x244002 = some r) := by
  induction k using Nat.strongRecOn with
  | _ k ih =>
  have il0 := fun k' hk' => (ih k' hk')
  clear ih
  intro x1 x5 x244000 x244001 x244002 r h m hm
  cases k with
  | zero => simp only [PK.spec_l12At.l0] at h; cases h
  | succ k =>
    obtain ⟨m, rfl⟩ : ∃ m', m = m' + 1 := ⟨m - 1, by omega⟩
    rw [PK.spec_l12At.l0] at h
    rw [spec_l12At.c2]
    try simp only [w64_eq, wu8_eq, gt_iff_lt, ge_iff_le, int_beq, fdiv33, fdiv45, bt_eq, tmodN, rdOfB, rdOfL] at h
    try simp only [shlR]
    try simp only [w64_eq, wu8_eq, gt_iff_lt, ge_iff_le, int_beq, fdiv33, fdiv45, bt_eq, tmodN, rdOfB, rdOfL, rdT3_eq, rdT5_eq, seq, maxI, minI, emp_eq, rdn3, rdn88, rdn53, rdn5, rdn4]
    refine (itE h (fun q h => (itE h (fun q h => (itE h (fun q h => ?_) (fun q h => ((fun h => ?_) (il0 _ (by omega) _ _ _ _ _ _ h m (by omega)))))) (fun q h => (noE h)))) (fun q h => ?_))
    all_goals clear il0
    all_goals (try cases h)
    all_goals (try simp only [*, if_true, if_false, ↓reduceIte, Option.bind_some, List.length_cons, List.length_nil, List.length_append, Bool.not_true, Bool.not_false, Bool.true_eq_false, Bool.false_eq_true])
    all_goals (repeat first | rw [if_pos (by omega)] | rw [if_neg (by omega)])
    all_goals first | exact h | apply h | rfl | (simp_all [-Bool.forall_bool]; done) | (simp_all [-Bool.forall_bool]; first | exact h | apply h) | (simp_all [-Bool.forall_bool, emp_eq, int_beq]; done) | (simp_all [-Bool.forall_bool]; (intros; simp_all; done)) | (simp_all [-Bool.forall_bool, rdset3, rdset88, rdset53, rdset5, rdset4]; done) | grind
theorem spec_l12At.rel (k : Nat) (l0_0 : List (S53)) (l0_1 : List (S88)) (a0_2 : Int) (a1 : Int) (r) (h : PK.spec_l12At.f k l0_0 l0_1 a0_2 a1 = some r) (m : Nat) (hm : k ≤ m) : spec_l12At.f m l0_0 l0_1 a0_2 a1 = some r := by
  have il0 := fun k' (_ : k' < k + 1) => (spec_l12At.rel_l k')
  rw [PK.spec_l12At.f] at h
  rw [spec_l12At.f]
  try simp only [w64_eq, wu8_eq, gt_iff_lt, ge_iff_le, int_beq, fdiv33, fdiv45, bt_eq, tmodN, rdOfB, rdOfL] at h
  try simp only [shlR]
  try simp only [w64_eq, wu8_eq, gt_iff_lt, ge_iff_le, int_beq, fdiv33, fdiv45, bt_eq, tmodN, rdOfB, rdOfL, rdT3_eq, rdT5_eq, seq, maxI, minI, emp_eq, rdn3, rdn88, rdn53, rdn5, rdn4]
  refine ((fun h => ?_) (il0 _ (by omega) _ _ _ _ _ _ h m (by omega)))
  all_goals clear il0
  all_goals (try cases h)
  all_goals (try simp only [*, if_true, if_false, ↓reduceIte, Option.bind_some, List.length_cons, List.length_nil, List.length_append, Bool.not_true, Bool.not_false, Bool.true_eq_false, Bool.false_eq_true])
  all_goals (repeat first | rw [if_pos (by omega)] | rw [if_neg (by omega)])
  all_goals first | exact h | apply h | rfl | (simp_all [-Bool.forall_bool]; done) | (simp_all [-Bool.forall_bool]; first | exact h | apply h) | (simp_all [-Bool.forall_bool, emp_eq, int_beq]; done) | (simp_all [-Bool.forall_bool]; (intros; simp_all; done)) | (simp_all [-Bool.forall_bool, rdset3, rdset88, rdset53, rdset5, rdset4]; done) | grind

theorem spec_l11Has.rel_l (k : Nat) : (∀ x1 x5 x6 x139000 r, PK.spec_l11Has.l0 k x1 x5 x6 x139000 = some r → ∀ m, k ≤ m → spec_l11Has.c6 m x1 x6 x139000 x5 = some r) := by
  induction k using Nat.strongRecOn with
  | _ k ih =>
  have il0 := fun k' hk' => (ih k' hk')
  clear ih
  intro x1 x5 x6 x139000 r h m hm
  cases k with
  | zero => simp only [PK.spec_l11Has.l0] at h; cases h
  | succ k =>
    obtain ⟨m, rfl⟩ : ∃ m', m = m' + 1 := ⟨m - 1, by omega⟩
    rw [PK.spec_l11Has.l0] at h
    rw [spec_l11Has.c6]
    try simp only [w64_eq, wu8_eq, gt_iff_lt, ge_iff_le, int_beq, fdiv33, fdiv45, bt_eq, tmodN, rdOfB, rdOfL] at h
    try simp only [shlR]
    try simp only [w64_eq, wu8_eq, gt_iff_lt, ge_iff_le, int_beq, fdiv33, fdiv45, bt_eq, tmodN, rdOfB, rdOfL, rdT3_eq, rdT5_eq, seq, maxI, minI, emp_eq, rdn3, rdn88, rdn53, rdn5, rdn4]
    refine (itE h (fun q h => (itE h (fun q h => (itE h (fun q h => (itE h (fun q h => (itE h (fun q h => (itE h (fun q h => (itE h (fun q h => (itE h (fun q h => ((fun h => ?_) (il0 _ (by omega) _ _ _ _ _ h m (by omega)))) (fun q h => (noE h)))) (fun q h => (noE h)))) (fun q h => ((fun h => ?_) (il0 _ (by omega) _ _ _ _ _ h m (by omega)))))) (fun q h => (noE h)))) (fun q h => (noE h)))) (fun q h => (noE h)))) (fun q h => (noE h)))) (fun q h => ?_))
    all_goals clear il0
    all_goals (try cases h)
    all_goals (try simp only [*, if_true, if_false, ↓reduceIte, Option.bind_some, List.length_cons, List.length_nil, List.length_append, Bool.not_true, Bool.not_false, Bool.true_eq_false, Bool.false_eq_true])
    all_goals (repeat first | rw [if_pos (by omega)] | rw [if_neg (by omega)])
    all_goals first | exact h | apply h | rfl | (simp_all [-Bool.forall_bool]; done) | (simp_all [-Bool.forall_bool]; first | exact h | apply h) | (simp_all [-Bool.forall_bool, emp_eq, int_beq]; done) | (simp_all [-Bool.forall_bool]; (intros; simp_all; done)) | (simp_all [-Bool.forall_bool, rdset3, rdset88, rdset53, rdset5, rdset4]; done) | grind
theorem spec_l11Has.rel (k : Nat) (l0_0 : List (S88)) (a1 : Int) (r) (h : PK.spec_l11Has.f k l0_0 a1 = some r) (m : Nat) (hm : k ≤ m) : spec_l11Has.f m l0_0 a1 = some r := by
  have il0 := fun k' (_ : k' < k + 1) => (spec_l11Has.rel_l k')
  rw [PK.spec_l11Has.f] at h
  rw [spec_l11Has.f]
  try simp only [w64_eq, wu8_eq, gt_iff_lt, ge_iff_le, int_beq, fdiv33, fdiv45, bt_eq, tmodN, rdOfB, rdOfL] at h
  try simp only [shlR]
  try simp only [w64_eq, wu8_eq, gt_iff_lt, ge_iff_le, int_beq, fdiv33, fdiv45, bt_eq, tmodN, rdOfB, rdOfL, rdT3_eq, rdT5_eq, seq, maxI, minI, emp_eq, rdn3, rdn88, rdn53, rdn5, rdn4]
  refine (itE h (fun q h => (itE h (fun q h => (bsE h (fun h => (itE h (fun q h => ?_) (fun q h => (itE h (fun q h => (itE h (fun q h => ((fun h => ?_) (il0 _ (by omega) _ _ _ _ _ h m (by omega)))) (fun q h => (noE h)))) (fun q h => (noE h)))))))) (fun q h => (noE h)))) (fun q h => (noE h)))
  all_goals clear il0
  all_goals (try cases h)
  all_goals (try simp only [*, if_true, if_false, ↓reduceIte, Option.bind_some, List.length_cons, List.length_nil, List.length_append, Bool.not_true, Bool.not_false, Bool.true_eq_false, Bool.false_eq_true])
  all_goals (repeat first | rw [if_pos (by omega)] | rw [if_neg (by omega)])
  all_goals first | exact h | apply h | rfl | (simp_all [-Bool.forall_bool]; done) | (simp_all [-Bool.forall_bool]; first | exact h | apply h) | (simp_all [-Bool.forall_bool, emp_eq, int_beq]; done) | (simp_all [-Bool.forall_bool]; (intros; simp_all; done)) | (simp_all [-Bool.forall_bool, rdset3, rdset88, rdset53, rdset5, rdset4]; done) | grind
end Go.Proofs.Yteideicglgpfiaa.M2

/- What the print's plain functions answer, the own ones answer. Written by a program of this session. -/
namespace Go.Proofs.Yteideicglgpfiaa.M2
open Go Go.RowKit Go.Proofs.YteideicglgpfiaaW.PrintWords Go.Proofs.Yteideicglgpfiaa.PK
set_option linter.unusedVariables false
set_option linter.unusedSimpArgs false
theorem spec_GetAt.rel (k : Nat) (l0_0 : List (S88)) (a1 : Int) (a2 : Int) (r) (h : PK.spec_GetAt.f k l0_0 a1 a2 = some r) (m : Nat) (hm : k ≤ m) : spec_GetAt.f m l0_0 a1 a2 = some r := by
  rw [PK.spec_GetAt.f] at h
  rw [spec_GetAt.f]
  try simp only [w64_eq, wu8_eq, gt_iff_lt, ge_iff_le, int_beq, fdiv33, fdiv45, bt_eq, tmodN, rdOfB, rdOfL] at h
  try simp only [shlR]
  try simp only [w64_eq, wu8_eq, gt_iff_lt, ge_iff_le, int_beq, fdiv33, fdiv45, bt_eq, tmodN, rdOfB, rdOfL, rdT3_eq, rdT5_eq, seq, maxI, minI, emp_eq, rdn3, rdn88, rdn53, rdn5, rdn4]
  refine (bnE h (fun _ g h => (fun g => (itE h (fun q h => (bnE h (fun _ g h => (fun g => (itE h (fun q h => (bnE h (fun _ g h => (fun g => (itE h (fun q h => (bnE h (fun _ g h => (fun g => ?_) (spec_l11Get.rel m _ _ _ _ g m (by omega))))) (fun q h => ?_))) (spec_l01In.rel m _ _ _ _ g m (by omega))))) (fun q h => ?_))) (spec_l11Root.rel m _ _ _ g m (by omega))))) (fun q h => ?_))) (spec_ArenaOk.rel _ _ _ g m (by omega))))
  all_goals (try cases h)
  all_goals (try simp only [*, if_true, if_false, ↓reduceIte, Option.bind_some, List.length_cons, List.length_nil, List.length_append, Bool.not_true, Bool.not_false, Bool.true_eq_false, Bool.false_eq_true])
  all_goals (repeat first | rw [if_pos (by omega)] | rw [if_neg (by omega)])
  all_goals first | exact h | apply h | rfl | (simp_all [-Bool.forall_bool]; done) | (simp_all [-Bool.forall_bool]; first | exact h | apply h) | (simp_all [-Bool.forall_bool, emp_eq, int_beq]; done) | (simp_all [-Bool.forall_bool]; (intros; simp_all; done)) | (simp_all [-Bool.forall_bool, rdset3, rdset88, rdset53, rdset5, rdset4]; done) | grind

theorem spec_ChunkOf.rel (k : Nat) (l0_0 : List (S53)) (l0_1 : List (S88)) (a0_2 : Int) (a1 : Int) (a2 : Int) (r) (h : PK.spec_ChunkOf.f k l0_0 l0_1 a0_2 a1 a2 = some r) (m : Nat) (hm : k ≤ m) : spec_ChunkOf.f m l0_0 l0_1 a0_2 a1 a2 = some r := by
  rw [PK.spec_ChunkOf.f] at h
  rw [spec_ChunkOf.f]
  try simp only [w64_eq, wu8_eq, gt_iff_lt, ge_iff_le, int_beq, fdiv33, fdiv45, bt_eq, tmodN, rdOfB, rdOfL] at h
  try simp only [shlR]
  try simp only [w64_eq, wu8_eq, gt_iff_lt, ge_iff_le, int_beq, fdiv33, fdiv45, bt_eq, tmodN, rdOfB, rdOfL, rdT3_eq, rdT5_eq, seq, maxI, minI, emp_eq, rdn3, rdn88, rdn53, rdn5, rdn4]
  refine (bnE h (fun _ g h => (fun g => (itE h (fun q h => ?_) (fun q h => (itE h (fun q h => (itE h (fun q h => (bnE h (fun _ g h => (fun g => ?_) (spec_GetAt.rel _ _ _ _ _ g m (by omega))))) (fun q h => (noE h)))) (fun q h => (noE h)))))) (spec_l12At.rel _ _ _ _ _ _ g m (by omega))))
  all_goals (try cases h)
  all_goals (try simp only [*, if_true, if_false, ↓reduceIte, Option.bind_some, List.length_cons, List.length_nil, List.length_append, Bool.not_true, Bool.not_false, Bool.true_eq_false, Bool.false_eq_true])
  all_goals (repeat first | rw [if_pos (by omega)] | rw [if_neg (by omega)])
  all_goals first | exact h | apply h | rfl | (simp_all [-Bool.forall_bool]; done) | (simp_all [-Bool.forall_bool]; first | exact h | apply h) | (simp_all [-Bool.forall_bool, emp_eq, int_beq]; done) | (simp_all [-Bool.forall_bool]; (intros; simp_all; done)) | (simp_all [-Bool.forall_bool, rdset3, rdset88, rdset53, rdset5, rdset4]; done) | grind

theorem spec_DrawPlaces.rel_l (k : Nat) : (∀ x4 x5 x1248000 x1248001 x1248002 r, PK.spec_DrawPlaces.l0 k x4 x5 x1248000 x1248001 x1248002 = some r → ∀ m, k ≤ m → spec_DrawPlaces.c5 m x5 x1248000 x1248001 x1248002 x4 = some r) := by
  induction k using Nat.strongRecOn with
  | _ k ih =>
  have il0 := fun k' hk' => (ih k' hk')
  clear ih
  intro x4 x5 x1248000 x1248001 x1248002 r h m hm
  cases k with
  | zero => simp only [PK.spec_DrawPlaces.l0] at h; cases h
  | succ k =>
    obtain ⟨m, rfl⟩ : ∃ m', m = m' + 1 := ⟨m - 1, by omega⟩
    rw [PK.spec_DrawPlaces.l0] at h
    rw [spec_DrawPlaces.c5]
    try simp only [w64_eq, wu8_eq, gt_iff_lt, ge_iff_le, int_beq, fdiv33, fdiv45, bt_eq, tmodN, rdOfB, rdOfL] at h
    try simp only [shlR]
    try simp only [w64_eq, wu8_eq, gt_iff_lt, ge_iff_le, int_beq, fdiv33, fdiv45, bt_eq, tmodN, rdOfB, rdOfL, rdT3_eq, rdT5_eq, seq, maxI, minI, emp_eq, rdn3, rdn88, rdn53, rdn5, rdn4]
    refine (itE h (fun q h => (bnE h (fun _ g h => (fun g => (itE h (fun q h => ((fun h => ?_) (il0 _ (by omega) _ _ _ _ _ _ h m (by omega)))) (fun q h => (noE h)))) (spec_l01Below.rel m _ _ _ _ _ g m (by omega))))) (fun q h => ?_))
    all_goals clear il0
    all_goals (try cases h)
    all_goals (try simp only [*, if_true, if_false, ↓reduceIte, Option.bind_some, List.length_cons, List.length_nil, List.length_append, Bool.not_true, Bool.not_false, Bool.true_eq_false, Bool.false_eq_true])
    all_goals (repeat first | rw [if_pos (by omega)] | rw [if_neg (by omega)])
    all_goals first | exact h | apply h | rfl | (simp_all [-Bool.forall_bool]; done) | (simp_all [-Bool.forall_bool]; first | exact h | apply h) | (simp_all [-Bool.forall_bool, emp_eq, int_beq]; done) | (simp_all [-Bool.forall_bool]; (intros; simp_all; done)) | (simp_all [-Bool.forall_bool, rdset3, rdset88, rdset53, rdset5, rdset4]; done) | grind
theorem spec_DrawPlaces.rel (k : Nat) (l0 : List Int) (r) (h : PK.spec_DrawPlaces.f k l0 = some r) (m : Nat) (hm : k ≤ m) : spec_DrawPlaces.f m l0 = some r := by
  have il0 := fun k' (_ : k' < k + 1) => (spec_DrawPlaces.rel_l k')
  rw [PK.spec_DrawPlaces.f] at h
  rw [spec_DrawPlaces.f]
  try simp only [w64_eq, wu8_eq, gt_iff_lt, ge_iff_le, int_beq, fdiv33, fdiv45, bt_eq, tmodN, rdOfB, rdOfL] at h
  try simp only [shlR]
  try simp only [w64_eq, wu8_eq, gt_iff_lt, ge_iff_le, int_beq, fdiv33, fdiv45, bt_eq, tmodN, rdOfB, rdOfL, rdT3_eq, rdT5_eq, seq, maxI, minI, emp_eq, rdn3, rdn88, rdn53, rdn5, rdn4]
  refine (bnE h (fun _ g h => (fun g => (bnE h (fun _ g h => (fun g => ((fun h => ?_) (il0 _ (by omega) _ _ _ _ _ _ h m (by omega)))) (spec_l01Byte.rel m _ _ _ _ g m (by omega))))) (spec_l01New.rel _ _ _ g m (by omega))))
  all_goals clear il0
  all_goals (try cases h)
  all_goals (try simp only [*, if_true, if_false, ↓reduceIte, Option.bind_some, List.length_cons, List.length_nil, List.length_append, Bool.not_true, Bool.not_false, Bool.true_eq_false, Bool.false_eq_true])
  all_goals (repeat first | rw [if_pos (by omega)] | rw [if_neg (by omega)])
  all_goals first | exact h | apply h | rfl | (simp_all [-Bool.forall_bool]; done) | (simp_all [-Bool.forall_bool]; first | exact h | apply h) | (simp_all [-Bool.forall_bool, emp_eq, int_beq]; done) | (simp_all [-Bool.forall_bool]; (intros; simp_all; done)) | (simp_all [-Bool.forall_bool, rdset3, rdset88, rdset53, rdset5, rdset4]; done) | grind
end Go.Proofs.Yteideicglgpfiaa.M2

/- What the print's plain functions answer, the own ones answer. Written by a program of this session. -/
namespace Go.Proofs.Yteideicglgpfiaa.M2
open Go Go.RowKit Go.Proofs.YteideicglgpfiaaW.PrintWords Go.Proofs.Yteideicglgpfiaa.PK
set_option linter.unusedVariables false
set_option linter.unusedSimpArgs false
theorem spec_RecOk.rel (k : Nat) (a0_0 : Int) (a0_1 : Int) (a0_2 : Int) (a0_3 : Int) (r) (h : PK.spec_RecOk.f k a0_0 a0_1 a0_2 a0_3 = some r) (m : Nat) (hm : k ≤ m) : spec_RecOk.f m a0_0 a0_1 a0_2 a0_3 = some r := by
  rw [PK.spec_RecOk.f] at h
  rw [spec_RecOk.f]
  try simp only [w64_eq, wu8_eq, gt_iff_lt, ge_iff_le, int_beq, fdiv33, fdiv45, bt_eq, tmodN, rdOfB, rdOfL] at h
  try simp only [shlR]
  try simp only [w64_eq, wu8_eq, gt_iff_lt, ge_iff_le, int_beq, fdiv33, fdiv45, bt_eq, tmodN, rdOfB, rdOfL, rdT3_eq, rdT5_eq, seq, maxI, minI, emp_eq, rdn3, rdn88, rdn53, rdn5, rdn4]
  refine (bnE h (fun _ g h => (fun g => (itE h (fun q h => (itE h (fun q h => (itE h (fun q h => ?_) (fun q h => ?_))) (fun q h => (bnE h (fun _ g h => (fun g => (itE h (fun q h => (bnE h (fun _ g h => (fun g => (itE h (fun q h => (itE h (fun q h => (by cases k with | zero => (simp only [PK.spec_RecOk.j0] at h; cases h) | succ k => (rw [PK.spec_RecOk.j0] at h; (try simp only [w64_eq, wu8_eq, gt_iff_lt, ge_iff_le, int_beq, fdiv33, fdiv45, bt_eq, tmodN, rdOfB, rdOfL] at h); refine (itE h (fun q h => ?_) (fun q h => (itE h (fun q h => ?_) (fun q h => (itE h (fun q h => ?_) (fun q h => (itE h (fun q h => (itE h (fun q h => (bnE h (fun _ g h => (fun g => ?_) (spec_l01In.rel m _ _ _ _ g m (by omega))))) (fun q h => ?_))) (fun q h => ?_)))))))) <;> ((try cases h); (try simp only [*, if_true, if_false, ↓reduceIte, Option.bind_some, List.length_cons, List.length_nil, List.length_append, Bool.not_true, Bool.not_false, Bool.true_eq_false, Bool.false_eq_true]); all_goals (repeat first | rw [if_pos (by omega)] | rw [if_neg (by omega)]); all_goals (first | exact h | apply h | rfl | (simp_all [-Bool.forall_bool]; done) | (simp_all [-Bool.forall_bool]; first | exact h | apply h) | (simp_all [-Bool.forall_bool, emp_eq, int_beq]; done) | (simp_all [-Bool.forall_bool]; (intros; simp_all; done)) | (simp_all [-Bool.forall_bool, rdset3, rdset88, rdset53, rdset5, rdset4]; done) | grind))))) (fun q h => (by cases k with | zero => (simp only [PK.spec_RecOk.j0] at h; cases h) | succ k => (rw [PK.spec_RecOk.j0] at h; (try simp only [w64_eq, wu8_eq, gt_iff_lt, ge_iff_le, int_beq, fdiv33, fdiv45, bt_eq, tmodN, rdOfB, rdOfL] at h); refine (itE h (fun q h => ?_) (fun q h => (itE h (fun q h => ?_) (fun q h => (itE h (fun q h => ?_) (fun q h => (itE h (fun q h => (itE h (fun q h => (bnE h (fun _ g h => (fun g => ?_) (spec_l01In.rel m _ _ _ _ g m (by omega))))) (fun q h => ?_))) (fun q h => ?_)))))))) <;> ((try cases h); (try simp only [*, if_true, if_false, ↓reduceIte, Option.bind_some, List.length_cons, List.length_nil, List.length_append, Bool.not_true, Bool.not_false, Bool.true_eq_false, Bool.false_eq_true]); all_goals (repeat first | rw [if_pos (by omega)] | rw [if_neg (by omega)]); all_goals (first | exact h | apply h | rfl | (simp_all [-Bool.forall_bool]; done) | (simp_all [-Bool.forall_bool]; first | exact h | apply h) | (simp_all [-Bool.forall_bool, emp_eq, int_beq]; done) | (simp_all [-Bool.forall_bool]; (intros; simp_all; done)) | (simp_all [-Bool.forall_bool, rdset3, rdset88, rdset53, rdset5, rdset4]; done) | grind))))))) (fun q h => (by cases k with | zero => (simp only [PK.spec_RecOk.j0] at h; cases h) | succ k => (rw [PK.spec_RecOk.j0] at h; (try simp only [w64_eq, wu8_eq, gt_iff_lt, ge_iff_le, int_beq, fdiv33, fdiv45, bt_eq, tmodN, rdOfB, rdOfL] at h); refine (itE h (fun q h => ?_) (fun q h => (itE h (fun q h => ?_) (fun q h => (itE h (fun q h => ?_) (fun q h => (itE h (fun q h => (itE h (fun q h => (bnE h (fun _ g h => (fun g => ?_) (spec_l01In.rel m _ _ _ _ g m (by omega))))) (fun q h => ?_))) (fun q h => ?_)))))))) <;> ((try cases h); (try simp only [*, if_true, if_false, ↓reduceIte, Option.bind_some, List.length_cons, List.length_nil, List.length_append, Bool.not_true, Bool.not_false, Bool.true_eq_false, Bool.false_eq_true]); all_goals (repeat first | rw [if_pos (by omega)] | rw [if_neg (by omega)]); all_goals (first | exact h | apply h | rfl | (simp_all [-Bool.forall_bool]; done) | (simp_all [-Bool.forall_bool]; first | exact h | apply h) | (simp_all [-Bool.forall_bool, emp_eq, int_beq]; done) | (simp_all [-Bool.forall_bool]; (intros; simp_all; done)) | (simp_all [-Bool.forall_bool, rdset3, rdset88, rdset53, rdset5, rdset4]; done) | grind))))))) (spec_l01In.rel m _ _ _ _ g m (by omega))))) (fun q h => (by cases k with | zero => (simp only [PK.spec_RecOk.j0] at h; cases h) | succ k => (rw [PK.spec_RecOk.j0] at h; (try simp only [w64_eq, wu8_eq, gt_iff_lt, ge_iff_le, int_beq, fdiv33, fdiv45, bt_eq, tmodN, rdOfB, rdOfL] at h); refine (itE h (fun q h => ?_) (fun q h => (itE h (fun q h => ?_) (fun q h => (itE h (fun q h => ?_) (fun q h => (itE h (fun q h => (itE h (fun q h => (bnE h (fun _ g h => (fun g => ?_) (spec_l01In.rel m _ _ _ _ g m (by omega))))) (fun q h => ?_))) (fun q h => ?_)))))))) <;> ((try cases h); (try simp only [*, if_true, if_false, ↓reduceIte, Option.bind_some, List.length_cons, List.length_nil, List.length_append, Bool.not_true, Bool.not_false, Bool.true_eq_false, Bool.false_eq_true]); all_goals (repeat first | rw [if_pos (by omega)] | rw [if_neg (by omega)]); all_goals (first | exact h | apply h | rfl | (simp_all [-Bool.forall_bool]; done) | (simp_all [-Bool.forall_bool]; first | exact h | apply h) | (simp_all [-Bool.forall_bool, emp_eq, int_beq]; done) | (simp_all [-Bool.forall_bool]; (intros; simp_all; done)) | (simp_all [-Bool.forall_bool, rdset3, rdset88, rdset53, rdset5, rdset4]; done) | grind))))))) (spec_l01In.rel m _ _ _ _ g m (by omega))))))) (fun q h => ?_))) (spec_l01In.rel m _ _ _ _ g m (by omega))))
  all_goals (try cases h)
  all_goals (try simp only [*, if_true, if_false, ↓reduceIte, Option.bind_some, List.length_cons, List.length_nil, List.length_append, Bool.not_true, Bool.not_false, Bool.true_eq_false, Bool.false_eq_true])
  all_goals (repeat first | rw [if_pos (by omega)] | rw [if_neg (by omega)])
  all_goals first | exact h | apply h | rfl | (simp_all [-Bool.forall_bool]; done) | (simp_all [-Bool.forall_bool]; first | exact h | apply h) | (simp_all [-Bool.forall_bool, emp_eq, int_beq]; done) | (simp_all [-Bool.forall_bool]; (intros; simp_all; done)) | (simp_all [-Bool.forall_bool, rdset3, rdset88, rdset53, rdset5, rdset4]; done) | grind
end Go.Proofs.Yteideicglgpfiaa.M2

/- What the print's plain functions answer, the own ones answer. Written by a program of this session. -/
namespace Go.Proofs.Yteideicglgpfiaa.M2
open Go Go.RowKit Go.Proofs.YteideicglgpfiaaW.PrintWords Go.Proofs.Yteideicglgpfiaa.PK
set_option linter.unusedVariables false
set_option linter.unusedSimpArgs false
theorem spec_SweepArena.rel_l (k : Nat) : (∀ x1 x6 x7 x8 x149000 r, PK.spec_SweepArena.l0 k x1 x6 x7 x8 x149000 = some r → ∀ m, k ≤ m → ∀ (h66 : List S88), spec_SweepArena.c4 m x1 x7 x8 x149000 h66 x6 = some (r.1, r.2)) ∧ (∀ x1 x6 x9 x10 x149000 r, PK.spec_SweepArena.l1 k x1 x6 x9 x10 x149000 = some r → ∀ m, k ≤ m → ∀ (h66 : List S88), spec_SweepArena.c11 m x1 x10 x149000 h66 x6 x9 = some (r.1, r.2)) ∧ (∀ x1 x6 x9 x10 x11 x12 x149000 r, PK.spec_SweepArena.l2 k x1 x6 x9 x10 x11 x12 x149000 = some r → ∀ m, k ≤ m → ∀ (h66 : List S88), spec_SweepArena.c15 m x1 x10 x12 x149000 h66 x6 x9 x11 = some (r.1, r.2)) ∧ (∀ x6 x9 x13 x15 x149000 x177000 r, PK.spec_SweepArena.l3 k x6 x9 x13 x15 x149000 x177000 = some r → ∀ m, k ≤ m → ∀ (h66 : List S88), spec_SweepArena.c21 m x15 x149000 h66 x6 x9 x13 x177000 = some (r.1, r.2)) ∧ (∀ x6 x9 x13 x15 x17 x149000 x177000 x187000 x187001 r, PK.spec_SweepArena.l4 k x6 x9 x13 x15 x17 x149000 x177000 x187000 x187001 = some r → ∀ m, k ≤ m → ∀ (h66 : List S88), spec_SweepArena.c26 m x15 x17 x149000 h66 x6 x9 x13 (x177000) x187001 x187000 = some (r.1, r.2)) ∧ (∀ x6 x13 x18 x177000 r, PK.spec_SweepArena.l5 k x6 x13 x18 x177000 = some r → ∀ m, k ≤ m → ∀ (h65 : List S88), spec_SweepArena.c33 m x18 h65 x6 x13 x177000 = some (r.1, r.2)) := by
  induction k using Nat.strongRecOn with
  | _ k ih =>
  have il0 := fun k' hk' => (ih k' hk').1
  have il1 := fun k' hk' => (ih k' hk').2.1
  have il2 := fun k' hk' => (ih k' hk').2.2.1
  have il3 := fun k' hk' => (ih k' hk').2.2.2.1
  have il4 := fun k' hk' => (ih k' hk').2.2.2.2.1
  have il5 := fun k' hk' => (ih k' hk').2.2.2.2.2
  clear ih
  refine ⟨?_, ?_, ?_, ?_, ?_, ?_⟩
  · intro x1 x6 x7 x8 x149000 r h m hm h66
    cases k with
    | zero => simp only [PK.spec_SweepArena.l0] at h; cases h
    | succ k =>
      obtain ⟨m, rfl⟩ : ∃ m', m = m' + 1 := ⟨m - 1, by omega⟩
      rw [PK.spec_SweepArena.l0] at h
      rw [spec_SweepArena.c4]
      try simp only [w64_eq, wu8_eq, gt_iff_lt, ge_iff_le, int_beq, fdiv33, fdiv45, bt_eq, tmodN, rdOfB, rdOfL] at h
      try simp only [shlR]
      try simp only [w64_eq, wu8_eq, gt_iff_lt, ge_iff_le, int_beq, fdiv33, fdiv45, bt_eq, tmodN, rdOfB, rdOfL, rdT3_eq, rdT5_eq, seq, maxI, minI, emp_eq, rdn3, rdn88, rdn53, rdn5, rdn4]
      refine (itE h (fun q h => (itE h (fun q h => (itE h (fun q h => (bnE h (fun _ g h => (fun g => ((fun h => ?_) (il0 _ (by omega) _ _ _ _ _ _ h m (by omega)))) (spec_l11Root.rel m _ _ _ g m (by omega))))) (fun q h => (noE h)))) (fun q h => (by cases k with | zero => (simp only [PK.spec_SweepArena.j1] at h; cases h) | succ k => (rw [PK.spec_SweepArena.j1] at h; (try simp only [w64_eq, wu8_eq, gt_iff_lt, ge_iff_le, int_beq, fdiv33, fdiv45, bt_eq, tmodN, rdOfB, rdOfL] at h); refine (itE h (fun q h => (itE h (fun q h => (itE h (fun q h => ((fun h => ?_) (il1 _ (by omega) _ _ _ _ _ _ h m (by omega)))) (fun q h => (noE h)))) (fun q h => (noE h)))) (fun q h => (bnE h (fun _ g h => (fun g => ?_) (spec_l11Copy.rel _ _ _ g m (by omega)))))) <;> ((try cases h); (try simp only [*, if_true, if_false, ↓reduceIte, Option.bind_some, List.length_cons, List.length_nil, List.length_append, Bool.not_true, Bool.not_false, Bool.true_eq_false, Bool.false_eq_true]); all_goals (repeat first | rw [if_pos (by omega)] | rw [if_neg (by omega)]); all_goals (first | exact h | apply h | rfl | (simp_all [-Bool.forall_bool]; done) | (simp_all [-Bool.forall_bool]; first | exact h | apply h) | (simp_all [-Bool.forall_bool, emp_eq, int_beq]; done) | (simp_all [-Bool.forall_bool]; (intros; simp_all; done)) | (simp_all [-Bool.forall_bool, rdset3, rdset88, rdset53, rdset5, rdset4]; done) | grind))))))) (fun q h => (by cases k with | zero => (simp only [PK.spec_SweepArena.j1] at h; cases h) | succ k => (rw [PK.spec_SweepArena.j1] at h; (try simp only [w64_eq, wu8_eq, gt_iff_lt, ge_iff_le, int_beq, fdiv33, fdiv45, bt_eq, tmodN, rdOfB, rdOfL] at h); refine (itE h (fun q h => (itE h (fun q h => (itE h (fun q h => ((fun h => ?_) (il1 _ (by omega) _ _ _ _ _ _ h m (by omega)))) (fun q h => (noE h)))) (fun q h => (noE h)))) (fun q h => (bnE h (fun _ g h => (fun g => ?_) (spec_l11Copy.rel _ _ _ g m (by omega)))))) <;> ((try cases h); (try simp only [*, if_true, if_false, ↓reduceIte, Option.bind_some, List.length_cons, List.length_nil, List.length_append, Bool.not_true, Bool.not_false, Bool.true_eq_false, Bool.false_eq_true]); all_goals (repeat first | rw [if_pos (by omega)] | rw [if_neg (by omega)]); all_goals (first | exact h | apply h | rfl | (simp_all [-Bool.forall_bool]; done) | (simp_all [-Bool.forall_bool]; first | exact h | apply h) | (simp_all [-Bool.forall_bool, emp_eq, int_beq]; done) | (simp_all [-Bool.forall_bool]; (intros; simp_all; done)) | (simp_all [-Bool.forall_bool, rdset3, rdset88, rdset53, rdset5, rdset4]; done) | grind))))))
      all_goals clear il0 il1 il2 il3 il4 il5
      all_goals (try cases h)
      all_goals (try simp only [*, if_true, if_false, ↓reduceIte, Option.bind_some, List.length_cons, List.length_nil, List.length_append, Bool.not_true, Bool.not_false, Bool.true_eq_false, Bool.false_eq_true])
      all_goals (repeat first | rw [if_pos (by omega)] | rw [if_neg (by omega)])
      all_goals first | exact h | apply h | rfl | (simp_all [-Bool.forall_bool]; done) | (simp_all [-Bool.forall_bool]; first | exact h | apply h) | (simp_all [-Bool.forall_bool, emp_eq, int_beq]; done) | (simp_all [-Bool.forall_bool]; (intros; simp_all; done)) | (simp_all [-Bool.forall_bool, rdset3, rdset88, rdset53, rdset5, rdset4]; done) | grind
  · intro x1 x6 x9 x10 x149000 r h m hm h66
    cases k with
    | zero => simp only [PK.spec_SweepArena.l1] at h; cases h
    | succ k =>
      obtain ⟨m, rfl⟩ : ∃ m', m = m' + 1 := ⟨m - 1, by omega⟩
      rw [PK.spec_SweepArena.l1] at h
      rw [spec_SweepArena.c11]
      try simp only [w64_eq, wu8_eq, gt_iff_lt, ge_iff_le, int_beq, fdiv33, fdiv45, bt_eq, tmodN, rdOfB, rdOfL] at h
      try simp only [shlR]
      try simp only [w64_eq, wu8_eq, gt_iff_lt, ge_iff_le, int_beq, fdiv33, fdiv45, bt_eq, tmodN, rdOfB, rdOfL, rdT3_eq, rdT5_eq, seq, maxI, minI, emp_eq, rdn3, rdn88, rdn53, rdn5, rdn4]
      refine (itE h (fun q h => (itE h (fun q h => (bnE h (fun _ g h => (fun g => ((fun h => ?_) (il2 _ (by omega) _ _ _ _ _ _ _ _ h m (by omega)))) (spec_l11Has.rel _ _ _ _ g m (by omega))))) (fun q h => (noE h)))) (fun q h => (itE h (fun q h => (itE h (fun q h => ((fun h => ?_) (il3 _ (by omega) _ _ _ _ _ _ _ h m (by omega)))) (fun q h => (noE h)))) (fun q h => (noE h)))))
      all_goals clear il0 il1 il2 il3 il4 il5
      all_goals (try cases h)
      all_goals (try simp only [*, if_true, if_false, ↓reduceIte, Option.bind_some, List.length_cons, List.length_nil, List.length_append, Bool.not_true, Bool.not_false, Bool.true_eq_false, Bool.false_eq_true])
      all_goals (repeat first | rw [if_pos (by omega)] | rw [if_neg (by omega)])
      all_goals first | exact h | apply h | rfl | (simp_all [-Bool.forall_bool]; done) | (simp_all [-Bool.forall_bool]; first | exact h | apply h) | (simp_all [-Bool.forall_bool, emp_eq, int_beq]; done) | (simp_all [-Bool.forall_bool]; (intros; simp_all; done)) | (simp_all [-Bool.forall_bool, rdset3, rdset88, rdset53, rdset5, rdset4]; done) | grind
  · intro x1 x6 x9 x10 x11 x12 x149000 r h m hm h66
    cases k with
    | zero => simp only [PK.spec_SweepArena.l2] at h; cases h
    | succ k =>
      obtain ⟨m, rfl⟩ : ∃ m', m = m' + 1 := ⟨m - 1, by omega⟩
      rw [PK.spec_SweepArena.l2] at h
      rw [spec_SweepArena.c15]
      try simp only [w64_eq, wu8_eq, gt_iff_lt, ge_iff_le, int_beq, fdiv33, fdiv45, bt_eq, tmodN, rdOfB, rdOfL] at h
      try simp only [shlR]
      try simp only [w64_eq, wu8_eq, gt_iff_lt, ge_iff_le, int_beq, fdiv33, fdiv45, bt_eq, tmodN, rdOfB, rdOfL, rdT3_eq, rdT5_eq, seq, maxI, minI, emp_eq, rdn3, rdn88, rdn53, rdn5, rdn4]
      refine (itE h (fun q h => (itE h (fun q h => (itE h (fun q h => (itE h (fun q h => ((fun h => ?_) (il2 _ (by omega) _ _ _ _ _ _ _ _ h m (by omega)))) (fun q h => ((fun h => ?_) (il2 _ (by omega) _ _ _ _ _ _ _ _ h m (by omega)))))) (fun q h => (noE h)))) (fun q h => (noE h)))) (fun q h => ((fun h => ?_) (il1 _ (by omega) _ _ _ _ _ _ h m (by omega)))))
      all_goals clear il0 il1 il2 il3 il4 il5
      all_goals (try cases h)
      all_goals (try simp only [*, if_true, if_false, ↓reduceIte, Option.bind_some, List.length_cons, List.length_nil, List.length_append, Bool.not_true, Bool.not_false, Bool.true_eq_false, Bool.false_eq_true])
      all_goals (repeat first | rw [if_pos (by omega)] | rw [if_neg (by omega)])
      all_goals first | exact h | apply h | rfl | (simp_all [-Bool.forall_bool]; done) | (simp_all [-Bool.forall_bool]; first | exact h | apply h) | (simp_all [-Bool.forall_bool, emp_eq, int_beq]; done) | (simp_all [-Bool.forall_bool]; (intros; simp_all; done)) | (simp_all [-Bool.forall_bool, rdset3, rdset88, rdset53, rdset5, rdset4]; done) | grind
  · intro x6 x9 x13 x15 x149000 x177000 r h m hm h66
    cases k with
    | zero => simp only [PK.spec_SweepArena.l3] at h; cases h
    | succ k =>
      obtain ⟨m, rfl⟩ : ∃ m', m = m' + 1 := ⟨m - 1, by omega⟩
      rw [PK.spec_SweepArena.l3] at h
      rw [spec_SweepArena.c21]
      try simp only [w64_eq, wu8_eq, gt_iff_lt, ge_iff_le, int_beq, fdiv33, fdiv45, bt_eq, tmodN, rdOfB, rdOfL] at h
      try simp only [shlR]
      try simp only [w64_eq, wu8_eq, gt_iff_lt, ge_iff_le, int_beq, fdiv33, fdiv45, bt_eq, tmodN, rdOfB, rdOfL, rdT3_eq, rdT5_eq, seq, maxI, minI, emp_eq, rdn3, rdn88, rdn53, rdn5, rdn4]
      refine (itE h (fun q h => (itE h (fun q h => (itE h (fun q h => (itE h (fun q h => (bsE h (fun h => (itE h (fun q h => ((fun h => ?_) (il4 _ (by omega) _ _ _ _ _ _ _ _ _ _ h m (by omega)))) (fun q h => (noE h)))))) (fun q h => ((fun h => ?_) (il3 _ (by omega) _ _ _ _ _ _ _ h m (by omega)))))) (fun q h => (noE h)))) (fun q h => (noE h)))) (fun q h => ((fun h => ?_) (il5 _ (by omega) _ _ _ _ _ h m (by omega)))))
      all_goals clear il0 il1 il2 il3 il4 il5
      all_goals (try cases h)
      all_goals (try simp only [*, if_true, if_false, ↓reduceIte, Option.bind_some, List.length_cons, List.length_nil, List.length_append, Bool.not_true, Bool.not_false, Bool.true_eq_false, Bool.false_eq_true])
      all_goals (repeat first | rw [if_pos (by omega)] | rw [if_neg (by omega)])
      all_goals first | exact h | apply h | rfl | (simp_all [-Bool.forall_bool]; done) | (simp_all [-Bool.forall_bool]; first | exact h | apply h) | (simp_all [-Bool.forall_bool, emp_eq, int_beq]; done) | (simp_all [-Bool.forall_bool]; (intros; simp_all; done)) | (simp_all [-Bool.forall_bool, rdset3, rdset88, rdset53, rdset5, rdset4]; done) | grind
  · intro x6 x9 x13 x15 x17 x149000 x177000 x187000 x187001 r h m hm h66
    cases k with
    | zero => simp only [PK.spec_SweepArena.l4] at h; cases h
    | succ k =>
      obtain ⟨m, rfl⟩ : ∃ m', m = m' + 1 := ⟨m - 1, by omega⟩
      rw [PK.spec_SweepArena.l4] at h
      rw [spec_SweepArena.c26]
      try simp only [w64_eq, wu8_eq, gt_iff_lt, ge_iff_le, int_beq, fdiv33, fdiv45, bt_eq, tmodN, rdOfB, rdOfL] at h
      try simp only [shlR]
      try simp only [w64_eq, wu8_eq, gt_iff_lt, ge_iff_le, int_beq, fdiv33, fdiv45, bt_eq, tmodN, rdOfB, rdOfL, rdT3_eq, rdT5_eq, seq, maxI, minI, emp_eq, rdn3, rdn88, rdn53, rdn5, rdn4]
      refine (itE h (fun q h => (by cases k with | zero => (simp only [PK.spec_SweepArena.j6] at h; cases h) | succ k => (rw [PK.spec_SweepArena.j6] at h; (try simp only [w64_eq, wu8_eq, gt_iff_lt, ge_iff_le, int_beq, fdiv33, fdiv45, bt_eq, tmodN, rdOfB, rdOfL] at h); refine (itE h (fun q h => (itE h (fun q h => (itE h (fun q h => (itE h (fun q h => (itE h (fun q h => (itE h (fun q h => ((fun h => ?_) (il4 _ (by omega) _ _ _ _ _ _ _ _ _ _ h m (by omega)))) (fun q h => (noE h)))) (fun q h => (noE h)))) (fun q h => ((fun h => ?_) (il4 _ (by omega) _ _ _ _ _ _ _ _ _ _ h m (by omega)))))) (fun q h => (noE h)))) (fun q h => (noE h)))) (fun q h => (itE h (fun q h => (itE h (fun q h => (itE h (fun q h => ((fun h => ?_) (il3 _ (by omega) _ _ _ _ _ _ _ h m (by omega)))) (fun q h => (noE h)))) (fun q h => (noE h)))) (fun q h => (noE h))))) <;> ((try cases h); (try simp only [*, if_true, if_false, ↓reduceIte, Option.bind_some, List.length_cons, List.length_nil, List.length_append, Bool.not_true, Bool.not_false, Bool.true_eq_false, Bool.false_eq_true]); all_goals (repeat first | rw [if_pos (by omega)] | rw [if_neg (by omega)]); all_goals (first | exact h | apply h | rfl | (simp_all [-Bool.forall_bool]; done) | (simp_all [-Bool.forall_bool]; first | exact h | apply h) | (simp_all [-Bool.forall_bool, emp_eq, int_beq]; done) | (simp_all [-Bool.forall_bool]; (intros; simp_all; done)) | (simp_all [-Bool.forall_bool, rdset3, rdset88, rdset53, rdset5, rdset4]; done) | grind))))) (fun q h => (by cases k with | zero => (simp only [PK.spec_SweepArena.j6] at h; cases h) | succ k => (rw [PK.spec_SweepArena.j6] at h; (try simp only [w64_eq, wu8_eq, gt_iff_lt, ge_iff_le, int_beq, fdiv33, fdiv45, bt_eq, tmodN, rdOfB, rdOfL] at h); refine (itE h (fun q h => (itE h (fun q h => (itE h (fun q h => (itE h (fun q h => (itE h (fun q h => (itE h (fun q h => ((fun h => ?_) (il4 _ (by omega) _ _ _ _ _ _ _ _ _ _ h m (by omega)))) (fun q h => (noE h)))) (fun q h => (noE h)))) (fun q h => ((fun h => ?_) (il4 _ (by omega) _ _ _ _ _ _ _ _ _ _ h m (by omega)))))) (fun q h => (noE h)))) (fun q h => (noE h)))) (fun q h => (itE h (fun q h => (itE h (fun q h => (itE h (fun q h => ((fun h => ?_) (il3 _ (by omega) _ _ _ _ _ _ _ h m (by omega)))) (fun q h => (noE h)))) (fun q h => (noE h)))) (fun q h => (noE h))))) <;> ((try cases h); (try simp only [*, if_true, if_false, ↓reduceIte, Option.bind_some, List.length_cons, List.length_nil, List.length_append, Bool.not_true, Bool.not_false, Bool.true_eq_false, Bool.false_eq_true]); all_goals (repeat first | rw [if_pos (by omega)] | rw [if_neg (by omega)]); all_goals (first | exact h | apply h | rfl | (simp_all [-Bool.forall_bool]; done) | (simp_all [-Bool.forall_bool]; first | exact h | apply h) | (simp_all [-Bool.forall_bool, emp_eq, int_beq]; done) | (simp_all [-Bool.forall_bool]; (intros; simp_all; done)) | (simp_all [-Bool.forall_bool, rdset3, rdset88, rdset53, rdset5, rdset4]; done) | grind))))))
      all_goals clear il0 il1 il2 il3 il4 il5
      all_goals (try cases h)
      all_goals (try simp only [*, if_true, if_false, ↓reduceIte, Option.bind_some, List.length_cons, List.length_nil, List.length_append, Bool.not_true, Bool.not_false, Bool.true_eq_false, Bool.false_eq_true])
      all_goals (repeat first | rw [if_pos (by omega)] | rw [if_neg (by omega)])
      all_goals first | exact h | apply h | rfl | (simp_all [-Bool.forall_bool]; done) | (simp_all [-Bool.forall_bool]; first | exact h | apply h) | (simp_all [-Bool.forall_bool, emp_eq, int_beq]; done) | (simp_all [-Bool.forall_bool]; (intros; simp_all; done)) | (simp_all [-Bool.forall_bool, rdset3, rdset88, rdset53, rdset5, rdset4]; done) | grind
  · intro x6 x13 x18 x177000 r h m hm h65
    cases k with
    | zero => simp only [PK.spec_SweepArena.l5] at h; cases h
    | succ k =>
      obtain ⟨m, rfl⟩ : ∃ m', m = m' + 1 := ⟨m - 1, by omega⟩
      rw [PK.spec_SweepArena.l5] at h
      rw [spec_SweepArena.c33]
      try simp only [w64_eq, wu8_eq, gt_iff_lt, ge_iff_le, int_beq, fdiv33, fdiv45, bt_eq, tmodN, rdOfB, rdOfL] at h
      try simp only [shlR]
      try simp only [w64_eq, wu8_eq, gt_iff_lt, ge_iff_le, int_beq, fdiv33, fdiv45, bt_eq, tmodN, rdOfB, rdOfL, rdT3_eq, rdT5_eq, seq, maxI, minI, emp_eq, rdn3, rdn88, rdn53, rdn5, rdn4]
      refine (itE h (fun q h => (itE h (fun q h => (itE h (fun q h => (itE h (fun q h => (itE h (fun q h => ((fun h => ?_) (il5 _ (by omega) _ _ _ _ _ h m (by omega)))) (fun q h => (noE h)))) (fun q h => (noE h)))) (fun q h => ((fun h => ?_) (il5 _ (by omega) _ _ _ _ _ h m (by omega)))))) (fun q h => (noE h)))) (fun q h => ?_))
      all_goals clear il0 il1 il2 il3 il4 il5
      all_goals (try cases h)
      all_goals (try simp only [*, if_true, if_false, ↓reduceIte, Option.bind_some, List.length_cons, List.length_nil, List.length_append, Bool.not_true, Bool.not_false, Bool.true_eq_false, Bool.false_eq_true])
      all_goals (repeat first | rw [if_pos (by omega)] | rw [if_neg (by omega)])
      all_goals first | exact h | apply h | rfl | (simp_all [-Bool.forall_bool]; done) | (simp_all [-Bool.forall_bool]; first | exact h | apply h) | (simp_all [-Bool.forall_bool, emp_eq, int_beq]; done) | (simp_all [-Bool.forall_bool]; (intros; simp_all; done)) | (simp_all [-Bool.forall_bool, rdset3, rdset88, rdset53, rdset5, rdset4]; done) | grind
theorem spec_SweepArena.rel (k : Nat) (l0_0 : List (S88)) (l1 : List Int) (r) (h : PK.spec_SweepArena.f k l0_0 l1 = some r) (m : Nat) (hm : k ≤ m) : spec_SweepArena.f m l0_0 l1 = some (r.1, r.2) := by
  have il0 := fun k' (_ : k' < k + 1) => (spec_SweepArena.rel_l k').1
  have il1 := fun k' (_ : k' < k + 1) => (spec_SweepArena.rel_l k').2.1
  have il2 := fun k' (_ : k' < k + 1) => (spec_SweepArena.rel_l k').2.2.1
  have il3 := fun k' (_ : k' < k + 1) => (spec_SweepArena.rel_l k').2.2.2.1
  have il4 := fun k' (_ : k' < k + 1) => (spec_SweepArena.rel_l k').2.2.2.2.1
  have il5 := fun k' (_ : k' < k + 1) => (spec_SweepArena.rel_l k').2.2.2.2.2
  rw [PK.spec_SweepArena.f] at h
  rw [spec_SweepArena.f]
  try simp only [w64_eq, wu8_eq, gt_iff_lt, ge_iff_le, int_beq, fdiv33, fdiv45, bt_eq, tmodN, rdOfB, rdOfL] at h
  try simp only [shlR]
  try simp only [w64_eq, wu8_eq, gt_iff_lt, ge_iff_le, int_beq, fdiv33, fdiv45, bt_eq, tmodN, rdOfB, rdOfL, rdT3_eq, rdT5_eq, seq, maxI, minI, emp_eq, rdn3, rdn88, rdn53, rdn5, rdn4]
  refine (bsE h (fun h => (itE h (fun q h => (bnE h (fun _ g h => (fun g => ((fun h => ?_) (il0 _ (by omega) _ _ _ _ _ _ h m (by omega)))) (spec_ArenaOk.rel _ _ _ g m (by omega))))) (fun q h => (noE h)))))
  all_goals clear il0 il1 il2 il3 il4 il5
  all_goals (try cases h)
  all_goals (try simp only [*, if_true, if_false, ↓reduceIte, Option.bind_some, List.length_cons, List.length_nil, List.length_append, Bool.not_true, Bool.not_false, Bool.true_eq_false, Bool.false_eq_true])
  all_goals (repeat first | rw [if_pos (by omega)] | rw [if_neg (by omega)])
  all_goals first | exact h | apply h | rfl | (simp_all [-Bool.forall_bool]; done) | (simp_all [-Bool.forall_bool]; first | exact h | apply h) | (simp_all [-Bool.forall_bool, emp_eq, int_beq]; done) | (simp_all [-Bool.forall_bool]; (intros; simp_all; done)) | (simp_all [-Bool.forall_bool, rdset3, rdset88, rdset53, rdset5, rdset4]; done) | grind
end Go.Proofs.Yteideicglgpfiaa.M2



/- Plain facts on rounds, lists and whole numbers, for the pure statements. -/
namespace Go.Proofs.Yteideicglgpfiaa.Pu
set_option linter.unusedVariables false
set_option linter.unusedSimpArgs false
open Go.RowKit Go.Proofs.YteideicglgpfiaaW.PrintWords

theorem w64 {x : Int} (h1 : -9223372036854775808 ≤ x) (h2 : x ≤ 9223372036854775807) : wrap64 x = x := by
  unfold wrap64; omega
theorem wsucc {i n : Nat} (h : i < n) (hn : n ≤ 9223372036854775807) : wrap64 ((i : Int) + 1) = ((i + 1 : Nat) : Int) := by
  rw [w64 (by omega) (by omega)]; rfl
theorem wf_i64 {n : Int} (h : (Lit.int .i64 n).wf = true) : -9223372036854775808 ≤ n ∧ n ≤ 9223372036854775807 := by
  simp only [Lit.wf, Bool.and_eq_true, decide_eq_true_eq] at h
  have h1 : IntKind.min .i64 = -9223372036854775808 := by decide
  have h2 : IntKind.max .i64 = 9223372036854775807 := by decide
  omega

/-- Rounds: what is told, a step on. -/
theorem ev_some {α : Type} {g : Nat → Option α} {r : α} (h : ∀ k, g (k + 1) = some r) : Ev g r := Ev.step h (Ev.now r)
theorem ev_const {α : Type} {o : Option α} {r : α} (h : o = some r) : Ev (fun _ => o) r := ⟨0, fun _ _ => h⟩
theorem ev_bind {α β : Type} {g : Nat → Option α} {f : Nat → α → Option β} {a : α} {r : β} (h : Ev g a) (k : Ev (fun n => f n a) r) : Ev (fun n => (g n).bind (f n)) r := Ev.bind h k
theorem ev_uniq {α : Type} {g : Nat → Option α} {a b : α} (h : Ev g a) (k : Ev g b) : a = b := by
  obtain ⟨K, hK⟩ := h
  obtain ⟨M, hM⟩ := k
  have h1 := hK (max K M) (Nat.le_max_left _ _)
  rw [hM (max K M) (Nat.le_max_right _ _)] at h1
  injection h1 with h1
  exact h1.symm
theorem ev_ext {α : Type} {g f : Nat → Option α} {r : α} (h : ∀ k, g k = f k) (k : Ev f r) : Ev g r := Ev.congr h k

/-- A row that is made and filled, place by place. -/
theorem ev_fill {β : Type} {L : Nat → List β → Int → Option (List β)} {E : Nat → Int → Option β} {n : Nat} {e : Nat → β} (hn : n ≤ 9223372036854775807)
    (hs : ∀ k xs i, L (k + 1) xs i = if i < (n : Int) then (if 0 ≤ i then ((E k i).bind fun b => if i < (xs.length : Int) then L k (xs.set i.toNat b) (wrap64 (i + 1)) else none) else none) else some xs)
    (hE : ∀ i, i < n → Ev (fun k => E k (i : Int)) (e i)) :
    ∀ (d i : Nat) (xs : List β), xs.length = n → i + d = n → Ev (fun k => L k xs (i : Int)) (xs.take i ++ (List.range' i d).map e) := by
  intro d
  induction d with
  | zero =>
    intro i xs hl hi
    refine ev_some fun k => ?_
    rw [hs, if_neg (by omega)]
    simp [List.take_of_length_le (show xs.length ≤ i by omega)]
  | succ d ih =>
    intro i xs hl hi
    refine Ev.step (f := fun k => (E k (i : Int)).bind fun b => L k (xs.set i b) ((i + 1 : Nat) : Int)) (fun k => ?_) ?_
    · rw [hs, if_pos (by omega), if_pos (by omega), wsucc (n := n) (by omega) hn]
      congr 1
      funext b
      rw [if_pos (by omega)]
      rfl
    · refine ev_bind (hE i (by omega)) ?_
      have h := ih (i + 1) (xs.set i (e i)) (by rw [List.length_set]; exact hl) (by omega)
      have e1 : (xs.set i (e i)).take (i + 1) ++ (List.range' (i + 1) d).map e = xs.take i ++ (List.range' i (d + 1)).map e := by
        rw [List.range'_succ, List.map_cons, List.take_succ_eq_append_getElem (by rw [List.length_set]; omega), List.getElem_set_self, List.take_set_of_le (Nat.le_refl _)]
        simp
      rw [e1] at h
      exact h
theorem map_range {α β : Type} (l : List α) (z : α) (g : α → β) : (List.range' 0 l.length).map (fun i => g (l.getD i z)) = l.map g := by
  apply List.ext_getElem
  · simp
  · intro i h1 h2
    simp only [List.length_map] at h2
    simp [List.getD_eq_getElem?_getD, List.getElem?_eq_getElem h2]
theorem ev_fill_all {α β : Type} {L : Nat → List β → Int → Option (List β)} {E : Nat → Int → Option β} {l : List α} {z : α} {g : α → β} {xs : List β} (hn : l.length ≤ 9223372036854775807)
    (hs : ∀ k xs i, L (k + 1) xs i = if i < (l.length : Int) then (if 0 ≤ i then ((E k i).bind fun b => if i < (xs.length : Int) then L k (xs.set i.toNat b) (wrap64 (i + 1)) else none) else none) else some xs)
    (hE : ∀ i, i < l.length → Ev (fun k => E k (i : Int)) (g (l.getD i z))) (hx : xs.length = l.length) : Ev (fun k => L k xs 0) (l.map g) := by
  have h := ev_fill (e := fun i => g (l.getD i z)) hn hs hE l.length 0 xs hx (by omega)
  rw [map_range] at h
  simpa using h

/-- Every place meets a test, tried place by place. -/
theorem ev_all {L E : Nat → Int → Option Bool} {n m : Nat} (hn : n ≤ 9223372036854775807) (hnm : n ≤ m)
    (hs : ∀ k i, L (k + 1) i = if i < (n : Int) then (if 0 ≤ i then (if i < (m : Int) then ((E k i).bind fun b => if b = true then L k (wrap64 (i + 1)) else some false) else none) else none) else some true)
    (hE : ∀ i, i < n → Ev (fun k => E k (i : Int)) true) : ∀ (d i : Nat), i + d = n → Ev (fun k => L k (i : Int)) true := by
  intro d
  induction d with
  | zero => intro i hi; exact ev_some fun k => by rw [hs, if_neg (by omega)]
  | succ d ih =>
    intro i hi
    refine Ev.step (f := fun k => (E k (i : Int)).bind fun b => if b = true then L k ((i + 1 : Nat) : Int) else some false) (fun k => ?_) (ev_bind (hE i (by omega)) (by simpa using ih (i + 1) (by omega)))
    rw [hs, if_pos (by omega), if_pos (by omega), if_pos (by omega), wsucc (n := n) (by omega) hn]

/-- What is left of a number, place by place, as long as it is not below 0. -/
theorem ev_size {L E : Nat → Int → Int → Option Int} {n : Nat} {P : Nat → Prop} (hn : n ≤ 9223372036854775807)
    (hs : ∀ k a i, L (k + 1) a i = if i < (n : Int) then (if 0 ≤ i then ((E k i a).bind fun t => if t < 0 then some (-1) else L k t (wrap64 (i + 1))) else none) else some a)
    (hE : ∀ i a, i < n → 0 ≤ a → a ≤ 1048576 → ∃ t, Ev (fun k => E k (i : Int) a) t ∧ t ≤ a ∧ (0 ≤ t → P i)) :
    ∀ (d i : Nat) (a : Int), i + d = n → 0 ≤ a → a ≤ 1048576 → ∃ r, Ev (fun k => L k a (i : Int)) r ∧ r ≤ a ∧ (0 ≤ r → ∀ m, i ≤ m → m < n → P m) := by
  intro d
  induction d with
  | zero => intro i a hi h0 h1; exact ⟨a, ev_some fun k => by rw [hs, if_neg (by omega)], Int.le_refl _, fun _ m h2 h3 => by omega⟩
  | succ d ih =>
    intro i a hi h0 h1
    obtain ⟨t, ht, hta, hp⟩ := hE i a (by omega) h0 h1
    have hst : ∀ k, L (k + 1) a (i : Int) = (E k (i : Int) a).bind fun t => if t < 0 then some (-1) else L k t ((i + 1 : Nat) : Int) := fun k => by
      rw [hs, if_pos (by omega), if_pos (by omega), wsucc (n := n) (by omega) hn]
    by_cases hneg : t < 0
    · exact ⟨-1, Ev.step hst (ev_bind ht (by simp only [if_pos hneg]; exact Ev.now _)), by omega, fun h => by omega⟩
    · obtain ⟨r, hr, hra, hq⟩ := ih (i + 1) t (by omega) (by omega) (by omega)
      refine ⟨r, Ev.step hst (ev_bind ht (by simp only [if_neg hneg]; exact hr)), by omega, fun h0r m h2 h3 => ?_⟩
      by_cases e : m = i
      · subst e; exact hp (by omega)
      · exact hq h0r m (by omega) h3
end Go.Proofs.Yteideicglgpfiaa.Pu

/- More plain facts on rounds: tests in a row, folds, searches. -/
namespace Go.Proofs.Yteideicglgpfiaa.Pu
set_option linter.unusedVariables false
set_option linter.unusedSimpArgs false
open Go.RowKit Go.Proofs.YteideicglgpfiaaW.PrintWords

/-- Tests in a row, one a round; then what comes. -/
theorem ev_scan {L : Nat → Int → Option Bool} {g : Nat → Option Bool} {n : Nat} {T : Nat → Bool} {r : Bool}
    (hs : ∀ k i, i < n → L (k + 1) (i : Int) = if T i = true then L k ((i + 1 : Nat) : Int) else some false) (he : ∀ k, L (k + 1) (n : Int) = g k) (hr : Ev g r) :
    ∀ (d i : Nat), i + d = n → Ev (fun k => L k (i : Int)) ((List.range' i d).all T && r) := by
  intro d
  induction d with
  | zero =>
    intro i hi
    obtain rfl : i = n := by omega
    exact Ev.step he hr
  | succ d ih =>
    intro i hi
    rw [List.range'_succ, List.all_cons]
    by_cases h : T i = true
    · rw [h, Bool.true_and]
      exact Ev.step (fun k => by rw [hs k i (by omega), if_pos h]) (ih (i + 1) (by omega))
    · rw [Bool.eq_false_iff.mpr h, Bool.false_and, Bool.false_and]
      exact ev_some fun k => by rw [hs k i (by omega), if_neg h]
/-- Tests in a row, each of many rounds; then what comes. -/
theorem ev_outer {L : Nat → Int → Option Bool} {n : Nat} {T : Nat → Bool} {r0 : Bool}
    (hs : ∀ i r, i < n → Ev (fun k => L k ((i + 1 : Nat) : Int)) r → Ev (fun k => L k (i : Int)) (T i && r)) (he : Ev (fun k => L k (n : Int)) r0) :
    ∀ (d i : Nat), i + d = n → Ev (fun k => L k (i : Int)) ((List.range' i d).all T && r0) := by
  intro d
  induction d with
  | zero =>
    intro i hi
    obtain rfl : i = n := by omega
    exact he
  | succ d ih =>
    intro i hi
    rw [List.range'_succ, List.all_cons, Bool.and_assoc]
    exact hs i _ (by omega) (ih (i + 1) (by omega))
/-- A state that is carried along; then what comes. -/
theorem ev_fold {σ ρ : Type} {L : Nat → σ → Int → Option ρ} {n : Nat} {F : σ → Nat → σ} {fin : σ → ρ} (Inv : Nat → σ → Prop)
    (hs : ∀ s i, i < n → Inv i s → ∀ r, Ev (fun k => L k (F s i) ((i + 1 : Nat) : Int)) r → Ev (fun k => L k s (i : Int)) r) (hi : ∀ s i, i < n → Inv i s → Inv (i + 1) (F s i))
    (he : ∀ s, Inv n s → Ev (fun k => L k s (n : Int)) (fin s)) : ∀ (d i : Nat) (s : σ), i + d = n → Inv i s → Ev (fun k => L k s (i : Int)) (fin ((List.range' i d).foldl F s)) := by
  intro d
  induction d with
  | zero =>
    intro i s h hv
    obtain rfl : i = n := by omega
    exact he s hv
  | succ d ih =>
    intro i s h hv
    rw [List.range'_succ, List.foldl_cons]
    exact hs s i (by omega) hv _ (ih (i + 1) (F s i) (by omega) (hi s i (by omega) hv))
/-- The first place that meets a test, -1 without one. -/
def findI (T : Nat → Bool) : Nat → Nat → Int
  | _, 0 => -1
  | i, d + 1 => if T i = true then (i : Int) else findI T (i + 1) d
theorem ev_find {L : Nat → Int → Option Int} {n : Nat} {T : Nat → Bool}
    (hy : ∀ i, i < n → T i = true → Ev (fun k => L k (i : Int)) (i : Int)) (hn : ∀ i, i < n → T i = false → ∀ r, Ev (fun k => L k ((i + 1 : Nat) : Int)) r → Ev (fun k => L k (i : Int)) r)
    (he : Ev (fun k => L k (n : Int)) (-1)) : ∀ (d i : Nat), i + d = n → Ev (fun k => L k (i : Int)) (findI T i d) := by
  intro d
  induction d with
  | zero =>
    intro i hi
    obtain rfl : i = n := by omega
    exact he
  | succ d ih =>
    intro i hi
    unfold findI
    by_cases h : T i = true
    · rw [if_pos h]; exact hy i (by omega) h
    · rw [if_neg h]; exact hn i (by omega) (Bool.eq_false_iff.mpr h) _ (ih (i + 1) (by omega))
theorem findI_range {T : Nat → Bool} : ∀ (d i : Nat), findI T i d = -1 ∨ ∃ j, i ≤ j ∧ j < i + d ∧ findI T i d = (j : Int) ∧ T j = true
  | 0, i => .inl rfl
  | d + 1, i => by
    unfold findI
    by_cases h : T i = true
    · rw [if_pos h]; exact .inr ⟨i, Nat.le_refl _, by omega, rfl, h⟩
    · rw [if_neg h]
      rcases findI_range d (i + 1) with h1 | ⟨j, h1, h2, h3, h4⟩
      · exact .inl h1
      · exact .inr ⟨j, by omega, by omega, h3, h4⟩
theorem bytes_empty (a : ByteArray) : (a.toList == ([] : List UInt8)) = decide ((a.size : Int) ≤ 0) := by
  rw [ByteArray.toList_eq]
  have h : a.data.toList.length = a.size := by rw [Array.length_toList]; rfl
  cases e : a.data.toList with
  | nil =>
    have h1 : a.size = 0 := by rw [← h, e]; rfl
    rw [decide_eq_true (by omega)]; rfl
  | cons x l =>
    have h1 : a.size = l.length + 1 := by rw [← h, e]; rfl
    rw [decide_eq_false (by omega)]; rfl
theorem getD_mem' {α : Type} {l : List α} {i : Nat} {z : α} (hi : i < l.length) : l.getD i z ∈ l := by
  rw [List.getD_eq_getElem?_getD, List.getElem?_eq_getElem hi]; exact List.getElem_mem hi
end Go.Proofs.Yteideicglgpfiaa.Pu

/- The reference's draws: a byte, a number below a bound, some places. -/
namespace Go.Proofs.Yteideicglgpfiaa.Pu
set_option linter.unusedVariables false
set_option linter.unusedSimpArgs false
open Go.RowKit Go.Proofs.Yteideicglgpfiaa.PK Go.Proofs.YteideicglgpfiaaW.PrintWords

theorem and255 (x : Int) : 0 ≤ Go.bits .and .i64 x 255 ∧ Go.bits .and .i64 x 255 ≤ 255 := by
  have h : (BitVec.ofInt 64 x &&& BitVec.ofInt 64 255).toNat ≤ 255 := by
    rw [BitVec.toNat_and]; exact Nat.le_trans Nat.and_le_right (by decide)
  have e : Go.bits .and .i64 x 255 = Go.IntKind.i64.wrap ((BitVec.ofInt 64 x &&& BitVec.ofInt 64 255).toNat : Int) := rfl
  rw [e, Go.IntKind.wrap_i64]
  omega
/-- A draw's state: the place lies in the code. -/
theorem byte_eq (b : List Int) (i h : Int) (h0 : 0 ≤ i) (h1 : i ≤ b.length) (hb : b.length ≤ 9223372036854775807) : ∃ v i' h', spec_l01Byte.f b i h = some (v, i', h') ∧ (0 ≤ v ∧ v ≤ 255) ∧ 0 ≤ i' ∧ i' ≤ b.length := by
  unfold spec_l01Byte.f
  by_cases hi : i < (b.length : Int)
  · rw [if_pos hi, if_pos h0, w64 (x := i + 1) (by omega) (by omega)]
    exact ⟨_, _, _, rfl, and255 _, by omega, by omega⟩
  · rw [if_neg hi]
    exact ⟨_, _, _, rfl, and255 _, by omega, by omega⟩
theorem below_eq (b : List Int) (i h n : Int) (h0 : 0 ≤ i) (h1 : i ≤ b.length) (hb : b.length ≤ 9223372036854775807) (hn : 0 < n) : ∃ v i' h', spec_l01Below.f b i h n = some (v, i', h') ∧ (0 ≤ v ∧ v < n) ∧ 0 ≤ i' ∧ i' ≤ b.length := by
  unfold spec_l01Below.f
  rw [if_neg (by omega)]
  obtain ⟨v, i1, g1, e1, ⟨v0, v1⟩, a1, b1⟩ := byte_eq b i h h0 h1 hb
  rw [e1]
  by_cases hs : n ≤ 256
  · rw [if_pos hs, Option.bind_some, if_neg (by omega)]
    exact ⟨_, _, _, rfl, ⟨Int.tmod_nonneg _ v0, Int.tmod_lt_of_pos _ hn⟩, a1, b1⟩
  · rw [if_neg hs, Option.bind_some]
    obtain ⟨y, i2, g2, e2, ⟨y0, y1⟩, a2, b2⟩ := byte_eq b i1 g1 a1 b1 hb
    obtain ⟨z, i3, g3, e3, ⟨z0, z1⟩, a3, b3⟩ := byte_eq b i2 g2 a2 b2 hb
    obtain ⟨u, i4, g4, e4, ⟨u0, u1⟩, a4, b4⟩ := byte_eq b i3 g3 a3 b3 hb
    simp only [e2, e3, e4, Option.bind_some]
    rw [if_neg (by omega), w64 (x := v * 16777216) (by omega) (by omega), w64 (x := y * 65536) (by omega) (by omega), w64 (x := v * 16777216 + y * 65536) (by omega) (by omega), w64 (x := z * 256) (by omega) (by omega), w64 (x := v * 16777216 + y * 65536 + z * 256) (by omega) (by omega), w64 (x := v * 16777216 + y * 65536 + z * 256 + u) (by omega) (by omega)]
    exact ⟨_, _, _, rfl, ⟨Int.tmod_nonneg _ (by omega), Int.tmod_lt_of_pos _ hn⟩, a4, b4⟩
theorem new_ev (b : List Int) (hb : b.length ≤ 9223372036854775807) : ∃ h, Ev (fun k => spec_l01New.f k b) (b, 0, h) := by
  unfold spec_l01New.f
  have main : ∀ (d i : Nat) (h : Int), i + d = b.length → ∃ g, Ev (fun k => spec_l01New.l0 k b h (i : Int)) (b, 0, g) := by
    intro d
    induction d with
    | zero => intro i h hi; exact ⟨h, ev_some fun k => by simp only [spec_l01New.l0]; rw [if_neg (by omega)]⟩
    | succ d ih =>
      intro i h hi
      by_cases hf : (i : Int) < 4000
      · obtain ⟨g, hg⟩ := ih (i + 1) (Go.bits .and .i64 (wrap64 ((wrap64 ((wrap64 (h * 131)) + (wrap64 (rd b (i : Int))))) + 7)) 1073741823) (by omega)
        refine ⟨g, Ev.step (fun k => ?_) hg⟩
        simp only [spec_l01New.l0]
        rw [if_pos (by omega), if_pos hf, if_pos (by omega), wsucc (n := b.length) (by omega) hb]
      · exact ⟨h, ev_some fun k => by simp only [spec_l01New.l0]; rw [if_pos (by omega), if_neg hf]⟩
  exact main b.length 0 _ (by omega)
end Go.Proofs.Yteideicglgpfiaa.Pu

/- The reference's draws of a yes or no, and of a text. -/
namespace Go.Proofs.Yteideicglgpfiaa.Pu
set_option linter.unusedVariables false
set_option linter.unusedSimpArgs false
open Go.RowKit Go.Proofs.Yteideicglgpfiaa.PK Go.Proofs.YteideicglgpfiaaW.PrintWords

theorem once_draw (b : List Int) (i h n : Int) (h0 : 0 ≤ i) (h1 : i ≤ b.length) (hb : b.length ≤ 9223372036854775807) (hn : 0 < n) : ∃ v i' h', spec_l01Once.f b i h n = some (v, i', h') ∧ 0 ≤ i' ∧ i' ≤ b.length := by
  obtain ⟨v, j, g, e, _, a1, b1⟩ := below_eq b i h n h0 h1 hb hn
  unfold spec_l01Once.f
  rw [e, Option.bind_some]
  exact ⟨_, _, _, rfl, a1, b1⟩
theorem str_size (l : List Int) : (strOfNums l).size = l.length := by
  unfold strOfNums
  simp [ByteArray.size]
end Go.Proofs.Yteideicglgpfiaa.Pu
