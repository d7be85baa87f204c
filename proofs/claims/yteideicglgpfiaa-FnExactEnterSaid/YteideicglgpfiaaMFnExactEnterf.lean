/- FnExactEnter: functions of the translation as Lean functions with what their calls come to, plain lemmas on them, and, at the end, the row. Parts of one proof, merged by a program of this session; each part's own sentence stands at its head. -/
import Derived.Test.YteideicglgpfiaaRows
import Derived.WalkKit
import Derived.ProofKit
import Derived.OpenShut
import Derived.ShutString
import Derived.ChangeOld
import Derived.Below
import Derived.SizedLaws
import Derived.ChangeSlices
import Derived.Test.YteideicglgpfiaaMFnExactEntere
/- The law FnExactEnter holds, for every input: from its function's contract and the plain statement of what it answers. -/
namespace Go.Proofs.Yteideicglgpfiaa.fnExactEnter
set_option linter.unusedVariables false
set_option linter.unusedSimpArgs false
open Go Go.ChangeShapes Go.WideShapes Go.ChangeAt Go.RowKit
open Go.Proofs.Yteideicglgpfiaa.PK
open Go.Proofs.Yteideicglgpfiaa.M2 (top Va Vc Out kit AV Ty D Contract OpM op_int op_bool op_string op_slice op_tuple op_iso opF_one opF_cons va_ag va_row)
theorem own : ownKnob Try.prog.godebug = none := by kernel_rfl
theorem laidOut : laidOutB Try.prog = true := by kernel_rfl
theorem oE96 : OpM Try.prog kit 96 0 (kit.emb .t96) (fun x : S96 => True) := op_iso (fun p : Int × Int => (⟨p.1, p.2⟩ : S96)) (op_tuple Try.underlying96 (by kernel_rfl) (opF_cons (n := 1) rfl (by kernel_rfl) (op_int Try.underlying3) (opF_one (n := 1) rfl (by kernel_rfl) (op_int Try.underlying3)))) (fun _ => rfl) (fun _ h => trivial)
theorem oS22 : OpM Try.prog kit 22 1 (fun l : List (M2.D .t96) => [AV.row (Ty := M2.Ty) (D := M2.D) 0 M2.Ty.t96 l]) (fun xs => xs.length ≤ maxLen ∧ ∀ x ∈ xs, True) := op_slice (te := M2.Ty.t96) Try.underlying22 (by kernel_rfl) (fun _ => rfl) (by decide) oE96
theorem oE3 : OpM Try.prog kit 3 0 (kit.emb .t3) (fun x : Int => True) := op_iso (fun x : Int => x) (op_int Try.underlying3) (fun _ => rfl) (fun _ h => trivial)
theorem oS49 : OpM Try.prog kit 49 1 (fun l : List (M2.D .t3) => [AV.row (Ty := M2.Ty) (D := M2.D) 0 M2.Ty.t3 l]) (fun xs => xs.length ≤ maxLen ∧ ∀ x ∈ xs, True) := op_slice (te := M2.Ty.t3) Try.underlying49 (by kernel_rfl) (fun _ => rfl) (by decide) oE3
theorem oE108 : OpM Try.prog kit 108 1 (kit.emb .t108) (fun x : S108 => x.f1.length ≤ maxLen) := op_iso (fun p : Bool × List Int => (⟨p.1, p.2⟩ : S108)) (op_tuple Try.underlying108 (by kernel_rfl) (opF_cons (n := 1) rfl (by kernel_rfl) (op_bool Try.underlying4).up (opF_one (n := 1) rfl (by kernel_rfl) oS49))) (fun _ => rfl) (fun _ h => h.2.1)
theorem oS23 : OpM Try.prog kit 23 2 (fun l : List (M2.D .t108) => [AV.row (Ty := M2.Ty) (D := M2.D) 0 M2.Ty.t108 l]) (fun xs => xs.length ≤ maxLen ∧ ∀ x ∈ xs, x.f1.length ≤ maxLen) := op_slice (te := M2.Ty.t108) Try.underlying23 (by kernel_rfl) (fun _ => rfl) (by decide) oE108
set_option maxRecDepth 100000 in
set_option maxHeartbeats 4000000 in
theorem lifted (os : Os) (started : os.Started) (H : Type) (enc : TypeId × Value → H) :
    ReturnsInHanded {} Try.checked os 3 .any (Rows.fnExactEnterSpec.pre6 enc Try.prog Try.f3 Rows.fnExactEnterRow.domain false) (Rows.fnExactEnterSpec.post enc Try.prog Try.f3 false true false false) := by
  refine returnsInHanded_of_change_sized (C := Try.checked) own started (by kernel_rfl) Try.func3
    (ChangeSpec.witness6 (enc := enc) (C := Try.checked) false ⟨#[], #[.agg #[.slice none 0 0, .slice none 0 0, .int .i64 0], .agg #[.int .i64 0, .int .i64 0, .int .i64 0, .int .i64 0]], []⟩ 8 (by kernel_rfl) (by kernel_rfl) (by kernel_rfl) (by kernel_rfl)) ?_
  intro W base args ds gs before hval0 hW hcnd hsz0 _
  have hval : ∀ (j : Nat) t v, Try.f3.params[j]? = some t → args[j]? = some v → Value.okWide Try.prog W .any base t v := hval0
  have hW' := hW
  obtain ⟨p, q, hA0, hV, rfl, hfz, hnd⟩ := hW
  have hA : DataW.TrodAll enc Try.prog W 0 (fun _ => true) true Try.f3.params.toList args.toList ds p := hA0
  rw [Try.params3] at hA hval
  obtain ⟨v0, vs0, d0, ds0, p0, q0, hargs, rfl, rfl, h0, r0⟩ := trodAll_cons hA
  obtain ⟨v1, vs1, d1, ds1, p1, q1, rfl, rfl, rfl, h1, r1⟩ := trodAll_cons r0
  obtain ⟨rfl, rfl, rfl⟩ := trodAll_nil r1
  obtain rfl : args = #[v0, v1] := by cases args; simp_all
  obtain ⟨rfl, rfl⟩ := trodVars_none hV
  have k0 := h0
  have lt0 : ∀ x ∈ p0, x.block < W.heap.size := by obtain ⟨m, hm⟩ := k0; exact DataW.trod_lt m _ _ _ hm
  obtain ⟨fu0, hf0⟩ := h0
  obtain ⟨y0, K0, Y0⟩ := (op_tuple Try.underlying27 (by kernel_rfl) (opF_cons (n := 1) rfl (by kernel_rfl) oS22.up (opF_cons (n := 1) rfl (by kernel_rfl) (op_tuple Try.underlying25 (by kernel_rfl) (opF_one (n := 1) rfl (by kernel_rfl) oS23)) (opF_one (n := 1) rfl (by kernel_rfl) (op_int Try.underlying3).up.up)))) H enc W 0 (fun _ => true) true fu0 _ _ hf0
  obtain ⟨cs0, rfl, sz0⟩ := okWide_struct Try.underlying27 (hval 0 27 v0 rfl rfl)
  have k1 := h1
  have lt1 : ∀ x ∈ p1, x.block < W.heap.size := by obtain ⟨m, hm⟩ := k1; exact DataW.trod_lt m _ _ _ hm
  obtain ⟨fu1, hf1⟩ := h1
  obtain ⟨y1, K1, Y1⟩ := (op_tuple Try.underlying29 (by kernel_rfl) (opF_cons (n := 1) rfl (by kernel_rfl) (op_int Try.underlying3) (opF_cons (n := 1) rfl (by kernel_rfl) (op_int Try.underlying3) (opF_cons (n := 1) rfl (by kernel_rfl) (op_int Try.underlying3) (opF_one (n := 1) rfl (by kernel_rfl) (op_int Try.underlying3)))))) H enc W 0 (fun _ => true) true fu1 _ _ hf1
  obtain ⟨cs1, rfl, sz1⟩ := okWide_struct Try.underlying29 (hval 1 29 v1 rfl rfl)

  obtain ⟨k, hp⟩ := M2.Mp.evx_out (M2.Mp.fnExactEnterX y0.1 y0.2.1 y0.2.2 y1.1 y1.2.1 y1.2.2.1 y1.2.2.2 (Y0.1.1) (Y0.2.1.1) (Y0.2.1.2))
  have con : Contract Try.prog kit 3 [.ag [.row 0 .t96 y0.1, .row 0 .t108 y0.2.1, .sc (.int .i64 y0.2.2)], .ag [.sc (.int .i64 y1.1), .sc (.int .i64 y1.2.1), .sc (.int .i64 y1.2.2.1), .sc (.int .i64 y1.2.2.2)]] [] (.sc (.bool true)) [] [] := M2.laws_FnExactEnter.con k y0.1 y0.2.1 y0.2.2 y1.1 y1.2.1 y1.2.2.1 y1.2.2.2 true hp
  refine (top con W #[.agg cs0, .agg cs1] rfl (fun j u x hu hx => by
    match j, hu, hx with
    | 0, hu, hx => simp only [List.getElem?_cons_zero, List.getElem?_cons_succ, List.getElem?_toArray, Option.some.injEq] at hu hx; subst hu hx; exact ⟨by simp, (va_ag (cs := cs0.toList) K0)⟩
    | 1, hu, hx => simp only [List.getElem?_cons_zero, List.getElem?_cons_succ, List.getElem?_toArray, Option.some.injEq] at hu hx; subst hu hx; exact ⟨by simp, (va_ag (cs := cs1.toList) K1)⟩
    | j + 2, hu, _ => simp at hu)).mono fun e W' ⟨he, bel⟩ => ?_
  subst he
  exact ⟨_, rfl, _, _, _, [], _, [], hW', trodAll_mk1 (shut_bool Try.underlying4 _), (trodAll_cons_mk (Below.trod laidOut (by kernel_rfl) (of_decide_eq_true (by kernel_rfl)) k0 bel lt0) (trodAll_cons_mk (Below.trod laidOut (by kernel_rfl) (of_decide_eq_true (by kernel_rfl)) k1 bel lt1) trodAll_mk0)), rfl, bel.frame _, fun h => by cases h⟩
theorem over : Rows.fnExactEnterRow.holds Try.pinned (OpenSpec.ofChange Rows.fnExactEnterSpec) :=
  OpenClaim.holds_of_wide 3 Try.f3 rfl rfl rfl rfl rfl rfl rfl ⟨rfl, rfl, rfl, rfl, rfl⟩ rfl rfl rfl rfl rfl (by kernel_rfl) Try.func3 (by kernel_rfl)
    (of_decide_eq_true (by kernel_rfl)) (by unfold Func.isWrapper; first | (rw [if_pos (by decide +kernel)]; kernel_rfl) | (rw [if_neg (by decide +kernel)]; exact ⟨rfl, rfl⟩))
    (fun os started H enc _ => lifted os started H enc)
end Go.Proofs.Yteideicglgpfiaa.fnExactEnter
namespace Go.Proofs.Yteideicglgpfiaa
/-- The row, under a short name, for the claim. -/
theorem fnExactEnter_holds : Rows.FnExactEnterSaid := fnExactEnter.over
end Go.Proofs.Yteideicglgpfiaa
