/- FnExactReadOf: functions of the translation as Lean functions with what their calls come to, plain lemmas on them, and, at the end, the row. Parts of one proof, merged by a program of this session; each part's own sentence stands at its head. -/
import Derived.Test.YtbbfkodckpfjcaaGreatRows
import Derived.WalkKit
import Derived.ProofKit
import Derived.OpenShut
import Derived.ShutString
import Derived.ChangeOld
import Derived.Below
import Derived.SizedLaws
import Derived.ChangeSlices
import Derived.Test.YtbbfkodckpfjcaaGreatMFnExactReadOfe
/- The law FnExactReadOf holds, for every input: from its function's contract and the plain statement of what it answers. -/
namespace Go.Proofs.YtbbfkodckpfjcaaGreat.fnExactReadOf
set_option linter.unusedVariables false
set_option linter.unusedSimpArgs false
open Go Go.ChangeShapes Go.WideShapes Go.ChangeAt Go.RowKit
open Go.Proofs.YtbbfkodckpfjcaaGreat.PK
open Go.Proofs.YtbbfkodckpfjcaaGreat.M2 (top Va Vc Out kit AV Ty D Contract OpM op_int op_bool op_string op_slice op_tuple op_iso opF_one opF_cons va_ag va_row va_sc)
theorem own : ownKnob Tryz.prog.godebug = none := by kernel_rfl
theorem laidOut : laidOutB Tryz.prog = true := by kernel_rfl
theorem oE139 : OpM Tryz.prog kit 139 0 (kit.emb .t139) (fun x : S139 => x.f1.size ≤ maxLen) := op_iso (fun p : Int × ByteArray => (⟨p.1, p.2⟩ : S139)) (op_tuple Tryz.underlying139 (by kernel_rfl) (opF_cons (n := 1) rfl (by kernel_rfl) (op_int Tryz.underlying3) (opF_one (n := 1) rfl (by kernel_rfl) (op_string Tryz.underlying9)))) (fun _ => rfl) (fun _ h => h.2)
theorem oS89 : OpM Tryz.prog kit 89 1 (fun l : List (M2.D .t139) => [AV.row (Ty := M2.Ty) (D := M2.D) 0 M2.Ty.t139 l]) (fun xs => xs.length ≤ maxLen ∧ ∀ x ∈ xs, x.f1.size ≤ maxLen) := op_slice (te := M2.Ty.t139) Tryz.underlying89 (by kernel_rfl) (fun _ => rfl) (by decide) oE139
theorem oE91 : OpM Tryz.prog kit 91 1 (kit.emb .t91) (fun x : S91 => x.f2.length ≤ maxLen ∧ ∀ y ∈ x.f2, y.f1.size ≤ maxLen) := op_iso (fun p : Bool × Int × List S139 => (⟨p.1, p.2.1, p.2.2⟩ : S91)) (op_tuple Tryz.underlying91 (by kernel_rfl) (opF_cons (n := 1) rfl (by kernel_rfl) (op_bool Tryz.underlying4).up (opF_cons (n := 1) rfl (by kernel_rfl) (op_int Tryz.underlying3).up (opF_one (n := 1) rfl (by kernel_rfl) oS89)))) (fun _ => rfl) (fun _ h => ⟨h.2.2.1, h.2.2.2⟩)
theorem oS22 : OpM Tryz.prog kit 22 2 (fun l : List (M2.D .t91) => [AV.row (Ty := M2.Ty) (D := M2.D) 0 M2.Ty.t91 l]) (fun xs => xs.length ≤ maxLen ∧ ∀ x ∈ xs, x.f2.length ≤ maxLen ∧ ∀ y ∈ x.f2, y.f1.size ≤ maxLen) := op_slice (te := M2.Ty.t91) Tryz.underlying22 (by kernel_rfl) (fun _ => rfl) (by decide) oE91
theorem oE104 : OpM Tryz.prog kit 104 0 (kit.emb .t104) (fun x : S104 => True) := op_iso (fun p : Int × Int => (⟨p.1, p.2⟩ : S104)) (op_tuple Tryz.underlying104 (by kernel_rfl) (opF_cons (n := 1) rfl (by kernel_rfl) (op_int Tryz.underlying3) (opF_one (n := 1) rfl (by kernel_rfl) (op_int Tryz.underlying3)))) (fun _ => rfl) (fun _ h => trivial)
theorem oS25 : OpM Tryz.prog kit 25 1 (fun l : List (M2.D .t104) => [AV.row (Ty := M2.Ty) (D := M2.D) 0 M2.Ty.t104 l]) (fun xs => xs.length ≤ maxLen ∧ ∀ x ∈ xs, True) := op_slice (te := M2.Ty.t104) Tryz.underlying25 (by kernel_rfl) (fun _ => rfl) (by decide) oE104
theorem oE3 : OpM Tryz.prog kit 3 0 (kit.emb .t3) (fun x : Int => True) := op_iso (fun x : Int => x) (op_int Tryz.underlying3) (fun _ => rfl) (fun _ h => trivial)
theorem oS117 : OpM Tryz.prog kit 117 1 (fun l : List (M2.D .t3) => [AV.row (Ty := M2.Ty) (D := M2.D) 0 M2.Ty.t3 l]) (fun xs => xs.length ≤ maxLen ∧ ∀ x ∈ xs, True) := op_slice (te := M2.Ty.t3) Tryz.underlying117 (by kernel_rfl) (fun _ => rfl) (by decide) oE3
theorem oE119 : OpM Tryz.prog kit 119 1 (kit.emb .t119) (fun x : S119 => x.f1.length ≤ maxLen) := op_iso (fun p : Bool × List Int => (⟨p.1, p.2⟩ : S119)) (op_tuple Tryz.underlying119 (by kernel_rfl) (opF_cons (n := 1) rfl (by kernel_rfl) (op_bool Tryz.underlying4).up (opF_one (n := 1) rfl (by kernel_rfl) oS117))) (fun _ => rfl) (fun _ h => h.2.1)
theorem oS26 : OpM Tryz.prog kit 26 2 (fun l : List (M2.D .t119) => [AV.row (Ty := M2.Ty) (D := M2.D) 0 M2.Ty.t119 l]) (fun xs => xs.length ≤ maxLen ∧ ∀ x ∈ xs, x.f1.length ≤ maxLen) := op_slice (te := M2.Ty.t119) Tryz.underlying26 (by kernel_rfl) (fun _ => rfl) (by decide) oE119
set_option maxRecDepth 100000 in
set_option maxHeartbeats 4000000 in
theorem lifted (os : Os) (started : os.Started) (H : Type) (enc : TypeId × Value → H) :
    ReturnsInHanded {} Tryz.checked os 3 .any (Rows.fnExactReadOfSpec.pre6 enc Tryz.prog Tryz.f3 Rows.fnExactReadOfRow.domain false) (Rows.fnExactReadOfSpec.post enc Tryz.prog Tryz.f3 false true false false) := by
  refine returnsInHanded_of_change_sized (C := Tryz.checked) own started (by kernel_rfl) Tryz.func3
    (ChangeSpec.witness6 (enc := enc) (C := Tryz.checked) false ⟨#[], #[.agg #[.slice none 0 0, .slice none 0 0, .slice none 0 0, .int .i64 0, .int .i64 0, .int .i64 0, .int .i64 0], .int .i64 0, .int .i64 0], []⟩ 8 (by kernel_rfl) (by kernel_rfl) (by kernel_rfl) (by kernel_rfl)) ?_
  intro W base args ds gs before hval0 hW hcnd hsz0 _
  have hval : ∀ (j : Nat) t v, Tryz.f3.params[j]? = some t → args[j]? = some v → Value.okWide Tryz.prog W .any base t v := hval0
  have hW' := hW
  obtain ⟨p, q, hA0, hV, rfl, hfz, hnd⟩ := hW
  have hA : DataW.TrodAll enc Tryz.prog W 0 (fun _ => true) true Tryz.f3.params.toList args.toList ds p := hA0
  rw [Tryz.params3] at hA hval
  obtain ⟨v0, vs0, d0, ds0, p0, q0, hargs, rfl, rfl, h0, r0⟩ := trodAll_cons hA
  obtain ⟨v1, vs1, d1, ds1, p1, q1, rfl, rfl, rfl, h1, r1⟩ := trodAll_cons r0
  obtain ⟨v2, vs2, d2, ds2, p2, q2, rfl, rfl, rfl, h2, r2⟩ := trodAll_cons r1
  obtain ⟨rfl, rfl, rfl⟩ := trodAll_nil r2
  obtain rfl : args = #[v0, v1, v2] := by cases args; simp_all
  obtain ⟨rfl, rfl⟩ := trodVars_none hV
  have k0 := h0
  have lt0 : ∀ x ∈ p0, x.block < W.heap.size := by obtain ⟨m, hm⟩ := k0; exact DataW.trod_lt m _ _ _ hm
  obtain ⟨fu0, hf0⟩ := h0
  obtain ⟨y0, K0, Y0⟩ := (op_tuple Tryz.underlying32 (by kernel_rfl) (opF_cons (n := 1) rfl (by kernel_rfl) (op_tuple Tryz.underlying24 (by kernel_rfl) (opF_one (n := 1) rfl (by kernel_rfl) oS22)) (opF_cons (n := 3) rfl (by kernel_rfl) (op_tuple Tryz.underlying30 (by kernel_rfl) (opF_cons (n := 1) rfl (by kernel_rfl) oS25.up (opF_cons (n := 1) rfl (by kernel_rfl) (op_tuple Tryz.underlying28 (by kernel_rfl) (opF_one (n := 1) rfl (by kernel_rfl) oS26)) (opF_one (n := 1) rfl (by kernel_rfl) (op_int Tryz.underlying3).up.up)))) (opF_cons (n := 1) rfl (by kernel_rfl) (op_int Tryz.underlying3).up.up (opF_cons (n := 1) rfl (by kernel_rfl) (op_int Tryz.underlying3).up.up (opF_one (n := 1) rfl (by kernel_rfl) (op_int Tryz.underlying3).up.up)))))) H enc W 0 (fun _ => true) true fu0 _ _ hf0
  obtain ⟨cs0, rfl, sz0⟩ := okWide_struct Tryz.underlying32 (hval 0 32 v0 rfl rfl)
  have k1 := h1
  have lt1 : ∀ x ∈ p1, x.block < W.heap.size := by obtain ⟨m, hm⟩ := k1; exact DataW.trod_lt m _ _ _ hm
  obtain ⟨fu1, hf1⟩ := h1
  obtain ⟨y1, K1, Y1⟩ := (op_int Tryz.underlying3) H enc W 0 (fun _ => true) true fu1 _ _ hf1
  obtain ⟨b1, rfl⟩ := okWide_int Tryz.underlying3 (hval 1 3 v1 rfl rfl)
  have k2 := h2
  have lt2 : ∀ x ∈ p2, x.block < W.heap.size := by obtain ⟨m, hm⟩ := k2; exact DataW.trod_lt m _ _ _ hm
  obtain ⟨fu2, hf2⟩ := h2
  obtain ⟨y2, K2, Y2⟩ := (op_int Tryz.underlying3) H enc W 0 (fun _ => true) true fu2 _ _ hf2
  obtain ⟨b2, rfl⟩ := okWide_int Tryz.underlying3 (hval 2 3 v2 rfl rfl)

  obtain ⟨k, hp⟩ := M2.Mp.evx_out (M2.Mp.fnExactReadOfX y0.1 y0.2.1.1 y0.2.1.2.1 y0.2.1.2.2 y0.2.2.1 y0.2.2.2.1 y0.2.2.2.2 y1 y2 (Y0.1.1) (Y0.1.2) (Y0.2.1.1.1) (Y0.2.1.2.1.1) (Y0.2.1.2.1.2))
  have con : Contract Tryz.prog kit 3 [.ag [.row 0 .t91 y0.1, .row 0 .t104 y0.2.1.1, .row 0 .t119 y0.2.1.2.1, .sc (.int .i64 y0.2.1.2.2), .sc (.int .i64 y0.2.2.1), .sc (.int .i64 y0.2.2.2.1), .sc (.int .i64 y0.2.2.2.2)], .sc (.int .i64 y1), .sc (.int .i64 y2)] [] (.sc (.bool true)) [] [] := M2.laws_FnExactReadOf.con k y0.1 y0.2.1.1 y0.2.1.2.1 y0.2.1.2.2 y0.2.2.1 y0.2.2.2.1 y0.2.2.2.2 y1 y2 true hp
  refine (top con W #[.agg cs0, .int .i64 b1, .int .i64 b2] rfl (fun j u x hu hx => by
    match j, hu, hx with
    | 0, hu, hx => simp only [List.getElem?_cons_zero, List.getElem?_cons_succ, List.getElem?_toArray, Option.some.injEq] at hu hx; subst hu hx; exact ⟨by simp, (va_ag (cs := cs0.toList) K0)⟩
    | 1, hu, hx => simp only [List.getElem?_cons_zero, List.getElem?_cons_succ, List.getElem?_toArray, Option.some.injEq] at hu hx; subst hu hx; exact ⟨by simp, (va_sc K1)⟩
    | 2, hu, hx => simp only [List.getElem?_cons_zero, List.getElem?_cons_succ, List.getElem?_toArray, Option.some.injEq] at hu hx; subst hu hx; exact ⟨by simp, (va_sc K2)⟩
    | j + 3, hu, _ => simp at hu)).mono fun e W' ⟨he, bel⟩ => ?_
  subst he
  exact ⟨_, rfl, _, _, _, [], _, [], hW', trodAll_mk1 (shut_bool Tryz.underlying4 _), (trodAll_cons_mk (Below.trod laidOut (by kernel_rfl) (of_decide_eq_true (by kernel_rfl)) k0 bel lt0) (trodAll_cons_mk (Below.trod laidOut (by kernel_rfl) (of_decide_eq_true (by kernel_rfl)) k1 bel lt1) (trodAll_cons_mk (Below.trod laidOut (by kernel_rfl) (of_decide_eq_true (by kernel_rfl)) k2 bel lt2) trodAll_mk0))), rfl, bel.frame _, fun h => by cases h⟩
theorem over : Rows.fnExactReadOfRow.holds Tryz.pinned (OpenSpec.ofChange Rows.fnExactReadOfSpec) :=
  OpenClaim.holds_of_wide 3 Tryz.f3 rfl rfl rfl rfl rfl rfl rfl ⟨rfl, rfl, rfl, rfl, rfl⟩ rfl rfl rfl rfl rfl (by kernel_rfl) Tryz.func3 (by kernel_rfl)
    (of_decide_eq_true (by kernel_rfl)) (by unfold Func.isWrapper; first | (rw [if_pos (by decide +kernel)]; kernel_rfl) | (rw [if_neg (by decide +kernel)]; exact ⟨rfl, rfl⟩))
    (fun os started H enc _ => lifted os started H enc)
end Go.Proofs.YtbbfkodckpfjcaaGreat.fnExactReadOf
namespace Go.Proofs.YtbbfkodckpfjcaaGreat
/-- The row, under a short name, for the claim. -/
theorem fnExactReadOf_holds : Rows.FnExactReadOfSaid := fnExactReadOf.over
end Go.Proofs.YtbbfkodckpfjcaaGreat
