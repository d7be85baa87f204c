/- FnExactAskOk: whatever the input, the law returns true, and its arguments read as they did. The row, out of the law's own walk and the pure statement. -/
import Derived.Test.YtjlblibfbokjoaaRows
import Derived.Test.YtjlblibfbokjoaaPAx7
import Derived.Test.YtjlblibfbokjoaaOpen
import Derived.Test.YtjlblibfbokjoaaPureFnExactAskOk
import Derived.WalkKit
import Derived.ProofKit
import Derived.OpenShut
import Derived.ShutString
import Derived.ChangeOld
import Derived.Below
import Derived.SizedLaws
namespace Go.Proofs.Ytjlblibfbokjoaa.fnExactAskOk
open Go.ChangeShapes Go.WideShapes Go.ChangeAt Go.RowKit Go.Proofs.Ytjlblibfbokjoaa.Open Go.Proofs.YtjlblibfbokjoaaW.PrintWords Go.Proofs.Ytjlblibfbokjoaa.PA
open Go.ChangeMaps (open_string shut_string)
theorem own : ownKnob Try.prog.godebug = none := by kernel_rfl
theorem laidOut : laidOutB Try.prog = true := by kernel_rfl
set_option maxRecDepth 100000 in
theorem p23 : Opn Try.prog 23 (Kd.pair (Kd.int .i64) (Kd.pair (Kd.int .i64) (Kd.pair (Kd.int .i64) (Kd.pair (Kd.int .i64) Kd.string)))) (fun (y : (Int × Int × Int × Int × ByteArray)) => ((Lit.int .i64 y.1).wf = true ∧ ((Lit.int .i64 y.2.1).wf = true ∧ ((Lit.int .i64 y.2.2.1).wf = true ∧ ((Lit.int .i64 y.2.2.2.1).wf = true ∧ y.2.2.2.2.size ≤ maxLen))))) := opn_tuple Try.underlying23 (by kernel_rfl) (opnF_cons rfl (by kernel_rfl) (opn_int Try.underlying3) (opnF_cons rfl (by kernel_rfl) (opn_int Try.underlying3) (opnF_cons rfl (by kernel_rfl) (opn_int Try.underlying3) (opnF_cons rfl (by kernel_rfl) (opn_int Try.underlying3) (opnF_one rfl (by kernel_rfl) (opn_string Try.underlying9))))))
set_option maxRecDepth 100000 in
set_option maxHeartbeats 4000000 in
theorem lifted (os : Os) (started : os.Started) (H : Type) (enc : TypeId × Value → H) :
    ReturnsInHanded {} Try.checked os 3 .any (Rows.fnExactAskOkSpec.pre6 enc Try.prog Try.f3 Rows.fnExactAskOkRow.domain false) (Rows.fnExactAskOkSpec.post enc Try.prog Try.f3 false true false false) := by
  refine returnsInHanded_of_change_sized (C := Try.checked) own started (by kernel_rfl) Try.func3
    (ChangeSpec.witness6 (enc := enc) (C := Try.checked) false ⟨#[], #[.agg #[.int .i64 0, .int .i64 0, .int .i64 0, .int .i64 0, .string ByteArray.empty]], []⟩ 8 (by kernel_rfl) (by kernel_rfl) (by kernel_rfl) (by kernel_rfl)) ?_
  intro W base args ds gs before hval0 hW hcnd hsz0 _
  have hval : ∀ (j : Nat) t v, Try.f3.params[j]? = some t → args[j]? = some v → Value.okWide Try.prog W .any base t v := hval0
  have hW' := hW
  obtain ⟨p, q, hA0, hV, rfl, hfz, hnd⟩ := hW
  have hA : DataW.TrodAll enc Try.prog W 0 (fun _ => true) true Try.f3.params.toList args.toList ds p := hA0
  rw [Try.params3] at hA hval
  obtain ⟨v0, vs0, d0, ds0, p0, q0, hargs, rfl, rfl, h0, r0⟩ := trodAll_cons hA
  obtain ⟨rfl, rfl, rfl⟩ := trodAll_nil r0
  obtain rfl : args = #[v0] := by cases args; simp_all
  obtain ⟨rfl, rfl⟩ := trodVars_none hV
  have k0 := h0
  have lt0 : ∀ x ∈ p0, x.block < W.heap.size := by obtain ⟨m, hm⟩ := k0; exact DataW.trod_lt m _ _ _ hm
  obtain ⟨fu0, hf0⟩ := h0
  obtain ⟨y0, K0, Y0⟩ := p23 H enc W 0 (fun _ => true) true fu0 _ _ hf0
  obtain ⟨cs0, rfl, sz0⟩ := okWide_struct Try.underlying23 (hval 0 23 v0 rfl rfl)
  obtain ⟨c0_0, c0_r0, ec0_r0, hc0_0, hc0_r0⟩ := K0
  have Ec0_0 := hc0_0
  obtain ⟨c0_r0_1, c0_r0_r1, ec0_r0_r1, hc0_r0_1, hc0_r0_r1⟩ := hc0_r0
  have Ec0_r0_1 := hc0_r0_1
  obtain ⟨c0_r0_r1_2, c0_r0_r1_r2, ec0_r0_r1_r2, hc0_r0_r1_2, hc0_r0_r1_r2⟩ := hc0_r0_r1
  have Ec0_r0_r1_2 := hc0_r0_r1_2
  obtain ⟨c0_r0_r1_r2_3, c0_r0_r1_r2_r3, ec0_r0_r1_r2_r3, hc0_r0_r1_r2_3, hc0_r0_r1_r2_r3⟩ := hc0_r0_r1_r2
  have Ec0_r0_r1_r2_3 := hc0_r0_r1_r2_3
  have Ec0_r0_r1_r2_r3 := hc0_r0_r1_r2_r3
  have E0 : cs0 = #[.int .i64 y0.1, .int .i64 y0.2.1, .int .i64 y0.2.2.1, .int .i64 y0.2.2.2.1, .string y0.2.2.2.2] := by
    apply Array.toList_inj.1
    have z : cs0.toList = _ := ec0_r0
    rw [z]
    rw [ec0_r0_r1, ec0_r0_r1_r2, ec0_r0_r1_r2_r3, Ec0_0, Ec0_r0_1, Ec0_r0_r1_2, Ec0_r0_r1_r2_3, Ec0_r0_r1_r2_r3]
    rfl
  subst E0
  obtain ⟨k, hp⟩ := Pure.FnExactAskOk y0.1 y0.2.1 y0.2.2.1 y0.2.2.2.1 y0.2.2.2.2 Y0.1 Y0.2.1 Y0.2.2.1 Y0.2.2.2.1 Y0.2.2.2.2
  clear hA0 hval0 hsz0
  refine (laws_FnExactAskOk.calls k y0.1 y0.2.1 y0.2.2.1 y0.2.2.2.1 y0.2.2.2.2 true ⟨rfl⟩ W hp).mono fun e W' ⟨he, bel0⟩ => ?_
  have bel : Below W.heap.size W W' := bel0
  subst he
  exact ⟨_, rfl, _, _, _, [], _, [], hW', trodAll_mk1 (shut_bool Try.underlying4 _), (trodAll_cons_mk (Below.trod laidOut (by kernel_rfl) (of_decide_eq_true (by kernel_rfl)) k0 bel lt0) trodAll_mk0), rfl, bel.frame _, fun h => by cases h⟩
theorem over : Rows.fnExactAskOkRow.holds Try.pinned (OpenSpec.ofChange Rows.fnExactAskOkSpec) :=
  OpenClaim.holds_of_wide 3 Try.f3 rfl rfl rfl rfl rfl rfl rfl ⟨rfl, rfl, rfl, rfl, rfl⟩ rfl rfl rfl rfl rfl (by kernel_rfl) Try.func3 (by kernel_rfl)
    (of_decide_eq_true (by kernel_rfl)) (by unfold Func.isWrapper; first | (rw [if_pos (by decide +kernel)]; kernel_rfl) | (rw [if_neg (by decide +kernel)]; exact ⟨rfl, rfl⟩))
    (fun os started H enc _ => lifted os started H enc)
theorem proved : Rows.FnExactAskOkSaid := over
#print axioms proved
end Go.Proofs.Ytjlblibfbokjoaa.fnExactAskOk
namespace Go.Proofs.Ytjlblibfbokjoaa
/-- The row, under a short name, for the claim. -/
theorem fnExactAskOk_holds : Rows.FnExactAskOkSaid := fnExactAskOk.proved
end Go.Proofs.Ytjlblibfbokjoaa
