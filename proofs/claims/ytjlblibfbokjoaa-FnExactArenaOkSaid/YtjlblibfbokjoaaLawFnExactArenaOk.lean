/- FnExactArenaOk: whatever the input, the law returns true, and its arguments read as they did. The row, out of the law's own walk and the pure statement. -/
import Derived.Test.YtjlblibfbokjoaaRows
import Derived.Test.YtjlblibfbokjoaaPAx33
import Derived.Test.YtjlblibfbokjoaaOpen
import Derived.Test.YtjlblibfbokjoaaPureFnExactArenaOk
import Derived.WalkKit
import Derived.ProofKit
import Derived.OpenShut
import Derived.ShutString
import Derived.ChangeOld
import Derived.Below
import Derived.SizedLaws
namespace Go.Proofs.Ytjlblibfbokjoaa.fnExactArenaOk
open Go.ChangeShapes Go.WideShapes Go.ChangeAt Go.RowKit Go.Proofs.Ytjlblibfbokjoaa.Open Go.Proofs.YtjlblibfbokjoaaW.PrintWords Go.Proofs.Ytjlblibfbokjoaa.PA
open Go.ChangeMaps (open_string shut_string)
theorem own : ownKnob Try.prog.godebug = none := by kernel_rfl
theorem laidOut : laidOutB Try.prog = true := by kernel_rfl
set_option maxRecDepth 100000 in
theorem o145 : Opn Try.prog 145 k145 (fun x => (True ∧ (x.f1.length ≤ maxLen ∧ ∀ x_xf1 ∈ x.f1, (Lit.int .i64 x_xf1).wf = true))) := opn_struct (d := (Kd.pair Kd.bool (Kd.slice 3 (Kd.int .i64)))) (wf := fun (y : Bool × (List Int)) => (True ∧ (y.2.length ≤ maxLen ∧ ∀ x_y2 ∈ y.2, (Lit.int .i64 x_y2).wf = true))) (fun x : S145 => (x.f0, x.f1)) (fun y => (⟨y.1, y.2⟩ : S145)) (fun _ => rfl) Try.underlying145 (by kernel_rfl) (opnF_cons rfl (by kernel_rfl) (opn_bool Try.underlying4) (opnF_one rfl (by kernel_rfl) (opn_slice Try.underlying59 (by kernel_rfl) (opn_int Try.underlying3))))
set_option maxRecDepth 100000 in
theorem p39 : Opn Try.prog 39 (Kd.slice 145 k145) (fun (y : (List S145)) => (y.length ≤ maxLen ∧ ∀ x_y ∈ y, (True ∧ (x_y.f1.length ≤ maxLen ∧ ∀ x_x_yf1 ∈ x_y.f1, (Lit.int .i64 x_x_yf1).wf = true)))) := opn_tuple Try.underlying39 (by kernel_rfl) (opnF_one rfl (by kernel_rfl) (opn_slice Try.underlying37 (by kernel_rfl) o145))
set_option maxRecDepth 100000 in
set_option maxHeartbeats 4000000 in
theorem lifted (os : Os) (started : os.Started) (H : Type) (enc : TypeId × Value → H) :
    ReturnsInHanded {} Try.checked os 6 .any (Rows.fnExactArenaOkSpec.pre6 enc Try.prog Try.f6 Rows.fnExactArenaOkRow.domain false) (Rows.fnExactArenaOkSpec.post enc Try.prog Try.f6 false true false false) := by
  refine returnsInHanded_of_change_sized (C := Try.checked) own started (by kernel_rfl) Try.func6
    (ChangeSpec.witness6 (enc := enc) (C := Try.checked) false ⟨#[], #[.agg #[.slice none 0 0]], []⟩ 8 (by kernel_rfl) (by kernel_rfl) (by kernel_rfl) (by kernel_rfl)) ?_
  intro W base args ds gs before hval0 hW hcnd hsz0 _
  have hval : ∀ (j : Nat) t v, Try.f6.params[j]? = some t → args[j]? = some v → Value.okWide Try.prog W .any base t v := hval0
  have hW' := hW
  obtain ⟨p, q, hA0, hV, rfl, hfz, hnd⟩ := hW
  have hA : DataW.TrodAll enc Try.prog W 0 (fun _ => true) true Try.f6.params.toList args.toList ds p := hA0
  rw [Try.params6] at hA hval
  obtain ⟨v0, vs0, d0, ds0, p0, q0, hargs, rfl, rfl, h0, r0⟩ := trodAll_cons hA
  obtain ⟨rfl, rfl, rfl⟩ := trodAll_nil r0
  obtain rfl : args = #[v0] := by cases args; simp_all
  obtain ⟨rfl, rfl⟩ := trodVars_none hV
  have k0 := h0
  have lt0 : ∀ x ∈ p0, x.block < W.heap.size := by obtain ⟨m, hm⟩ := k0; exact DataW.trod_lt m _ _ _ hm
  obtain ⟨fu0, hf0⟩ := h0
  obtain ⟨y0, K0, Y0⟩ := p39 H enc W 0 (fun _ => true) true fu0 _ _ hf0
  obtain ⟨cs0, rfl, sz0⟩ := okWide_struct Try.underlying39 (hval 0 39 v0 rfl rfl)
  obtain ⟨Ac0, Cc0, Ec0, Lc0, Gc0⟩ := K0
  have E0 : cs0 = #[.slice Ac0 y0.length Cc0] := by
    apply Array.toList_inj.1
    have z : cs0.toList = _ := Ec0
    exact z
  subst E0
  obtain ⟨k, hp⟩ := Pure.FnExactArenaOk y0 Y0
  clear hA0 hval0 hsz0
  refine (laws_FnExactArenaOk.calls k Ac0 Cc0 y0 true ⟨rfl⟩ W Gc0 Lc0 hp).mono fun e W' ⟨he, bel0⟩ => ?_
  have bel : Below W.heap.size W W' := bel0
  subst he
  exact ⟨_, rfl, _, _, _, [], _, [], hW', trodAll_mk1 (shut_bool Try.underlying4 _), (trodAll_cons_mk (Below.trod laidOut (by kernel_rfl) (of_decide_eq_true (by kernel_rfl)) k0 bel lt0) trodAll_mk0), rfl, bel.frame _, fun h => by cases h⟩
theorem over : Rows.fnExactArenaOkRow.holds Try.pinned (OpenSpec.ofChange Rows.fnExactArenaOkSpec) :=
  OpenClaim.holds_of_wide 6 Try.f6 rfl rfl rfl rfl rfl rfl rfl ⟨rfl, rfl, rfl, rfl, rfl⟩ rfl rfl rfl rfl rfl (by kernel_rfl) Try.func6 (by kernel_rfl)
    (of_decide_eq_true (by kernel_rfl)) (by unfold Func.isWrapper; first | (rw [if_pos (by decide +kernel)]; kernel_rfl) | (rw [if_neg (by decide +kernel)]; exact ⟨rfl, rfl⟩))
    (fun os started H enc _ => lifted os started H enc)
theorem proved : Rows.FnExactArenaOkSaid := over
#print axioms proved
end Go.Proofs.Ytjlblibfbokjoaa.fnExactArenaOk
namespace Go.Proofs.Ytjlblibfbokjoaa
/-- The row, under a short name, for the claim. -/
theorem fnExactArenaOk_holds : Rows.FnExactArenaOkSaid := fnExactArenaOk.proved
end Go.Proofs.Ytjlblibfbokjoaa
