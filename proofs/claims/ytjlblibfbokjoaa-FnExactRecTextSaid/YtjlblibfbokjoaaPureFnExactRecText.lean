/- FnExactRecText: the program's and the reference's bytes of a record are the same. -/
import Derived.Test.YtjlblibfbokjoaaPuRecText
import Derived.Test.YtjlblibfbokjoaaPAx18
namespace Go.Proofs.Ytjlblibfbokjoaa.Pure
open Go.RowKit Go.Proofs.Ytjlblibfbokjoaa.PA Go.Proofs.YtjlblibfbokjoaaW.PrintWords Go.Proofs.Ytjlblibfbokjoaa.Pu

theorem FnExactRecText : ∀ (a0_0 : Int) (a0_1 : Int) (a0_2 : Int) (a0_3 : Int), (Lit.int .i64 a0_0).wf = true → (Lit.int .i64 a0_1).wf = true → (Lit.int .i64 a0_2).wf = true → (Lit.int .i64 a0_3).wf = true → ∃ k, laws_FnExactRecText.f k a0_0 a0_1 a0_2 a0_3 = some true := by
  intro t v a c _ _ _ _
  refine Ev.rounds (g := fun k => laws_FnExactRecText.f k t v a c) ?_
  unfold laws_FnExactRecText.f laws_toRec.f
  simp only [Option.bind_some]
  refine ev_bind (sRecText_ev t v a c) (ev_bind (iRecText_ev t v a c) ?_)
  simp only [if_true, bne_self_eq_false, Bool.false_eq_true, if_false]
  exact Ev.now _
end Go.Proofs.Ytjlblibfbokjoaa.Pure
