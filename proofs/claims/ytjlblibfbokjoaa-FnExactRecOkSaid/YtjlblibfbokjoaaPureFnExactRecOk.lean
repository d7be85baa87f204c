/- FnExactRecOk: the program's and the reference's look at a record are one test. -/
import Derived.Test.YtjlblibfbokjoaaPuRec
import Derived.Test.YtjlblibfbokjoaaPAx11
namespace Go.Proofs.Ytjlblibfbokjoaa.Pure
open Go.RowKit Go.Proofs.Ytjlblibfbokjoaa.PA Go.Proofs.YtjlblibfbokjoaaW.PrintWords Go.Proofs.Ytjlblibfbokjoaa.Pu

theorem FnExactRecOk : ∀ (a0_0 : Int) (a0_1 : Int) (a0_2 : Int) (a0_3 : Int), (Lit.int .i64 a0_0).wf = true → (Lit.int .i64 a0_1).wf = true → (Lit.int .i64 a0_2).wf = true → (Lit.int .i64 a0_3).wf = true → ∃ k, laws_FnExactRecOk.f k a0_0 a0_1 a0_2 a0_3 = some true := by
  intro t v a c _ _ _ _
  refine ⟨1, ?_⟩
  unfold laws_FnExactRecOk.f laws_toRec.f
  simp only [Option.bind_some, impl_RecOk_eq, spec_RecOk_eq]
  simp
end Go.Proofs.Ytjlblibfbokjoaa.Pure
