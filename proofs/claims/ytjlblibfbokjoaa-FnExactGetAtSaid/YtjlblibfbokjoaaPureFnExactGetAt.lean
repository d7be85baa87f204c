/- FnExactGetAt: the program's and the reference's number of a sector are one. -/
import Derived.Test.YtjlblibfbokjoaaPuGetAt
import Derived.Test.YtjlblibfbokjoaaPAx56
namespace Go.Proofs.Ytjlblibfbokjoaa.Pure
open Go.RowKit Go.Proofs.Ytjlblibfbokjoaa.PA Go.Proofs.YtjlblibfbokjoaaW.PrintWords Go.Proofs.Ytjlblibfbokjoaa.Pu

theorem FnExactGetAt : ∀ (l0_0 : List S145) (a1 : Int) (a2 : Int), (l0_0.length ≤ maxLen ∧ ∀ x_l0_0 ∈ l0_0, (True ∧ (x_l0_0.f1.length ≤ maxLen ∧ ∀ x_x_l0_0f1 ∈ x_l0_0.f1, (Lit.int .i64 x_x_l0_0f1).wf = true))) → (Lit.int .i64 a1).wf = true → (Lit.int .i64 a2).wf = true → ∃ k, laws_FnExactGetAt.f k l0_0 a1 a2 = some true := by
  intro l a1 a2 ⟨hl, hx⟩ _ _
  refine Ev.rounds (g := fun k => laws_FnExactGetAt.f k l a1 a2) ?_
  unfold maxLen at hl
  obtain ⟨r, hr, _, hq⟩ := szArena_ev l 1048576 (by omega) (by omega) (by omega) (fun x h => by have := (hx x h).2.1; unfold maxLen at this; omega)
  unfold laws_FnExactGetAt.f
  refine ev_bind hr ?_
  by_cases h : r < 0
  · simp only [if_pos h]; exact Ev.now _
  · simp only [if_neg h]
    obtain ⟨h1, h2⟩ := hq (by omega)
    have hlen : (toA l).length = l.length := by unfold toA; exact List.length_map _
    have hto := toArena_ev l (by omega) (fun x h => by have := h2 x h; omega)
    have eqq := eqArena_ev (toA l) (by omega) (fun x h => by
      unfold toA at h
      obtain ⟨y, hy, rfl⟩ := List.mem_map.1 h
      have := h2 y hy
      show y.f1.length ≤ _
      omega)
    refine ev_bind hto (ev_bind (sGetAt_ev _ a1 a2 (by omega)) (ev_bind hto (ev_bind (iGetAt_ev _ a1 a2 (by omega)) ?_)))
    simp only [if_true]
    exact ev_bind hto (ev_bind eqq (by simp only [if_true]; exact Ev.now _))
end Go.Proofs.Ytjlblibfbokjoaa.Pure
