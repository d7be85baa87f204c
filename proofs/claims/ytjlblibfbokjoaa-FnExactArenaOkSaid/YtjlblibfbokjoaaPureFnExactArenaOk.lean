/- FnExactArenaOk: the program's and the reference's look at an arena are one test. -/
import Derived.Test.YtjlblibfbokjoaaPuArenaOk
import Derived.Test.YtjlblibfbokjoaaPAx33
namespace Go.Proofs.Ytjlblibfbokjoaa.Pure
open Go.RowKit Go.Proofs.Ytjlblibfbokjoaa.PA Go.Proofs.YtjlblibfbokjoaaW.PrintWords Go.Proofs.Ytjlblibfbokjoaa.Pu

theorem FnExactArenaOk : ∀ (l0_0 : List S145), (l0_0.length ≤ maxLen ∧ ∀ x_l0_0 ∈ l0_0, (True ∧ (x_l0_0.f1.length ≤ maxLen ∧ ∀ x_x_l0_0f1 ∈ x_l0_0.f1, (Lit.int .i64 x_x_l0_0f1).wf = true))) → ∃ k, laws_FnExactArenaOk.f k l0_0 = some true := by
  intro l ⟨hl, hx⟩
  refine Ev.rounds (g := fun k => laws_FnExactArenaOk.f k l) ?_
  unfold maxLen at hl
  obtain ⟨r, hr, _, hq⟩ := szArena_ev l 1048576 (by omega) (by omega) (by omega) (fun x h => by have := (hx x h).2.1; unfold maxLen at this; omega)
  unfold laws_FnExactArenaOk.f
  refine ev_bind hr ?_
  by_cases h : r < 0
  · simp only [if_pos h]; exact Ev.now _
  · simp only [if_neg h]
    obtain ⟨h1, h2⟩ := hq (by omega)
    have hlen : (toA l).length = l.length := by unfold toA; exact List.length_map _
    have hto := toArena_ev l (by omega) (fun x h => by have := h2 x h; omega)
    have eqq := eqArena_ev (toA l) (by omega) (fun x h => by
      unfold toA at h
      obtain ⟨y, hy, rfl⟩ := List.mem_map.1 h
      have := h2 y hy
      show y.f1.length ≤ _
      omega)
    refine ev_bind hto (ev_bind (sArena_ev _ (by omega)) (ev_bind hto (ev_bind (iArena_ev _ (by omega)) ?_)))
    simp only [bne_self_eq_false, Bool.false_eq_true, if_false]
    exact ev_bind hto (ev_bind eqq (by simp only [if_true]; exact Ev.now _))
end Go.Proofs.Ytjlblibfbokjoaa.Pure
