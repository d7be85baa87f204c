/- When a record is right, as one test; the program's and the reference's RecOk answer it. -/
import Derived.Test.YtjlblibfbokjoaaPu0
import Derived.Test.YtjlblibfbokjoaaPAx8
import Derived.Test.YtjlblibfbokjoaaPAx10
namespace Go.Proofs.Ytjlblibfbokjoaa.Pu
open Go.RowKit Go.Proofs.Ytjlblibfbokjoaa.PA Go.Proofs.YtjlblibfbokjoaaW.PrintWords

theorem in_eq' (a l h : Int) : impl_in.f a l h = some (decide (l ≤ a ∧ a ≤ h)) := by
  unfold impl_in.f
  by_cases h1 : a ≥ l
  · rw [if_pos h1]; congr 1; simp; omega
  · rw [if_neg h1]; congr 1; simp; omega
theorem l01In_eq' (a l h : Int) : spec_l01In.f a l h = some (decide (l ≤ a ∧ a ≤ h)) := by
  unfold spec_l01In.f
  by_cases h1 : a ≥ l
  · rw [if_pos h1]; congr 1; simp; omega
  · rw [if_neg h1]; congr 1; simp; omega
theorem some_dec {b : Bool} {P : Prop} [Decidable P] (h : b = true ↔ P) : some b = some (decide P) := by
  congr 1
  rw [Bool.eq_iff_iff, decide_eq_true_eq]
  exact h

/-- A record is right. -/
def recOk (t v a c : Int) : Bool := decide (0 ≤ a ∧ a ≤ 1000000000 ∧ ((t = 1 ∧ v = 0 ∧ c = 0) ∨ (1 ≤ v ∧ v ≤ 9 ∧ ((t = 2 ∧ c = 0 ∧ a ≤ 9) ∨ (t = 3 ∧ c = 0 ∧ a = 0) ∨ (t = 4 ∧ a ≤ 15 ∧ 1 ≤ c ∧ c ≤ 1000000000) ∨ (t = 5 ∧ c = 0 ∧ a ≤ 15)))))
theorem impl_RecOk_eq (k : Nat) (t v a c : Int) : impl_RecOk.f (k + 1) t v a c = some (recOk t v a c) := by
  unfold impl_RecOk.f impl_RecOk.j0 recOk
  simp only [in_eq', Option.bind_some]
  repeat' split
  all_goals (refine some_dec ?_)
  all_goals (simp only [beq_iff_eq, bne_iff_ne, ne_eq, decide_eq_true_eq, Bool.false_eq_true, false_iff, not_true_eq_false, not_false_eq_true] at *)
  all_goals omega
theorem spec_RecOk_eq (k : Nat) (t v a c : Int) : spec_RecOk.f (k + 1) t v a c = some (recOk t v a c) := by
  unfold spec_RecOk.f spec_RecOk.j0 recOk
  simp only [l01In_eq', Option.bind_some]
  repeat' split
  all_goals (refine some_dec ?_)
  all_goals (simp only [beq_iff_eq, bne_iff_ne, ne_eq, decide_eq_true_eq, Bool.false_eq_true, false_iff, not_true_eq_false, not_false_eq_true] at *)
  all_goals omega
theorem iRecOk_ev (t v a c : Int) : Ev (fun k => impl_RecOk.f k t v a c) (recOk t v a c) := ev_some fun k => impl_RecOk_eq k t v a c
theorem sRecOk_ev (t v a c : Int) : Ev (fun k => spec_RecOk.f k t v a c) (recOk t v a c) := ev_some fun k => spec_RecOk_eq k t v a c
theorem recOk_range {t v a c : Int} (h : recOk t v a c = true) : 1 ≤ t ∧ t ≤ 5 ∧ 0 ≤ v ∧ v ≤ 9 ∧ 0 ≤ a ∧ a ≤ 1000000000 ∧ 0 ≤ c ∧ c ≤ 1000000000 := by
  unfold recOk at h
  rw [decide_eq_true_eq] at h
  omega
end Go.Proofs.Ytjlblibfbokjoaa.Pu
