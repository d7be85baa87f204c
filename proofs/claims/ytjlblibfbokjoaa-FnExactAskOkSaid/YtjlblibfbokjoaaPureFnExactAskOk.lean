/- FnExactAskOk: the program's and the reference's look at an ask are one test. -/
import Derived.Test.YtjlblibfbokjoaaPuRec
import Derived.Test.YtjlblibfbokjoaaPAx1
import Derived.Test.YtjlblibfbokjoaaPAx3
import Derived.Test.YtjlblibfbokjoaaPAx4
import Derived.Test.YtjlblibfbokjoaaPAx6
import Derived.Test.YtjlblibfbokjoaaPAx7
namespace Go.Proofs.Ytjlblibfbokjoaa.Pure
set_option linter.unusedVariables false
set_option linter.unusedSimpArgs false
open Go.RowKit Go.Proofs.Ytjlblibfbokjoaa.PA Go.Proofs.YtjlblibfbokjoaaW.PrintWords Go.Proofs.Ytjlblibfbokjoaa.Pu

def askOk (t v s o n : Int) : Bool := decide (1 ≤ t ∧ t ≤ 6 ∧ 1 ≤ v ∧ v ≤ 9 ∧ n ≤ 64 ∧ (t ≠ 1 → n ≤ 0) ∧ ((t = 4 ∧ s = 0 ∧ 1 ≤ o ∧ o ≤ 9) ∨ (t ≠ 4 ∧ o = 0 ∧ (((t = 3 ∨ t = 5) ∧ s = 0) ∨ (t ≠ 3 ∧ t ≠ 5 ∧ 0 ≤ s ∧ s ≤ 15)))))
theorem empty_size (a : ByteArray) : (a.toList != ([] : List UInt8)) = decide (¬ (a.size : Int) ≤ 0) := by
  rw [ByteArray.toList_eq]
  have h : a.data.toList.length = a.size := by rw [Array.length_toList]; rfl
  cases e : a.data.toList with
  | nil =>
    have h1 : a.size = 0 := by rw [← h, e]; rfl
    rw [decide_eq_false (by omega)]; rfl
  | cons x l =>
    have h1 : a.size = l.length + 1 := by rw [← h, e]; rfl
    rw [decide_eq_true (by omega)]; rfl
theorem sAsk_eq (k : Nat) (t v s o : Int) (a : ByteArray) : spec_AskOk.f (k + 1) t v s o a = some (askOk t v s o a.size) := by
  unfold spec_AskOk.f spec_AskOk.j0 askOk
  simp only [l01In_eq', Option.bind_some, empty_size]
  repeat' split
  all_goals (refine some_dec ?_)
  all_goals (simp only [beq_iff_eq, bne_iff_ne, ne_eq, decide_eq_true_eq, Bool.false_eq_true, false_iff, not_true_eq_false, not_false_eq_true] at *)
  all_goals omega
theorem iAsk_eq (k : Nat) (t v s o : Int) (a : ByteArray) : impl_AskOk.f (k + 2) t v s o a = some (askOk t v s o a.size) := by
  unfold impl_AskOk.f impl_AskOk.j0 impl_AskOk.j1 askOk
  simp only [in_eq', Option.bind_some, mn]
  repeat' split
  all_goals (refine some_dec ?_)
  all_goals (simp only [beq_iff_eq, bne_iff_ne, ne_eq, decide_eq_true_eq, Bool.false_eq_true, false_iff, not_true_eq_false, not_false_eq_true, Bool.not_eq_true', decide_eq_false_iff_not] at *)
  all_goals omega
theorem FnExactAskOk : ∀ (a0_0 : Int) (a0_1 : Int) (a0_2 : Int) (a0_3 : Int) (a0_4 : ByteArray), (Lit.int .i64 a0_0).wf = true → (Lit.int .i64 a0_1).wf = true → (Lit.int .i64 a0_2).wf = true → (Lit.int .i64 a0_3).wf = true → a0_4.size ≤ maxLen → ∃ k, laws_FnExactAskOk.f k a0_0 a0_1 a0_2 a0_3 a0_4 = some true := by
  intro t v s o a _ _ _ _ ha
  unfold maxLen at ha
  refine ⟨2, ?_⟩
  unfold laws_FnExactAskOk.f laws_szAsk.f laws_toAsk.f
  rw [w64 (by omega) (by omega)]
  by_cases h : 1048576 - (a.size : Int) < 0
  · rw [if_pos h]; simp
  · rw [if_neg h]
    simp only [Option.bind_some, if_neg h, sAsk_eq 1, iAsk_eq 0]
    simp
end Go.Proofs.Ytjlblibfbokjoaa.Pure
