/- FnTransactions: functions of the translation as Lean functions with what their calls come to, plain lemmas on them, and, at the end, the row. Parts of one proof, merged by a program of this session; each part's own sentence stands at its head. -/
import Derived.Below
import Derived.Test.YtkbfmompapcekaaRows
import Derived.WalkKit
import Derived.ProofKit
import Derived.OpenShut
import Derived.ShutString
import Derived.ChangeOld
import Derived.SizedLaws
import Derived.ChangeSlices
import Derived.Test.YtkbfmompapcekaaMFnTransactionsc
/- What the print's plain functions answer, the own ones answer. Written by a program of this session. -/
namespace Go.Proofs.Ytkbfmompapcekaa.M2
open Go Go.RowKit Go.Proofs.YtkbfmompapcekaaW.PrintWords Go.Proofs.Ytkbfmompapcekaa.PK
set_option linter.unusedVariables false
set_option linter.unusedSimpArgs false
theorem spec_l01In.rel (k : Nat) (a0 : Int) (a1 : Int) (a2 : Int) (r) (h : PK.spec_l01In.f a0 a1 a2 = some r) (m : Nat) (hm : k ≤ m) : spec_l01In.f m a0 a1 a2 = some r := by
  rw [PK.spec_l01In.f] at h
  rw [spec_l01In.f]
  try simp only [w64_eq, wu8_eq, gt_iff_lt, ge_iff_le, int_beq, fdiv33, fdiv45, bt_eq, tmodN, rdOfB] at h
  try simp only [shlR]
  try simp only [w64_eq, wu8_eq, gt_iff_lt, ge_iff_le, int_beq, fdiv33, fdiv45, bt_eq, tmodN, rdOfB, rdT3_eq, rdT5_eq, seq, maxI, minI, emp_eq, rdn3, rdn5, rdn48, rdn33, rdn9, rdn36, rdn40]
  refine (itE h (fun q h => ?_) (fun q h => ?_))
  all_goals (try cases h)
  all_goals (try simp only [*, if_true, if_false, ↓reduceIte, Option.bind_some, List.length_cons, List.length_nil, List.length_append, Bool.not_true, Bool.not_false, Bool.true_eq_false, Bool.false_eq_true])
  all_goals (repeat first | rw [if_pos (by omega)] | rw [if_neg (by omega)])
  all_goals first | exact h | exact h _ | exact h _ _ | exact h _ _ _ | exact h _ _ _ _ | exact h _ _ _ _ _ | exact h _ _ _ _ _ _ | exact h _ _ _ _ _ _ _ | exact h _ _ _ _ _ _ _ _ | rfl | (simp_all [-Bool.forall_bool]; done) | (simp_all [-Bool.forall_bool]; first | exact h | exact h _ | exact h _ _ | exact h _ _ _ | exact h _ _ _ _ | exact h _ _ _ _ _ | exact h _ _ _ _ _ _ | exact h _ _ _ _ _ _ _ | exact h _ _ _ _ _ _ _ _) | (simp_all [-Bool.forall_bool, emp_eq, int_beq]; done) | (simp_all [-Bool.forall_bool]; (intros; simp_all; done)) | (simp_all [-Bool.forall_bool, rdset3, rdset5, rdset48, rdset33, rdset9, rdset36, rdset40]; done) | grind

theorem spec_RecOk.rel (k : Nat) (a0_0 : Int) (a0_1 : Int) (a0_2 : Int) (a0_3 : Int) (r) (h : PK.spec_RecOk.f k a0_0 a0_1 a0_2 a0_3 = some r) (m : Nat) (hm : k ≤ m) : spec_RecOk.f m a0_0 a0_1 a0_2 a0_3 = some r := by
  rw [PK.spec_RecOk.f] at h
  rw [spec_RecOk.f]
  try simp only [w64_eq, wu8_eq, gt_iff_lt, ge_iff_le, int_beq, fdiv33, fdiv45, bt_eq, tmodN, rdOfB] at h
  try simp only [shlR]
  try simp only [w64_eq, wu8_eq, gt_iff_lt, ge_iff_le, int_beq, fdiv33, fdiv45, bt_eq, tmodN, rdOfB, rdT3_eq, rdT5_eq, seq, maxI, minI, emp_eq, rdn3, rdn5, rdn48, rdn33, rdn9, rdn36, rdn40]
  refine (bnE h (fun _ g h => (fun g => (itE h (fun q h => (itE h (fun q h => (itE h (fun q h => ?_) (fun q h => ?_))) (fun q h => (bnE h (fun _ g h => (fun g => (itE h (fun q h => (bnE h (fun _ g h => (fun g => (itE h (fun q h => (itE h (fun q h => (by cases k with | zero => (simp only [PK.spec_RecOk.j0] at h; cases h) | succ k => (rw [PK.spec_RecOk.j0] at h; (try simp only [w64_eq, wu8_eq, gt_iff_lt, ge_iff_le, int_beq, fdiv33, fdiv45, bt_eq, tmodN, rdOfB] at h); refine (itE h (fun q h => ?_) (fun q h => (itE h (fun q h => ?_) (fun q h => (itE h (fun q h => ?_) (fun q h => (itE h (fun q h => (itE h (fun q h => (bnE h (fun _ g h => (fun g => ?_) (spec_l01In.rel m _ _ _ _ g m (by omega))))) (fun q h => ?_))) (fun q h => ?_)))))))) <;> ((try cases h); (try simp only [*, if_true, if_false, ↓reduceIte, Option.bind_some, List.length_cons, List.length_nil, List.length_append, Bool.not_true, Bool.not_false, Bool.true_eq_false, Bool.false_eq_true]); all_goals (repeat first | rw [if_pos (by omega)] | rw [if_neg (by omega)]); all_goals (first | exact h | exact h _ | exact h _ _ | exact h _ _ _ | exact h _ _ _ _ | exact h _ _ _ _ _ | exact h _ _ _ _ _ _ | exact h _ _ _ _ _ _ _ | exact h _ _ _ _ _ _ _ _ | rfl | (simp_all [-Bool.forall_bool]; done) | (simp_all [-Bool.forall_bool]; first | exact h | exact h _ | exact h _ _ | exact h _ _ _ | exact h _ _ _ _ | exact h _ _ _ _ _ | exact h _ _ _ _ _ _ | exact h _ _ _ _ _ _ _ | exact h _ _ _ _ _ _ _ _) | (simp_all [-Bool.forall_bool, emp_eq, int_beq]; done) | (simp_all [-Bool.forall_bool]; (intros; simp_all; done)) | (simp_all [-Bool.forall_bool, rdset3, rdset5, rdset48, rdset33, rdset9, rdset36, rdset40]; done) | grind))))) (fun q h => (by cases k with | zero => (simp only [PK.spec_RecOk.j0] at h; cases h) | succ k => (rw [PK.spec_RecOk.j0] at h; (try simp only [w64_eq, wu8_eq, gt_iff_lt, ge_iff_le, int_beq, fdiv33, fdiv45, bt_eq, tmodN, rdOfB] at h); refine (itE h (fun q h => ?_) (fun q h => (itE h (fun q h => ?_) (fun q h => (itE h (fun q h => ?_) (fun q h => (itE h (fun q h => (itE h (fun q h => (bnE h (fun _ g h => (fun g => ?_) (spec_l01In.rel m _ _ _ _ g m (by omega))))) (fun q h => ?_))) (fun q h => ?_)))))))) <;> ((try cases h); (try simp only [*, if_true, if_false, ↓reduceIte, Option.bind_some, List.length_cons, List.length_nil, List.length_append, Bool.not_true, Bool.not_false, Bool.true_eq_false, Bool.false_eq_true]); all_goals (repeat first | rw [if_pos (by omega)] | rw [if_neg (by omega)]); all_goals (first | exact h | exact h _ | exact h _ _ | exact h _ _ _ | exact h _ _ _ _ | exact h _ _ _ _ _ | exact h _ _ _ _ _ _ | exact h _ _ _ _ _ _ _ | exact h _ _ _ _ _ _ _ _ | rfl | (simp_all [-Bool.forall_bool]; done) | (simp_all [-Bool.forall_bool]; first | exact h | exact h _ | exact h _ _ | exact h _ _ _ | exact h _ _ _ _ | exact h _ _ _ _ _ | exact h _ _ _ _ _ _ | exact h _ _ _ _ _ _ _ | exact h _ _ _ _ _ _ _ _) | (simp_all [-Bool.forall_bool, emp_eq, int_beq]; done) | (simp_all [-Bool.forall_bool]; (intros; simp_all; done)) | (simp_all [-Bool.forall_bool, rdset3, rdset5, rdset48, rdset33, rdset9, rdset36, rdset40]; done) | grind))))))) (fun q h => (by cases k with | zero => (simp only [PK.spec_RecOk.j0] at h; cases h) | succ k => (rw [PK.spec_RecOk.j0] at h; (try simp only [w64_eq, wu8_eq, gt_iff_lt, ge_iff_le, int_beq, fdiv33, fdiv45, bt_eq, tmodN, rdOfB] at h); refine (itE h (fun q h => ?_) (fun q h => (itE h (fun q h => ?_) (fun q h => (itE h (fun q h => ?_) (fun q h => (itE h (fun q h => (itE h (fun q h => (bnE h (fun _ g h => (fun g => ?_) (spec_l01In.rel m _ _ _ _ g m (by omega))))) (fun q h => ?_))) (fun q h => ?_)))))))) <;> ((try cases h); (try simp only [*, if_true, if_false, ↓reduceIte, Option.bind_some, List.length_cons, List.length_nil, List.length_append, Bool.not_true, Bool.not_false, Bool.true_eq_false, Bool.false_eq_true]); all_goals (repeat first | rw [if_pos (by omega)] | rw [if_neg (by omega)]); all_goals (first | exact h | exact h _ | exact h _ _ | exact h _ _ _ | exact h _ _ _ _ | exact h _ _ _ _ _ | exact h _ _ _ _ _ _ | exact h _ _ _ _ _ _ _ | exact h _ _ _ _ _ _ _ _ | rfl | (simp_all [-Bool.forall_bool]; done) | (simp_all [-Bool.forall_bool]; first | exact h | exact h _ | exact h _ _ | exact h _ _ _ | exact h _ _ _ _ | exact h _ _ _ _ _ | exact h _ _ _ _ _ _ | exact h _ _ _ _ _ _ _ | exact h _ _ _ _ _ _ _ _) | (simp_all [-Bool.forall_bool, emp_eq, int_beq]; done) | (simp_all [-Bool.forall_bool]; (intros; simp_all; done)) | (simp_all [-Bool.forall_bool, rdset3, rdset5, rdset48, rdset33, rdset9, rdset36, rdset40]; done) | grind))))))) (spec_l01In.rel m _ _ _ _ g m (by omega))))) (fun q h => (by cases k with | zero => (simp only [PK.spec_RecOk.j0] at h; cases h) | succ k => (rw [PK.spec_RecOk.j0] at h; (try simp only [w64_eq, wu8_eq, gt_iff_lt, ge_iff_le, int_beq, fdiv33, fdiv45, bt_eq, tmodN, rdOfB] at h); refine (itE h (fun q h => ?_) (fun q h => (itE h (fun q h => ?_) (fun q h => (itE h (fun q h => ?_) (fun q h => (itE h (fun q h => (itE h (fun q h => (bnE h (fun _ g h => (fun g => ?_) (spec_l01In.rel m _ _ _ _ g m (by omega))))) (fun q h => ?_))) (fun q h => ?_)))))))) <;> ((try cases h); (try simp only [*, if_true, if_false, ↓reduceIte, Option.bind_some, List.length_cons, List.length_nil, List.length_append, Bool.not_true, Bool.not_false, Bool.true_eq_false, Bool.false_eq_true]); all_goals (repeat first | rw [if_pos (by omega)] | rw [if_neg (by omega)]); all_goals (first | exact h | exact h _ | exact h _ _ | exact h _ _ _ | exact h _ _ _ _ | exact h _ _ _ _ _ | exact h _ _ _ _ _ _ | exact h _ _ _ _ _ _ _ | exact h _ _ _ _ _ _ _ _ | rfl | (simp_all [-Bool.forall_bool]; done) | (simp_all [-Bool.forall_bool]; first | exact h | exact h _ | exact h _ _ | exact h _ _ _ | exact h _ _ _ _ | exact h _ _ _ _ _ | exact h _ _ _ _ _ _ | exact h _ _ _ _ _ _ _ | exact h _ _ _ _ _ _ _ _) | (simp_all [-Bool.forall_bool, emp_eq, int_beq]; done) | (simp_all [-Bool.forall_bool]; (intros; simp_all; done)) | (simp_all [-Bool.forall_bool, rdset3, rdset5, rdset48, rdset33, rdset9, rdset36, rdset40]; done) | grind))))))) (spec_l01In.rel m _ _ _ _ g m (by omega))))))) (fun q h => ?_))) (spec_l01In.rel m _ _ _ _ g m (by omega))))
  all_goals (try cases h)
  all_goals (try simp only [*, if_true, if_false, ↓reduceIte, Option.bind_some, List.length_cons, List.length_nil, List.length_append, Bool.not_true, Bool.not_false, Bool.true_eq_false, Bool.false_eq_true])
  all_goals (repeat first | rw [if_pos (by omega)] | rw [if_neg (by omega)])
  all_goals first | exact h | exact h _ | exact h _ _ | exact h _ _ _ | exact h _ _ _ _ | exact h _ _ _ _ _ | exact h _ _ _ _ _ _ | exact h _ _ _ _ _ _ _ | exact h _ _ _ _ _ _ _ _ | rfl | (simp_all [-Bool.forall_bool]; done) | (simp_all [-Bool.forall_bool]; first | exact h | exact h _ | exact h _ _ | exact h _ _ _ | exact h _ _ _ _ | exact h _ _ _ _ _ | exact h _ _ _ _ _ _ | exact h _ _ _ _ _ _ _ | exact h _ _ _ _ _ _ _ _) | (simp_all [-Bool.forall_bool, emp_eq, int_beq]; done) | (simp_all [-Bool.forall_bool]; (intros; simp_all; done)) | (simp_all [-Bool.forall_bool, rdset3, rdset5, rdset48, rdset33, rdset9, rdset36, rdset40]; done) | grind
end Go.Proofs.Ytkbfmompapcekaa.M2

/- What the print's plain functions answer, the own ones answer. Written by a program of this session. -/
namespace Go.Proofs.Ytkbfmompapcekaa.M2
open Go Go.RowKit Go.Proofs.YtkbfmompapcekaaW.PrintWords Go.Proofs.Ytkbfmompapcekaa.PK
set_option linter.unusedVariables false
set_option linter.unusedSimpArgs false
theorem spec_l06Byte.rel (k : Nat) (a0 : Int) (r) (h : PK.spec_l06Byte.f a0 = some r) (m : Nat) (hm : k ≤ m) : spec_l06Byte.f m a0 = some r := by
  rw [PK.spec_l06Byte.f] at h
  rw [spec_l06Byte.f]
  try simp only [w64_eq, wu8_eq, gt_iff_lt, ge_iff_le, int_beq, fdiv33, fdiv45, bt_eq, tmodN, rdOfB] at h
  try simp only [shlR]
  try simp only [w64_eq, wu8_eq, gt_iff_lt, ge_iff_le, int_beq, fdiv33, fdiv45, bt_eq, tmodN, rdOfB, rdT3_eq, rdT5_eq, seq, maxI, minI, emp_eq, rdn3, rdn5, rdn48, rdn33, rdn9, rdn36, rdn40]
  refine ?_
  all_goals (try cases h)
  all_goals (try simp only [*, if_true, if_false, ↓reduceIte, Option.bind_some, List.length_cons, List.length_nil, List.length_append, Bool.not_true, Bool.not_false, Bool.true_eq_false, Bool.false_eq_true])
  all_goals (repeat first | rw [if_pos (by omega)] | rw [if_neg (by omega)])
  all_goals first | exact h | exact h _ | exact h _ _ | exact h _ _ _ | exact h _ _ _ _ | exact h _ _ _ _ _ | exact h _ _ _ _ _ _ | exact h _ _ _ _ _ _ _ | exact h _ _ _ _ _ _ _ _ | rfl | (simp_all [-Bool.forall_bool]; done) | (simp_all [-Bool.forall_bool]; first | exact h | exact h _ | exact h _ _ | exact h _ _ _ | exact h _ _ _ _ | exact h _ _ _ _ _ | exact h _ _ _ _ _ _ | exact h _ _ _ _ _ _ _ | exact h _ _ _ _ _ _ _ _) | (simp_all [-Bool.forall_bool, emp_eq, int_beq]; done) | (simp_all [-Bool.forall_bool]; (intros; simp_all; done)) | (simp_all [-Bool.forall_bool, rdset3, rdset5, rdset48, rdset33, rdset9, rdset36, rdset40]; done) | grind

theorem spec_l01Var.rel_l (k : Nat) : (∀ x0 x3 r, PK.spec_l01Var.l0 k x0 x3 = some r → ∀ m, k ≤ m → spec_l01Var.c2 m x0 x3 = some r) := by
  induction k using Nat.strongRecOn with
  | _ k ih =>
  have il0 := fun k' hk' => (ih k' hk')
  clear ih
  intro x0 x3 r h m hm
  cases k with
  | zero => simp only [PK.spec_l01Var.l0] at h; cases h
  | succ k =>
    obtain ⟨m, rfl⟩ : ∃ m', m = m' + 1 := ⟨m - 1, by omega⟩
    rw [PK.spec_l01Var.l0] at h
    rw [spec_l01Var.c2]
    try simp only [w64_eq, wu8_eq, gt_iff_lt, ge_iff_le, int_beq, fdiv33, fdiv45, bt_eq, tmodN, rdOfB] at h
    try simp only [shlR]
    try simp only [w64_eq, wu8_eq, gt_iff_lt, ge_iff_le, int_beq, fdiv33, fdiv45, bt_eq, tmodN, rdOfB, rdT3_eq, rdT5_eq, seq, maxI, minI, emp_eq, rdn3, rdn5, rdn48, rdn33, rdn9, rdn36, rdn40]
    refine (itE h (fun q h => (itE h (fun q h => ((fun h => ?_) (il0 _ (by omega) _ _ _ h m (by omega)))) (fun q h => (noE h)))) (fun q h => (itE h (fun q h => ?_) (fun q h => (noE h)))))
    all_goals clear il0
    all_goals (try cases h)
    all_goals (try simp only [*, if_true, if_false, ↓reduceIte, Option.bind_some, List.length_cons, List.length_nil, List.length_append, Bool.not_true, Bool.not_false, Bool.true_eq_false, Bool.false_eq_true])
    all_goals (repeat first | rw [if_pos (by omega)] | rw [if_neg (by omega)])
    all_goals first | exact h | exact h _ | exact h _ _ | exact h _ _ _ | exact h _ _ _ _ | exact h _ _ _ _ _ | exact h _ _ _ _ _ _ | exact h _ _ _ _ _ _ _ | exact h _ _ _ _ _ _ _ _ | rfl | (simp_all [-Bool.forall_bool]; done) | (simp_all [-Bool.forall_bool]; first | exact h | exact h _ | exact h _ _ | exact h _ _ _ | exact h _ _ _ _ | exact h _ _ _ _ _ | exact h _ _ _ _ _ _ | exact h _ _ _ _ _ _ _ | exact h _ _ _ _ _ _ _ _) | (simp_all [-Bool.forall_bool, emp_eq, int_beq]; done) | (simp_all [-Bool.forall_bool]; (intros; simp_all; done)) | (simp_all [-Bool.forall_bool, rdset3, rdset5, rdset48, rdset33, rdset9, rdset36, rdset40]; done) | grind
theorem spec_l01Var.rel (k : Nat) (a0 : Int) (r) (h : PK.spec_l01Var.f k a0 = some r) (m : Nat) (hm : k ≤ m) : spec_l01Var.f m a0 = some r := by
  have il0 := fun k' (_ : k' < k + 1) => (spec_l01Var.rel_l k')
  rw [PK.spec_l01Var.f] at h
  rw [spec_l01Var.f]
  try simp only [w64_eq, wu8_eq, gt_iff_lt, ge_iff_le, int_beq, fdiv33, fdiv45, bt_eq, tmodN, rdOfB] at h
  try simp only [shlR]
  try simp only [w64_eq, wu8_eq, gt_iff_lt, ge_iff_le, int_beq, fdiv33, fdiv45, bt_eq, tmodN, rdOfB, rdT3_eq, rdT5_eq, seq, maxI, minI, emp_eq, rdn3, rdn5, rdn48, rdn33, rdn9, rdn36, rdn40]
  refine ((fun h => ?_) (il0 _ (by omega) _ _ _ h m (by omega)))
  all_goals clear il0
  all_goals (try cases h)
  all_goals (try simp only [*, if_true, if_false, ↓reduceIte, Option.bind_some, List.length_cons, List.length_nil, List.length_append, Bool.not_true, Bool.not_false, Bool.true_eq_false, Bool.false_eq_true])
  all_goals (repeat first | rw [if_pos (by omega)] | rw [if_neg (by omega)])
  all_goals first | exact h | exact h _ | exact h _ _ | exact h _ _ _ | exact h _ _ _ _ | exact h _ _ _ _ _ | exact h _ _ _ _ _ _ | exact h _ _ _ _ _ _ _ | exact h _ _ _ _ _ _ _ _ | rfl | (simp_all [-Bool.forall_bool]; done) | (simp_all [-Bool.forall_bool]; first | exact h | exact h _ | exact h _ _ | exact h _ _ _ | exact h _ _ _ _ | exact h _ _ _ _ _ | exact h _ _ _ _ _ _ | exact h _ _ _ _ _ _ _ | exact h _ _ _ _ _ _ _ _) | (simp_all [-Bool.forall_bool, emp_eq, int_beq]; done) | (simp_all [-Bool.forall_bool]; (intros; simp_all; done)) | (simp_all [-Bool.forall_bool, rdset3, rdset5, rdset48, rdset33, rdset9, rdset36, rdset40]; done) | grind

theorem spec_RecText.rel (k : Nat) (a0_0 : Int) (a0_1 : Int) (a0_2 : Int) (a0_3 : Int) (r) (h : PK.spec_RecText.f k a0_0 a0_1 a0_2 a0_3 = some r) (m : Nat) (hm : k ≤ m) : spec_RecText.f m a0_0 a0_1 a0_2 a0_3 = some (r.1, r.2) := by
  rw [PK.spec_RecText.f] at h
  rw [spec_RecText.f]
  try simp only [w64_eq, wu8_eq, gt_iff_lt, ge_iff_le, int_beq, fdiv33, fdiv45, bt_eq, tmodN, rdOfB] at h
  try simp only [shlR]
  try simp only [w64_eq, wu8_eq, gt_iff_lt, ge_iff_le, int_beq, fdiv33, fdiv45, bt_eq, tmodN, rdOfB, rdT3_eq, rdT5_eq, seq, maxI, minI, emp_eq, rdn3, rdn5, rdn48, rdn33, rdn9, rdn36, rdn40]
  refine (bnE h (fun _ g h => (fun g => (itE h (fun q h => (bnE h (fun _ g h => (fun g => (bnE h (fun _ g h => (fun g => (itE h (fun q h => (bnE h (fun _ g h => (fun g => (itE h (fun q h => ?_) (fun q h => (noE h)))) (spec_l01Var.rel _ _ _ g m (by omega))))) (fun q h => (noE h)))) (spec_l01Var.rel _ _ _ g m (by omega))))) (spec_l06Byte.rel m _ _ g m (by omega))))) (fun q h => ?_))) (spec_RecOk.rel _ _ _ _ _ _ g m (by omega))))
  all_goals (try cases h)
  all_goals (try simp only [*, if_true, if_false, ↓reduceIte, Option.bind_some, List.length_cons, List.length_nil, List.length_append, Bool.not_true, Bool.not_false, Bool.true_eq_false, Bool.false_eq_true])
  all_goals (repeat first | rw [if_pos (by omega)] | rw [if_neg (by omega)])
  all_goals first | exact h | exact h _ | exact h _ _ | exact h _ _ _ | exact h _ _ _ _ | exact h _ _ _ _ _ | exact h _ _ _ _ _ _ | exact h _ _ _ _ _ _ _ | exact h _ _ _ _ _ _ _ _ | rfl | (simp_all [-Bool.forall_bool]; done) | (simp_all [-Bool.forall_bool]; first | exact h | exact h _ | exact h _ _ | exact h _ _ _ | exact h _ _ _ _ | exact h _ _ _ _ _ | exact h _ _ _ _ _ _ | exact h _ _ _ _ _ _ _ | exact h _ _ _ _ _ _ _ _) | (simp_all [-Bool.forall_bool, emp_eq, int_beq]; done) | (simp_all [-Bool.forall_bool]; (intros; simp_all; done)) | (simp_all [-Bool.forall_bool, rdset3, rdset5, rdset48, rdset33, rdset9, rdset36, rdset40]; done) | grind
end Go.Proofs.Ytkbfmompapcekaa.M2



/- Plain facts on rounds, lists and whole numbers, for the pure statements. -/
namespace Go.Proofs.Ytkbfmompapcekaa.Pu
set_option linter.unusedVariables false
set_option linter.unusedSimpArgs false
open Go.RowKit Go.Proofs.YtkbfmompapcekaaW.PrintWords

theorem w64 {x : Int} (h1 : -9223372036854775808 ≤ x) (h2 : x ≤ 9223372036854775807) : wrap64 x = x := by
  unfold wrap64; omega
theorem wsucc {i n : Nat} (h : i < n) (hn : n ≤ 9223372036854775807) : wrap64 ((i : Int) + 1) = ((i + 1 : Nat) : Int) := by
  rw [w64 (by omega) (by omega)]; rfl
theorem wf_i64 {n : Int} (h : (Lit.int .i64 n).wf = true) : -9223372036854775808 ≤ n ∧ n ≤ 9223372036854775807 := by
  simp only [Lit.wf, Bool.and_eq_true, decide_eq_true_eq] at h
  have h1 : IntKind.min .i64 = -9223372036854775808 := by decide
  have h2 : IntKind.max .i64 = 9223372036854775807 := by decide
  omega

/-- Rounds: what is told, a step on. -/
theorem ev_some {α : Type} {g : Nat → Option α} {r : α} (h : ∀ k, g (k + 1) = some r) : Ev g r := Ev.step h (Ev.now r)
theorem ev_const {α : Type} {o : Option α} {r : α} (h : o = some r) : Ev (fun _ => o) r := ⟨0, fun _ _ => h⟩
theorem ev_bind {α β : Type} {g : Nat → Option α} {f : Nat → α → Option β} {a : α} {r : β} (h : Ev g a) (k : Ev (fun n => f n a) r) : Ev (fun n => (g n).bind (f n)) r := Ev.bind h k
theorem ev_uniq {α : Type} {g : Nat → Option α} {a b : α} (h : Ev g a) (k : Ev g b) : a = b := by
  obtain ⟨K, hK⟩ := h
  obtain ⟨M, hM⟩ := k
  have h1 := hK (max K M) (Nat.le_max_left _ _)
  rw [hM (max K M) (Nat.le_max_right _ _)] at h1
  injection h1 with h1
  exact h1.symm
theorem ev_ext {α : Type} {g f : Nat → Option α} {r : α} (h : ∀ k, g k = f k) (k : Ev f r) : Ev g r := Ev.congr h k

/-- A row that is made and filled, place by place. -/
theorem ev_fill {β : Type} {L : Nat → List β → Int → Option (List β)} {E : Nat → Int → Option β} {n : Nat} {e : Nat → β} (hn : n ≤ 9223372036854775807)
    (hs : ∀ k xs i, L (k + 1) xs i = if i < (n : Int) then (if 0 ≤ i then ((E k i).bind fun b => if i < (xs.length : Int) then L k (xs.set i.toNat b) (wrap64 (i + 1)) else none) else none) else some xs)
    (hE : ∀ i, i < n → Ev (fun k => E k (i : Int)) (e i)) :
    ∀ (d i : Nat) (xs : List β), xs.length = n → i + d = n → Ev (fun k => L k xs (i : Int)) (xs.take i ++ (List.range' i d).map e) := by
  intro d
  induction d with
  | zero =>
    intro i xs hl hi
    refine ev_some fun k => ?_
    rw [hs, if_neg (by omega)]
    simp [List.take_of_length_le (show xs.length ≤ i by omega)]
  | succ d ih =>
    intro i xs hl hi
    refine Ev.step (f := fun k => (E k (i : Int)).bind fun b => L k (xs.set i b) ((i + 1 : Nat) : Int)) (fun k => ?_) ?_
    · rw [hs, if_pos (by omega), if_pos (by omega), wsucc (n := n) (by omega) hn]
      congr 1
      funext b
      rw [if_pos (by omega)]
      rfl
    · refine ev_bind (hE i (by omega)) ?_
      have h := ih (i + 1) (xs.set i (e i)) (by rw [List.length_set]; exact hl) (by omega)
      have e1 : (xs.set i (e i)).take (i + 1) ++ (List.range' (i + 1) d).map e = xs.take i ++ (List.range' i (d + 1)).map e := by
        rw [List.range'_succ, List.map_cons, List.take_succ_eq_append_getElem (by rw [List.length_set]; omega), List.getElem_set_self, List.take_set_of_le (Nat.le_refl _)]
        simp
      rw [e1] at h
      exact h
theorem map_range {α β : Type} (l : List α) (z : α) (g : α → β) : (List.range' 0 l.length).map (fun i => g (l.getD i z)) = l.map g := by
  apply List.ext_getElem
  · simp
  · intro i h1 h2
    simp only [List.length_map] at h2
    simp [List.getD_eq_getElem?_getD, List.getElem?_eq_getElem h2]
theorem ev_fill_all {α β : Type} {L : Nat → List β → Int → Option (List β)} {E : Nat → Int → Option β} {l : List α} {z : α} {g : α → β} {xs : List β} (hn : l.length ≤ 9223372036854775807)
    (hs : ∀ k xs i, L (k + 1) xs i = if i < (l.length : Int) then (if 0 ≤ i then ((E k i).bind fun b => if i < (xs.length : Int) then L k (xs.set i.toNat b) (wrap64 (i + 1)) else none) else none) else some xs)
    (hE : ∀ i, i < l.length → Ev (fun k => E k (i : Int)) (g (l.getD i z))) (hx : xs.length = l.length) : Ev (fun k => L k xs 0) (l.map g) := by
  have h := ev_fill (e := fun i => g (l.getD i z)) hn hs hE l.length 0 xs hx (by omega)
  rw [map_range] at h
  simpa using h

/-- Every place meets a test, tried place by place. -/
theorem ev_all {L E : Nat → Int → Option Bool} {n m : Nat} (hn : n ≤ 9223372036854775807) (hnm : n ≤ m)
    (hs : ∀ k i, L (k + 1) i = if i < (n : Int) then (if 0 ≤ i then (if i < (m : Int) then ((E k i).bind fun b => if b = true then L k (wrap64 (i + 1)) else some false) else none) else none) else some true)
    (hE : ∀ i, i < n → Ev (fun k => E k (i : Int)) true) : ∀ (d i : Nat), i + d = n → Ev (fun k => L k (i : Int)) true := by
  intro d
  induction d with
  | zero => intro i hi; exact ev_some fun k => by rw [hs, if_neg (by omega)]
  | succ d ih =>
    intro i hi
    refine Ev.step (f := fun k => (E k (i : Int)).bind fun b => if b = true then L k ((i + 1 : Nat) : Int) else some false) (fun k => ?_) (ev_bind (hE i (by omega)) (by simpa using ih (i + 1) (by omega)))
    rw [hs, if_pos (by omega), if_pos (by omega), if_pos (by omega), wsucc (n := n) (by omega) hn]

/-- What is left of a number, place by place, as long as it is not below 0. -/
theorem ev_size {L E : Nat → Int → Int → Option Int} {n : Nat} {P : Nat → Prop} (hn : n ≤ 9223372036854775807)
    (hs : ∀ k a i, L (k + 1) a i = if i < (n : Int) then (if 0 ≤ i then ((E k i a).bind fun t => if t < 0 then some (-1) else L k t (wrap64 (i + 1))) else none) else some a)
    (hE : ∀ i a, i < n → 0 ≤ a → a ≤ 1048576 → ∃ t, Ev (fun k => E k (i : Int) a) t ∧ t ≤ a ∧ (0 ≤ t → P i)) :
    ∀ (d i : Nat) (a : Int), i + d = n → 0 ≤ a → a ≤ 1048576 → ∃ r, Ev (fun k => L k a (i : Int)) r ∧ r ≤ a ∧ (0 ≤ r → ∀ m, i ≤ m → m < n → P m) := by
  intro d
  induction d with
  | zero => intro i a hi h0 h1; exact ⟨a, ev_some fun k => by rw [hs, if_neg (by omega)], Int.le_refl _, fun _ m h2 h3 => by omega⟩
  | succ d ih =>
    intro i a hi h0 h1
    obtain ⟨t, ht, hta, hp⟩ := hE i a (by omega) h0 h1
    have hst : ∀ k, L (k + 1) a (i : Int) = (E k (i : Int) a).bind fun t => if t < 0 then some (-1) else L k t ((i + 1 : Nat) : Int) := fun k => by
      rw [hs, if_pos (by omega), if_pos (by omega), wsucc (n := n) (by omega) hn]
    by_cases hneg : t < 0
    · exact ⟨-1, Ev.step hst (ev_bind ht (by simp only [if_pos hneg]; exact Ev.now _)), by omega, fun h => by omega⟩
    · obtain ⟨r, hr, hra, hq⟩ := ih (i + 1) t (by omega) (by omega) (by omega)
      refine ⟨r, Ev.step hst (ev_bind ht (by simp only [if_neg hneg]; exact hr)), by omega, fun h0r m h2 h3 => ?_⟩
      by_cases e : m = i
      · subst e; exact hp (by omega)
      · exact hq h0r m (by omega) h3
end Go.Proofs.Ytkbfmompapcekaa.Pu

/- More plain facts on rounds: tests in a row, folds, searches. -/
namespace Go.Proofs.Ytkbfmompapcekaa.Pu
set_option linter.unusedVariables false
set_option linter.unusedSimpArgs false
open Go.RowKit Go.Proofs.YtkbfmompapcekaaW.PrintWords

/-- Tests in a row, one a round; then what comes. -/
theorem ev_scan {L : Nat → Int → Option Bool} {g : Nat → Option Bool} {n : Nat} {T : Nat → Bool} {r : Bool}
    (hs : ∀ k i, i < n → L (k + 1) (i : Int) = if T i = true then L k ((i + 1 : Nat) : Int) else some false) (he : ∀ k, L (k + 1) (n : Int) = g k) (hr : Ev g r) :
    ∀ (d i : Nat), i + d = n → Ev (fun k => L k (i : Int)) ((List.range' i d).all T && r) := by
  intro d
  induction d with
  | zero =>
    intro i hi
    obtain rfl : i = n := by omega
    exact Ev.step he hr
  | succ d ih =>
    intro i hi
    rw [List.range'_succ, List.all_cons]
    by_cases h : T i = true
    · rw [h, Bool.true_and]
      exact Ev.step (fun k => by rw [hs k i (by omega), if_pos h]) (ih (i + 1) (by omega))
    · rw [Bool.eq_false_iff.mpr h, Bool.false_and, Bool.false_and]
      exact ev_some fun k => by rw [hs k i (by omega), if_neg h]
/-- Tests in a row, each of many rounds; then what comes. -/
theorem ev_outer {L : Nat → Int → Option Bool} {n : Nat} {T : Nat → Bool} {r0 : Bool}
    (hs : ∀ i r, i < n → Ev (fun k => L k ((i + 1 : Nat) : Int)) r → Ev (fun k => L k (i : Int)) (T i && r)) (he : Ev (fun k => L k (n : Int)) r0) :
    ∀ (d i : Nat), i + d = n → Ev (fun k => L k (i : Int)) ((List.range' i d).all T && r0) := by
  intro d
  induction d with
  | zero =>
    intro i hi
    obtain rfl : i = n := by omega
    exact he
  | succ d ih =>
    intro i hi
    rw [List.range'_succ, List.all_cons, Bool.and_assoc]
    exact hs i _ (by omega) (ih (i + 1) (by omega))
/-- A state that is carried along; then what comes. -/
theorem ev_fold {σ ρ : Type} {L : Nat → σ → Int → Option ρ} {n : Nat} {F : σ → Nat → σ} {fin : σ → ρ} (Inv : Nat → σ → Prop)
    (hs : ∀ s i, i < n → Inv i s → ∀ r, Ev (fun k => L k (F s i) ((i + 1 : Nat) : Int)) r → Ev (fun k => L k s (i : Int)) r) (hi : ∀ s i, i < n → Inv i s → Inv (i + 1) (F s i))
    (he : ∀ s, Inv n s → Ev (fun k => L k s (n : Int)) (fin s)) : ∀ (d i : Nat) (s : σ), i + d = n → Inv i s → Ev (fun k => L k s (i : Int)) (fin ((List.range' i d).foldl F s)) := by
  intro d
  induction d with
  | zero =>
    intro i s h hv
    obtain rfl : i = n := by omega
    exact he s hv
  | succ d ih =>
    intro i s h hv
    rw [List.range'_succ, List.foldl_cons]
    exact hs s i (by omega) hv _ (ih (i + 1) (F s i) (by omega) (hi s i (by omega) hv))
/-- The first place that meets a test, -1 without one. -/
def findI (T : Nat → Bool) : Nat → Nat → Int
  | _, 0 => -1
  | i, d + 1 => if T i = true then (i : Int) else findI T (i + 1) d
theorem ev_find {L : Nat → Int → Option Int} {n : Nat} {T : Nat → Bool}
    (hy : ∀ i, i < n → T i = true → Ev (fun k => L k (i : Int)) (i : Int)) (hn : ∀ i, i < n → T i = false → ∀ r, Ev (fun k => L k ((i + 1 : Nat) : Int)) r → Ev (fun k => L k (i : Int)) r)
    (he : Ev (fun k => L k (n : Int)) (-1)) : ∀ (d i : Nat), i + d = n → Ev (fun k => L k (i : Int)) (findI T i d) := by
  intro d
  induction d with
  | zero =>
    intro i hi
    obtain rfl : i = n := by omega
    exact he
  | succ d ih =>
    intro i hi
    unfold findI
    by_cases h : T i = true
    · rw [if_pos h]; exact hy i (by omega) h
    · rw [if_neg h]; exact hn i (by omega) (Bool.eq_false_iff.mpr h) _ (ih (i + 1) (by omega))
theorem findI_range {T : Nat → Bool} : ∀ (d i : Nat), findI T i d = -1 ∨ ∃ j, i ≤ j ∧ j < i + d ∧ findI T i d = (j : Int) ∧ T j = true
  | 0, i => .inl rfl
  | d + 1, i => by
    unfold findI
    by_cases h : T i = true
    · rw [if_pos h]; exact .inr ⟨i, Nat.le_refl _, by omega, rfl, h⟩
    · rw [if_neg h]
      rcases findI_range d (i + 1) with h1 | ⟨j, h1, h2, h3, h4⟩
      · exact .inl h1
      · exact .inr ⟨j, by omega, by omega, h3, h4⟩
theorem bytes_empty (a : ByteArray) : (a.toList == ([] : List UInt8)) = decide ((a.size : Int) ≤ 0) := by
  rw [ByteArray.toList_eq]
  have h : a.data.toList.length = a.size := by rw [Array.length_toList]; rfl
  cases e : a.data.toList with
  | nil =>
    have h1 : a.size = 0 := by rw [← h, e]; rfl
    rw [decide_eq_true (by omega)]; rfl
  | cons x l =>
    have h1 : a.size = l.length + 1 := by rw [← h, e]; rfl
    rw [decide_eq_false (by omega)]; rfl
theorem getD_mem' {α : Type} {l : List α} {i : Nat} {z : α} (hi : i < l.length) : l.getD i z ∈ l := by
  rw [List.getD_eq_getElem?_getD, List.getElem?_eq_getElem hi]; exact List.getElem_mem hi
end Go.Proofs.Ytkbfmompapcekaa.Pu

/- The reference's draws: a byte, a number below a bound, some places. -/
namespace Go.Proofs.Ytkbfmompapcekaa.Pu
set_option linter.unusedVariables false
set_option linter.unusedSimpArgs false
open Go.RowKit Go.Proofs.Ytkbfmompapcekaa.PK Go.Proofs.YtkbfmompapcekaaW.PrintWords

theorem and255 (x : Int) : 0 ≤ Go.bits .and .i64 x 255 ∧ Go.bits .and .i64 x 255 ≤ 255 := by
  have h : (BitVec.ofInt 64 x &&& BitVec.ofInt 64 255).toNat ≤ 255 := by
    rw [BitVec.toNat_and]; exact Nat.le_trans Nat.and_le_right (by decide)
  have e : Go.bits .and .i64 x 255 = Go.IntKind.i64.wrap ((BitVec.ofInt 64 x &&& BitVec.ofInt 64 255).toNat : Int) := rfl
  rw [e, Go.IntKind.wrap_i64]
  omega
/-- A draw's state: the place lies in the code. -/
theorem byte_eq (b : List Int) (i h : Int) (h0 : 0 ≤ i) (h1 : i ≤ b.length) (hb : b.length ≤ 9223372036854775807) : ∃ v i' h', spec_l01Byte.f b i h = some (v, i', h') ∧ (0 ≤ v ∧ v ≤ 255) ∧ 0 ≤ i' ∧ i' ≤ b.length := by
  unfold spec_l01Byte.f
  by_cases hi : i < (b.length : Int)
  · rw [if_pos hi, if_pos h0, w64 (x := i + 1) (by omega) (by omega)]
    exact ⟨_, _, _, rfl, and255 _, by omega, by omega⟩
  · rw [if_neg hi]
    exact ⟨_, _, _, rfl, and255 _, by omega, by omega⟩
theorem below_eq (b : List Int) (i h n : Int) (h0 : 0 ≤ i) (h1 : i ≤ b.length) (hb : b.length ≤ 9223372036854775807) (hn : 0 < n) : ∃ v i' h', spec_l01Below.f b i h n = some (v, i', h') ∧ (0 ≤ v ∧ v < n) ∧ 0 ≤ i' ∧ i' ≤ b.length := by
  unfold spec_l01Below.f
  rw [if_neg (by omega)]
  obtain ⟨v, i1, g1, e1, ⟨v0, v1⟩, a1, b1⟩ := byte_eq b i h h0 h1 hb
  rw [e1]
  by_cases hs : n ≤ 256
  · rw [if_pos hs, Option.bind_some, if_neg (by omega)]
    exact ⟨_, _, _, rfl, ⟨Int.tmod_nonneg _ v0, Int.tmod_lt_of_pos _ hn⟩, a1, b1⟩
  · rw [if_neg hs, Option.bind_some]
    obtain ⟨y, i2, g2, e2, ⟨y0, y1⟩, a2, b2⟩ := byte_eq b i1 g1 a1 b1 hb
    obtain ⟨z, i3, g3, e3, ⟨z0, z1⟩, a3, b3⟩ := byte_eq b i2 g2 a2 b2 hb
    obtain ⟨u, i4, g4, e4, ⟨u0, u1⟩, a4, b4⟩ := byte_eq b i3 g3 a3 b3 hb
    simp only [e2, e3, e4, Option.bind_some]
    rw [if_neg (by omega), w64 (x := v * 16777216) (by omega) (by omega), w64 (x := y * 65536) (by omega) (by omega), w64 (x := v * 16777216 + y * 65536) (by omega) (by omega), w64 (x := z * 256) (by omega) (by omega), w64 (x := v * 16777216 + y * 65536 + z * 256) (by omega) (by omega), w64 (x := v * 16777216 + y * 65536 + z * 256 + u) (by omega) (by omega)]
    exact ⟨_, _, _, rfl, ⟨Int.tmod_nonneg _ (by omega), Int.tmod_lt_of_pos _ hn⟩, a4, b4⟩
theorem new_ev (b : List Int) (hb : b.length ≤ 9223372036854775807) : ∃ h, Ev (fun k => spec_l01New.f k b) (b, 0, h) := by
  unfold spec_l01New.f
  have main : ∀ (d i : Nat) (h : Int), i + d = b.length → ∃ g, Ev (fun k => spec_l01New.l0 k b h (i : Int)) (b, 0, g) := by
    intro d
    induction d with
    | zero => intro i h hi; exact ⟨h, ev_some fun k => by simp only [spec_l01New.l0]; rw [if_neg (by omega)]⟩
    | succ d ih =>
      intro i h hi
      by_cases hf : (i : Int) < 4000
      · obtain ⟨g, hg⟩ := ih (i + 1) (Go.bits .and .i64 (wrap64 ((wrap64 ((wrap64 (h * 131)) + (wrap64 (rd b (i : Int))))) + 7)) 1073741823) (by omega)
        refine ⟨g, Ev.step (fun k => ?_) hg⟩
        simp only [spec_l01New.l0]
        rw [if_pos (by omega), if_pos hf, if_pos (by omega), wsucc (n := b.length) (by omega) hb]
      · exact ⟨h, ev_some fun k => by simp only [spec_l01New.l0]; rw [if_pos (by omega), if_neg hf]⟩
  exact main b.length 0 _ (by omega)
end Go.Proofs.Ytkbfmompapcekaa.Pu

/- The reference's draws of a yes or no, and of a text. -/
namespace Go.Proofs.Ytkbfmompapcekaa.Pu
set_option linter.unusedVariables false
set_option linter.unusedSimpArgs false
open Go.RowKit Go.Proofs.Ytkbfmompapcekaa.PK Go.Proofs.YtkbfmompapcekaaW.PrintWords

theorem once_draw (b : List Int) (i h n : Int) (h0 : 0 ≤ i) (h1 : i ≤ b.length) (hb : b.length ≤ 9223372036854775807) (hn : 0 < n) : ∃ v i' h', spec_l01Once.f b i h n = some (v, i', h') ∧ 0 ≤ i' ∧ i' ≤ b.length := by
  obtain ⟨v, j, g, e, _, a1, b1⟩ := below_eq b i h n h0 h1 hb hn
  unfold spec_l01Once.f
  rw [e, Option.bind_some]
  exact ⟨_, _, _, rfl, a1, b1⟩
theorem str_size (l : List Int) : (strOfNums l).size = l.length := by
  unfold strOfNums
  simp [ByteArray.size]
end Go.Proofs.Ytkbfmompapcekaa.Pu

/- A function that answers, and what of its answer is told; drawn numbers and texts, of the own functions. -/
namespace Go.Proofs.Ytkbfmompapcekaa.M2.Mp
set_option linter.unusedVariables false
set_option linter.unusedSimpArgs false
open Go.RowKit Go.Proofs.Ytkbfmompapcekaa.PK Go.Proofs.YtkbfmompapcekaaW.PrintWords Go.Proofs.Ytkbfmompapcekaa.Pu

/-- It answers, and the answer is such. -/
def EvX {α : Type} (g : Nat → Option α) (P : α → Prop) : Prop := ∃ r, Ev g r ∧ P r
theorem ev_rel {α β : Type} {g : Nat → Option α} {f : Nat → Option β} {a : α} {c : α → β} (h : Ev g a) (hr : ∀ k r, g k = some r → ∀ m, k ≤ m → f m = some (c r)) : Ev f (c a) := by
  obtain ⟨K, hK⟩ := h
  exact ⟨K, fun m hm => hr K a (hK K (Nat.le_refl _)) m hm⟩
theorem ev_all_k {α : Type} {f : Nat → Option α} {a : α} (h : ∀ m, f m = some a) : Ev f a := ⟨0, fun m _ => h m⟩
theorem evx_of {α : Type} {g : Nat → Option α} {P : α → Prop} {a : α} (h : Ev g a) (hp : P a) : EvX g P := ⟨a, h, hp⟩
theorem evx_mono {α : Type} {g : Nat → Option α} {P Q : α → Prop} (h : EvX g P) (hq : ∀ a, P a → Q a) : EvX g Q := by
  obtain ⟨r, h1, h2⟩ := h; exact ⟨r, h1, hq r h2⟩
theorem evx_bind {α β : Type} {g : Nat → Option α} {f : Nat → α → Option β} {Q : α → Prop} {P : β → Prop} (h : EvX g Q) (k : ∀ a, Q a → EvX (fun n => f n a) P) : EvX (fun n => (g n).bind (f n)) P := by
  obtain ⟨a, h1, h2⟩ := h
  obtain ⟨r, h3, h4⟩ := k a h2
  exact ⟨r, Ev.bind h1 h3, h4⟩
theorem evx_ite {α : Type} {c : Prop} [Decidable c] {g f : Nat → Option α} {P : α → Prop} (h1 : c → EvX g P) (h2 : ¬ c → EvX f P) : EvX (fun n => if c then g n else f n) P := by
  by_cases h : c
  · simp only [if_pos h]; exact h1 h
  · simp only [if_neg h]; exact h2 h
theorem evx_pos {α : Type} {c : Prop} [Decidable c] {g f : Nat → Option α} {P : α → Prop} (h : c) (h1 : EvX g P) : EvX (fun n => if c then g n else f n) P := by
  simp only [if_pos h]; exact h1
theorem evx_neg {α : Type} {c : Prop} [Decidable c] {g f : Nat → Option α} {P : α → Prop} (h : ¬ c) (h1 : EvX f P) : EvX (fun n => if c then g n else f n) P := by
  simp only [if_neg h]; exact h1
theorem evx_some {α : Type} {P : α → Prop} {a : α} (h : P a) : EvX (fun _ => some a) P := ⟨a, Ev.now _, h⟩
theorem evx_step {α : Type} {g f : Nat → Option α} {P : α → Prop} (h : ∀ k, g (k + 1) = f k) (k : EvX f P) : EvX g P := by
  obtain ⟨r, h1, h2⟩ := k
  exact ⟨r, Ev.step h h1, h2⟩
theorem evx_out {g : Nat → Option Bool} (h : EvX g (fun r => r = true)) : ∃ k, g k = some true := by
  obtain ⟨r, ⟨K, hK⟩, rfl⟩ := h
  exact ⟨K, hK K (Nat.le_refl _)⟩

/-- The cursor over the bytes b stands at i. -/
def Cur (b : List Int) (i : Int) : Prop := 0 ≤ i ∧ i ≤ b.length
abbrev Cb (b : List Int) : Prop := b.length ≤ 9223372036854775807
theorem newX (b : List Int) (hb : Cb b) : EvX (fun k => spec_l01New.f k b) (fun t => t.1 = b ∧ Cur b t.2.1) := by
  obtain ⟨h, e⟩ := new_ev b hb
  exact ⟨_, ev_rel e (fun k r h m hm => spec_l01New.rel k b r h m hm), rfl, Int.le_refl _, by show (0 : Int) ≤ _; omega⟩
theorem byteX (b : List Int) (i h : Int) (hc : Cur b i) (hb : Cb b) : EvX (fun k => spec_l01Byte.f k b i h) (fun t => (0 ≤ t.1 ∧ t.1 ≤ 255) ∧ t.2.1 = b ∧ Cur b t.2.2.1) := by
  obtain ⟨v, i', h', e, h1, h2⟩ := byte_eq b i h hc.1 hc.2 hb
  exact ⟨_, ev_all_k (fun m => spec_l01Byte.rel 0 b i h _ e m (Nat.zero_le _)), h1, rfl, h2⟩
theorem belowX (n : Int) (b : List Int) (i h : Int) (hn : 0 < n) (hc : Cur b i) (hb : Cb b) : EvX (fun k => spec_l01Below.f k n b i h) (fun t => (0 ≤ t.1 ∧ t.1 < n) ∧ t.2.1 = b ∧ Cur b t.2.2.1) := by
  obtain ⟨v, i', h', e, h1, h2⟩ := below_eq b i h n hc.1 hc.2 hb hn
  exact ⟨_, ev_all_k (fun m => spec_l01Below.rel 0 b i h n _ e m (Nat.zero_le _)), h1, rfl, h2⟩
theorem onceX (n : Int) (b : List Int) (i h : Int) (hn : 0 < n) (hc : Cur b i) (hb : Cb b) : EvX (fun k => spec_l01Once.f k n b i h) (fun t => t.2.1 = b ∧ Cur b t.2.2.1) := by
  obtain ⟨v, i', h', e, h2⟩ := once_draw b i h n hc.1 hc.2 hb hn
  exact ⟨_, ev_all_k (fun m => spec_l01Once.rel 0 b i h n _ e m (Nat.zero_le _)), rfl, h2⟩
theorem pickIntX (l : List Int) (b : List Int) (i h : Int) (hl : 0 < l.length) (hc : Cur b i) (hb : Cb b) : EvX (fun k => spec_l01PickInt.f k l b i h) (fun t => t.1 ∈ l ∧ t.2.1 = b ∧ Cur b t.2.2.1) := by
  simp only [spec_l01PickInt.f]
  refine evx_bind (belowX (l.length : Int) b i h (by omega) hc hb) fun t ht => ?_
  refine evx_pos ht.1.1 (evx_pos ht.1.2 (evx_some ⟨?_, ht.2⟩))
  show l.getD t.1.toNat 0 ∈ l
  have : t.1.toNat < l.length := by omega
  rw [List.getD_eq_getElem?_getD, List.getElem?_eq_getElem this]; exact List.getElem_mem this
end Go.Proofs.Ytkbfmompapcekaa.M2.Mp

/- The reference's draw of places. -/
namespace Go.Proofs.Ytkbfmompapcekaa.Pu
set_option linter.unusedVariables false
set_option linter.unusedSimpArgs false
open Go.RowKit Go.Proofs.Ytkbfmompapcekaa.PK Go.Proofs.YtkbfmompapcekaaW.PrintWords

theorem places_ev (b : List Int) (hb : b.length ≤ 9223372036854775807) : ∃ p, Ev (fun k => spec_DrawPlaces.f k b) p ∧ p.length = 12 ∧ ∀ x ∈ p, 0 ≤ x ∧ x < 10000 := by
  unfold spec_DrawPlaces.f
  obtain ⟨h, hnew⟩ := new_ev b hb
  obtain ⟨v, i1, g1, e1, _, a1, b1⟩ := byte_eq b 0 h (by omega) (by omega) hb
  have main : ∀ (d i : Nat) (acc : List Int) (j g : Int), i + d = 12 → acc.length = i → (∀ x ∈ acc, 0 ≤ x ∧ x < 10000) → 0 ≤ j → j ≤ b.length → ∃ p, Ev (fun k => spec_DrawPlaces.l0 k acc (i : Int) b j g) p ∧ p.length = 12 ∧ ∀ x ∈ p, 0 ≤ x ∧ x < 10000 := by
    intro d
    induction d with
    | zero => intro i acc j g hi hl ha _ _; exact ⟨acc, ev_some fun k => by simp only [spec_DrawPlaces.l0]; rw [if_neg (by omega)], by omega, ha⟩
    | succ d ih =>
      intro i acc j g hi hl ha hj0 hj1
      obtain ⟨y, j2, g2, e2, hy, a2, b2⟩ := below_eq b j g 10000 hj0 hj1 hb (by omega)
      obtain ⟨p, hp, hp2, hp3⟩ := ih (i + 1) (acc ++ [y]) j2 g2 (by omega) (by simp; omega) (fun x hx => by
        rcases List.mem_append.1 hx with hx | hx
        · exact ha x hx
        · obtain rfl := List.mem_singleton.1 hx; exact hy) a2 b2
      refine ⟨p, Ev.step (fun k => ?_) hp, hp2, hp3⟩
      simp only [spec_DrawPlaces.l0]
      rw [if_pos (by omega), e2]
      simp only [Option.bind_some]
      rw [if_pos (by omega), wsucc (n := 12) (by omega) (by omega)]
  obtain ⟨p, hp, hp2, hp3⟩ := main 12 0 [] i1 g1 rfl rfl (fun x hx => by cases hx) a1 b1
  refine ⟨p, ev_bind hnew ?_, hp2, hp3⟩
  simp only [e1, Option.bind_some]
  exact hp
end Go.Proofs.Ytkbfmompapcekaa.Pu

/- Small words: numbers that do not wrap, twelve drawn places, what is not too great, chunks that are let through. -/
namespace Go.Proofs.Ytkbfmompapcekaa.M2.Mp
set_option linter.unusedVariables false
set_option linter.unusedSimpArgs false
open Go.RowKit Go.Proofs.Ytkbfmompapcekaa.PK Go.Proofs.YtkbfmompapcekaaW.PrintWords Go.Proofs.Ytkbfmompapcekaa.Pu

theorem m64 {i : Nat} {n : Nat} (h : i < n) (hn : n ≤ 9223372036854775807) : M2.w64 ((i : Int) + 1) = ((i + 1 : Nat) : Int) := by
  rw [w64_eq]; exact wsucc h hn
theorem m64i {x : Int} (h1 : -9223372036854775808 ≤ x) (h2 : x ≤ 9223372036854775807) : M2.w64 x = x := by
  rw [w64_eq]; exact Pu.w64 h1 h2
theorem placesX (b : List Int) (hb : Cb b) : EvX (fun k => spec_DrawPlaces.f k b) (fun p => p.length = 12 ∧ ∀ x ∈ p, 0 ≤ x ∧ x < 10000) := by
  obtain ⟨p, e, h1, h2⟩ := places_ev b hb
  exact ⟨p, ev_rel e (fun k r hh m hm => spec_DrawPlaces.rel k b r hh m hm), h1, h2⟩
theorem bigX (b : List Int) : EvX (fun k => laws_big.f k b) (fun r => r = decide ((b.length : Int) > 1048576)) := by
  simp only [laws_big.f]; exact evx_some rfl
theorem l01InX (a l h : Int) : EvX (fun k => spec_l01In.f k a l h) (fun r => r = decide (l ≤ a ∧ a ≤ h)) := by
  simp only [spec_l01In.f]
  refine evx_ite (fun h1 => evx_some ?_) (fun h1 => evx_some ?_)
  · exact decide_eq_decide.2 ⟨fun h2 => ⟨by omega, h2⟩, fun h2 => h2.2⟩
  · exact (decide_eq_false (by omega)).symm
theorem inX (a l h : Int) : EvX (fun k => impl_in.f k a l h) (fun r => r = decide (l ≤ a ∧ a ≤ h)) := by
  simp only [impl_in.f]
  refine evx_ite (fun h1 => evx_some ?_) (fun h1 => evx_some ?_)
  · exact decide_eq_decide.2 ⟨fun h2 => ⟨by omega, h2⟩, fun h2 => h2.2⟩
  · exact (decide_eq_false (by omega)).symm
end Go.Proofs.Ytkbfmompapcekaa.M2.Mp

/- When a record is right, as one test; the program's and the reference's RecOk answer it. -/
namespace Go.Proofs.Ytkbfmompapcekaa.Pu
set_option linter.unusedVariables false
set_option linter.unusedSimpArgs false
open Go.RowKit Go.Proofs.Ytkbfmompapcekaa.PK Go.Proofs.YtkbfmompapcekaaW.PrintWords

theorem in_eq' (a l h : Int) : impl_in.f a l h = some (decide (l ≤ a ∧ a ≤ h)) := by
  unfold impl_in.f
  by_cases h1 : a ≥ l
  · rw [if_pos h1]; congr 1; simp; omega
  · rw [if_neg h1]; congr 1; simp; omega
theorem l01In_eq' (a l h : Int) : spec_l01In.f a l h = some (decide (l ≤ a ∧ a ≤ h)) := by
  unfold spec_l01In.f
  by_cases h1 : a ≥ l
  · rw [if_pos h1]; congr 1; simp; omega
  · rw [if_neg h1]; congr 1; simp; omega
theorem some_dec {b : Bool} {P : Prop} [Decidable P] (h : b = true ↔ P) : some b = some (decide P) := by
  congr 1
  rw [Bool.eq_iff_iff, decide_eq_true_eq]
  exact h

/-- A record is right. -/
def recOk (t v a c : Int) : Bool := decide (0 ≤ a ∧ a ≤ 1000000000 ∧ ((t = 1 ∧ v = 0 ∧ c = 0) ∨ (1 ≤ v ∧ v ≤ 9 ∧ ((t = 2 ∧ c = 0 ∧ a ≤ 9) ∨ (t = 3 ∧ c = 0 ∧ a = 0) ∨ (t = 4 ∧ a ≤ 15 ∧ 1 ≤ c ∧ c ≤ 1000000000) ∨ (t = 5 ∧ c = 0 ∧ a ≤ 15)))))
theorem impl_RecOk_eq (k : Nat) (t v a c : Int) : impl_RecOk.f (k + 1) t v a c = some (recOk t v a c) := by
  unfold impl_RecOk.f impl_RecOk.j0 recOk
  simp only [in_eq', Option.bind_some]
  repeat' split
  all_goals (refine some_dec ?_)
  all_goals (simp only [beq_iff_eq, bne_iff_ne, ne_eq, decide_eq_true_eq, Bool.false_eq_true, false_iff, not_true_eq_false, not_false_eq_true] at *)
  all_goals omega
theorem spec_RecOk_eq (k : Nat) (t v a c : Int) : spec_RecOk.f (k + 1) t v a c = some (recOk t v a c) := by
  unfold spec_RecOk.f spec_RecOk.j0 recOk
  simp only [l01In_eq', Option.bind_some]
  repeat' split
  all_goals (refine some_dec ?_)
  all_goals (simp only [beq_iff_eq, bne_iff_ne, ne_eq, decide_eq_true_eq, Bool.false_eq_true, false_iff, not_true_eq_false, not_false_eq_true] at *)
  all_goals omega
theorem iRecOk_ev (t v a c : Int) : Ev (fun k => impl_RecOk.f k t v a c) (recOk t v a c) := ev_some fun k => impl_RecOk_eq k t v a c
theorem sRecOk_ev (t v a c : Int) : Ev (fun k => spec_RecOk.f k t v a c) (recOk t v a c) := ev_some fun k => spec_RecOk_eq k t v a c
theorem recOk_range {t v a c : Int} (h : recOk t v a c = true) : 1 ≤ t ∧ t ≤ 5 ∧ 0 ≤ v ∧ v ≤ 9 ∧ 0 ≤ a ∧ a ≤ 1000000000 ∧ 0 ≤ c ∧ c ≤ 1000000000 := by
  unfold recOk at h
  rw [decide_eq_true_eq] at h
  omega
end Go.Proofs.Ytkbfmompapcekaa.Pu

/- A number in bytes, as one list; the program's VarText and the reference's l01Var tell it. -/
namespace Go.Proofs.Ytkbfmompapcekaa.Pu
set_option linter.unusedVariables false
set_option linter.unusedSimpArgs false
open Go.RowKit Go.Proofs.Ytkbfmompapcekaa.PK Go.Proofs.YtkbfmompapcekaaW.PrintWords

/-- The bytes of a number, seven bits at a time. -/
def varL (n : Nat) : List Int := if h : n > 127 then ((n % 128 + 128 : Nat) : Int) :: varL (n / 128) else [(n : Int)]
theorem varL_long {n : Nat} (h : n > 127) : varL n = ((n % 128 + 128 : Nat) : Int) :: varL (n / 128) := by rw [varL, dif_pos h]
theorem varL_short {n : Nat} (h : ¬ n > 127) : varL n = [(n : Int)] := by rw [varL, dif_neg h]
theorem varL_len : ∀ (d n : Nat), n < 128 ^ (d + 1) → (varL n).length ≤ d + 1 ∧ 1 ≤ (varL n).length
  | 0, n, h => by rw [varL_short (by omega)]; simp
  | d + 1, n, h => by
    by_cases hn : n > 127
    · rw [varL_long hn]
      have := varL_len d (n / 128) (by rw [Nat.pow_succ] at h; omega)
      simp only [List.length_cons]
      omega
    · rw [varL_short hn]; simp
theorem varL_len5 {n : Nat} (h : n ≤ 1000000000) : (varL n).length ≤ 5 ∧ 1 ≤ (varL n).length := varL_len 4 n (by omega)
theorem wbyte {n : Nat} (h : n > 127) (hn : n ≤ 1000000000) : wrap64 (Int.tdiv (n : Int) 128) = ((n / 128 : Nat) : Int) ∧ wrap64 (Int.tmod (n : Int) 128 + 128) % 256 = ((n % 128 + 128 : Nat) : Int) := by
  rw [Int.tdiv_eq_ediv_of_nonneg (by omega), Int.tmod_eq_emod_of_nonneg (by omega), w64 (by omega) (by omega), w64 (by omega) (by omega)]
  omega
theorem sVar_ev : ∀ (d n : Nat) (acc : List Int), n < 128 ^ (d + 1) → n ≤ 1000000000 → acc.length + d ≤ 100 → Ev (fun k => spec_l01Var.l0 k n acc) (strOfNums (acc ++ varL n))
  | 0, n, acc, h, hn, ha => ev_some fun k => by
    simp only [spec_l01Var.l0]
    rw [if_neg (by omega), if_pos (by omega), varL_short (by omega), show (n : Int) % 256 = n by omega]
  | d + 1, n, acc, h, hn, ha => by
    by_cases h1 : n > 127
    · have := sVar_ev d (n / 128) (acc ++ [((n % 128 + 128 : Nat) : Int)]) (by rw [Nat.pow_succ] at h; omega) (by omega) (by simp; omega)
      rw [varL_long h1, show acc ++ ((n % 128 + 128 : Nat) : Int) :: varL (n / 128) = (acc ++ [((n % 128 + 128 : Nat) : Int)]) ++ varL (n / 128) by simp]
      refine Ev.step (fun k => ?_) this
      simp only [spec_l01Var.l0]
      rw [if_pos (by omega), if_pos (by omega), (wbyte h1 hn).1, (wbyte h1 hn).2]
    · refine ev_some fun k => ?_
      simp only [spec_l01Var.l0]
      rw [if_neg (by omega), if_pos (by omega), varL_short h1, show (n : Int) % 256 = n by omega]
theorem iVar_ev : ∀ (d n : Nat) (acc : List Int), n < 128 ^ (d + 1) → n ≤ 1000000000 → acc.length + d ≤ 100 → Ev (fun k => impl_VarText.l0 k n acc) (strOfNums (acc ++ varL n), true)
  | 0, n, acc, h, hn, ha => ev_some fun k => by
    simp only [impl_VarText.l0]
    rw [if_neg (by omega), if_pos (by omega), varL_short (by omega), show (n : Int) % 256 = n by omega]
  | d + 1, n, acc, h, hn, ha => by
    by_cases h1 : n > 127
    · have := iVar_ev d (n / 128) (acc ++ [((n % 128 + 128 : Nat) : Int)]) (by rw [Nat.pow_succ] at h; omega) (by omega) (by simp; omega)
      rw [varL_long h1, show acc ++ ((n % 128 + 128 : Nat) : Int) :: varL (n / 128) = (acc ++ [((n % 128 + 128 : Nat) : Int)]) ++ varL (n / 128) by simp]
      refine Ev.step (fun k => ?_) this
      simp only [impl_VarText.l0]
      rw [if_pos (by omega), if_pos (by omega), (wbyte h1 hn).1, (wbyte h1 hn).2]
    · refine ev_some fun k => ?_
      simp only [impl_VarText.l0]
      rw [if_neg (by omega), if_pos (by omega), varL_short h1, show (n : Int) % 256 = n by omega]
theorem l01Var_ev {n : Int} (h0 : 0 ≤ n) (h : n ≤ 1000000000) : Ev (fun k => spec_l01Var.f k n) (strOfNums (varL n.toNat)) := by
  have := sVar_ev 4 n.toNat [] (by omega) (by omega) (by simp)
  rw [List.nil_append, show ((n.toNat : Nat) : Int) = n by omega] at this
  exact this
theorem varOf_ev {n : Int} (h0 : 0 ≤ n) (h : n ≤ 1000000000) : Ev (fun k => impl_varOf.f k n) (strOfNums (varL n.toNat)) := by
  have := iVar_ev 4 n.toNat [] (by omega) (by omega) (by simp)
  rw [List.nil_append, show ((n.toNat : Nat) : Int) = n by omega] at this
  unfold impl_varOf.f impl_VarText.f
  have e : impl_in.f n 0 1000000000 = some true := by
    unfold impl_in.f
    rw [if_pos h0, decide_eq_true h]
  simp only [e, Option.bind_some, if_true]
  exact ev_bind this (Ev.now _)
theorem strOf_size (l : List Int) : (strOfNums l).size = l.length := by
  unfold strOfNums
  simp [ByteArray.size]
end Go.Proofs.Ytkbfmompapcekaa.Pu

/- The bytes of a record; the program's and the reference's RecText tell them. -/
namespace Go.Proofs.Ytkbfmompapcekaa.Pu
set_option linter.unusedVariables false
set_option linter.unusedSimpArgs false
open Go.RowKit Go.Proofs.Ytkbfmompapcekaa.PK Go.Proofs.YtkbfmompapcekaaW.PrintWords

def recText (t v a c : Int) : ByteArray := (strOfNums [(16 * t + v) % 256] ++ strOfNums (varL a.toNat)) ++ strOfNums (varL c.toNat)
def recTextR (t v a c : Int) : ByteArray × Bool := if recOk t v a c = true then (recText t v a c, true) else (⟨#[]⟩, false)
theorem iRecText_ev (t v a c : Int) : Ev (fun k => impl_RecText.f k t v a c) (recTextR t v a c) := by
  unfold impl_RecText.f recTextR
  refine ev_bind (iRecOk_ev t v a c) ?_
  by_cases h : recOk t v a c = true
  · obtain ⟨h1, h2, h3, h4, h5, h6, h7, h8⟩ := recOk_range h
    have s1 := varL_len5 (n := a.toNat) (by omega)
    have s2 := varL_len5 (n := c.toNat) (by omega)
    simp only [if_pos h, Option.bind_some]
    refine ev_bind (varOf_ev h5 h6) ?_
    rw [w64 (x := 16 * t) (by omega) (by omega), w64 (x := 16 * t + v) (by omega) (by omega)]
    simp only [strOf_size, List.length_cons, List.length_nil, if_pos (show 0 + 1 + (varL a.toNat).length ≤ 9223372036854775807 by omega)]
    refine ev_bind (varOf_ev h7 h8) ?_
    simp only [strOf_size, if_pos (show 0 + 1 + (varL a.toNat).length + (varL c.toNat).length ≤ 9223372036854775807 by omega)]
    exact Ev.now _
  · simp only [if_neg h]
    exact Ev.now _
theorem sRecText_ev (t v a c : Int) : Ev (fun k => spec_RecText.f k t v a c) (recTextR t v a c) := by
  unfold spec_RecText.f recTextR spec_l06Byte.f
  refine ev_bind (sRecOk_ev t v a c) ?_
  by_cases h : recOk t v a c = true
  · obtain ⟨h1, h2, h3, h4, h5, h6, h7, h8⟩ := recOk_range h
    have s1 := varL_len5 (n := a.toNat) (by omega)
    have s2 := varL_len5 (n := c.toNat) (by omega)
    simp only [if_pos h, Option.bind_some]
    refine ev_bind (l01Var_ev h5 h6) ?_
    rw [w64 (x := 16 * t) (by omega) (by omega), w64 (x := 16 * t + v) (by omega) (by omega)]
    simp only [strOf_size, List.length_cons, List.length_nil, if_pos (show 0 + 1 + (varL a.toNat).length ≤ 9223372036854775807 by omega)]
    refine ev_bind (l01Var_ev h7 h8) ?_
    simp only [strOf_size, if_pos (show 0 + 1 + (varL a.toNat).length + (varL c.toNat).length ≤ 9223372036854775807 by omega)]
    exact Ev.now _
  · simp only [if_neg h]
    exact Ev.now _
end Go.Proofs.Ytkbfmompapcekaa.Pu

/- The pages of a transaction; the program's and the reference's TxPages tell them; marks and copies of pages and records. -/
namespace Go.Proofs.Ytkbfmompapcekaa.Pu
set_option linter.unusedVariables false
set_option linter.unusedSimpArgs false
open Go.RowKit Go.Proofs.Ytkbfmompapcekaa.PK Go.Proofs.YtkbfmompapcekaaW.PrintWords

theorem rdTP_nat (l : List S33) (i : Nat) : rd_T33 l (i : Int) = l.getD i z33 := rfl
theorem rdTR_nat (l : List S48) (i : Nat) : rd_T48 l (i : Int) = l.getD i z48 := rfl
theorem rdOfT_nat {α : Type} (z : α) (l : List α) (i : Nat) : rdOf z l (i : Int) = l.getD i z := rfl
theorem getDset {α : Type} {l : List α} {c : Nat} (i : Nat) (v z : α) (hc : c < l.length) : (l.set c v).getD i z = if i = c then v else l.getD i z := by
  rw [List.getD_eq_getElem?_getD, List.getD_eq_getElem?_getD, List.getElem?_set]
  by_cases h : c = i
  · subst h; simp [hc]
  · rw [if_neg h, if_neg (fun e => h e.symm)]
theorem dropT {α : Type} {l : List α} {i : Nat} (z : α) (h : i < l.length) : l.drop i = l.getD i z :: l.drop (i + 1) := by
  rw [List.drop_eq_getElem_cons h, List.getD_eq_getElem?_getD, List.getElem?_eq_getElem h]; rfl
theorem empty_app (t : ByteArray) : (⟨#[]⟩ : ByteArray) ++ t = t := ByteArray.empty_append

def lastT (ts : List ByteArray) : ByteArray := ts.getD (ts.length - 1) ByteArray.empty
def txF (ts : List ByteArray) (t : ByteArray) : List ByteArray := if ((lastT ts).size : Int) + (t.size : Int) > 90 then ts ++ [t] else ts.set (ts.length - 1) (lastT ts ++ t)
def txs : List S48 → List ByteArray → Option (List ByteArray)
  | [], ts => some ts
  | r :: rs, ts => if recOk r.f0 r.f1 r.f2 r.f3 = true then txs rs (txF ts (recText r.f0 r.f1 r.f2 r.f3)) else none
def pageB (s x : Int) (ts : List ByteArray) (i : Nat) : S33 := ⟨2, wrap64 (s + (i : Int)), x, (i : Int), (ts.length : Int), ts.getD i ByteArray.empty⟩
def pagesB (s x : Int) (ts : List ByteArray) : List S33 := (List.range' 0 ts.length).map (pageB s x ts)
def txFin (s x : Int) : Option (List ByteArray) → List S33 × Bool
  | none => ([], false)
  | some ts => if (ts.length : Int) > 9 then ([], false) else if 1 ≤ s ∧ s ≤ wrap64 (wrap64 (1000000000 - (ts.length : Int)) + 1) then (if 1 ≤ x ∧ x ≤ 1000000000 then (pagesB s x ts, true) else ([], false)) else ([], false)
theorem txFin_len (s x : Int) (o : Option (List ByteArray)) : (txFin s x o).1.length ≤ 9 := by
  cases o with
  | none => simp [txFin]
  | some ts =>
    unfold txFin
    by_cases h : (ts.length : Int) > 9
    · simp [h]
    · simp only [if_neg h]
      by_cases h2 : 1 ≤ s ∧ s ≤ wrap64 (wrap64 (1000000000 - (ts.length : Int)) + 1)
      · by_cases h3 : 1 ≤ x ∧ x ≤ 1000000000
        · simp only [if_pos h2, if_pos h3, pagesB, List.length_map, List.length_range']; omega
        · simp only [if_pos h2, if_neg h3]; simp
      · simp only [if_neg h2]; simp
theorem recText_size {t v a c : Int} (h : recOk t v a c = true) : (recText t v a c).size ≤ 11 := by
  obtain ⟨h1, h2, h3, h4, h5, h6, h7, h8⟩ := recOk_range h
  have s1 := varL_len5 (n := a.toNat) (by omega)
  have s2 := varL_len5 (n := c.toNat) (by omega)
  unfold recText
  rw [ByteArray.size_append, ByteArray.size_append, strOf_size, strOf_size, strOf_size]
  simp
  omega
theorem txF_last {ts : List ByteArray} {t : ByteArray} (h0 : 0 < ts.length) (ht : t.size ≤ 11) : (lastT (txF ts t)).size ≤ 90 ∧ 0 < (txF ts t).length ∧ (txF ts t).length ≤ ts.length + 1 := by
  unfold txF
  by_cases h : ((lastT ts).size : Int) + (t.size : Int) > 90
  · rw [if_pos h]
    refine ⟨?_, by simp, by simp⟩
    unfold lastT
    rw [List.length_append, List.length_singleton, Nat.add_sub_cancel, List.getD_eq_getElem?_getD, List.getElem?_append_right (Nat.le_refl _)]
    simp
    omega
  · rw [if_neg h]
    refine ⟨?_, by rw [List.length_set]; exact h0, by rw [List.length_set]; omega⟩
    unfold lastT at h ⊢
    rw [List.length_set, getDset _ _ _ (by omega), if_pos rfl, ByteArray.size_append]
    omega
theorem wpredT {i : Nat} (h : 0 < i) (hn : i ≤ 9223372036854775807) : wrap64 ((i : Int) - 1) = ((i - 1 : Nat) : Int) := by
  rw [w64 (by omega) (by omega)]; omega
theorem iTx1_ev (s x : Int) (ts : List ByteArray) (hl : ts.length ≤ 9) : ∀ (d i : Nat) (acc : List S33), i + d = ts.length → acc.length = i → Ev (fun k => impl_TxPages.l1 k s x (ts.length : Int) acc ts (ts.length : Int) (i : Int)) (acc ++ (List.range' i d).map (pageB s x ts), true) := by
  intro d
  induction d with
  | zero => intro i acc hi ha; exact ev_some fun k => by simp only [impl_TxPages.l1]; rw [if_neg (by omega)]; simp
  | succ d ih =>
    intro i acc hi ha
    have h := ih (i + 1) (acc ++ [pageB s x ts i]) (by omega) (by simp; omega)
    rw [List.append_assoc, List.singleton_append] at h
    rw [List.range'_succ, List.map_cons]
    refine Ev.step (fun k => ?_) h
    simp only [impl_TxPages.l1]
    rw [if_pos (by omega), if_pos (by omega), if_pos (by omega), if_pos (by omega), wsucc (i := i) (n := ts.length) (by omega) (by omega), rdOfT_nat]
    rfl
theorem sTx1_ev (s x : Int) (ts : List ByteArray) (hl : ts.length ≤ 9) : ∀ (d i : Nat) (acc : List S33), i + d = ts.length → acc.length = i → Ev (fun k => spec_TxPages.l1 k s x ts acc (i : Int)) (acc ++ (List.range' i d).map (pageB s x ts), true) := by
  intro d
  induction d with
  | zero => intro i acc hi ha; exact ev_some fun k => by simp only [spec_TxPages.l1]; rw [if_neg (by omega)]; simp
  | succ d ih =>
    intro i acc hi ha
    have h := ih (i + 1) (acc ++ [pageB s x ts i]) (by omega) (by simp; omega)
    rw [List.append_assoc, List.singleton_append] at h
    rw [List.range'_succ, List.map_cons]
    refine Ev.step (fun k => ?_) h
    simp only [spec_TxPages.l1]
    rw [if_pos (by omega), if_pos (by omega), if_pos (by omega), wsucc (i := i) (n := ts.length) (by omega) (by omega), rdOfT_nat]
    rfl
theorem ev_step_bind {α β : Type} {L : Nat → Option β} {g : Nat → Option α} {F : Nat → α → Option β} {a : α} {r : β} (hg : Ev g a) (hL : ∀ k, L (k + 1) = (g k).bind (F k)) (h : Ev (fun k => F k a) r) : Ev L r := Ev.step (f := fun k => (g k).bind (F k)) hL (Ev.bind hg h)
theorem iTx_ev (s x : Int) (recs : List S48) (hr : recs.length ≤ 1048576) : Ev (fun k => impl_TxPages.f k s x recs) (txFin s x (txs recs [⟨#[]⟩])) := by
  have main : ∀ (d i : Nat) (ts : List ByteArray), i + d = recs.length → 0 < ts.length → ts.length ≤ 1 + i → (lastT ts).size ≤ 90 → Ev (fun k => impl_TxPages.l0 k s x ts recs (recs.length : Int) (i : Int)) (txFin s x (txs (recs.drop i) ts)) := by
    intro d
    induction d with
    | zero =>
      intro i ts hi h0 hl hs
      rw [List.drop_eq_nil_of_le (by omega)]
      have no : Ev (fun k => impl_TxPages.j1 k s x ts (ts.length : Int) true) (([] : List S33), false) := ev_some fun k => by simp only [impl_TxPages.j1]; rw [if_pos trivial]
      unfold txs txFin
      by_cases h : (ts.length : Int) > 9
      · simp only [if_pos h]
        refine Ev.step (fun k => ?_) no
        simp only [impl_TxPages.l0]
        rw [if_neg (by omega), if_pos h]
      · simp only [if_neg h]
        by_cases h2 : 1 ≤ s ∧ s ≤ wrap64 (wrap64 (1000000000 - (ts.length : Int)) + 1)
        · by_cases h3 : 1 ≤ x ∧ x ≤ 1000000000
          · simp only [if_pos h2, if_pos h3]
            refine Ev.step (f := fun k => impl_TxPages.j1 k s x ts (ts.length : Int) false) (fun k => ?_) (Ev.step (fun k => ?_) (iTx1_ev s x ts (by omega) ts.length 0 [] (by omega) rfl))
            · simp only [impl_TxPages.l0]
              rw [if_neg (by omega), if_neg h, in_eq', in_eq', Option.bind_some, decide_eq_true h2, if_pos rfl, Option.bind_some, decide_eq_true h3]; rfl
            · simp only [impl_TxPages.j1]
              rw [if_neg (by decide)]; rfl
          · simp only [if_pos h2, if_neg h3]
            refine Ev.step (fun k => ?_) no
            simp only [impl_TxPages.l0]
            rw [if_neg (by omega), if_neg h, in_eq', in_eq', Option.bind_some, decide_eq_true h2, if_pos rfl, Option.bind_some, decide_eq_false h3]; rfl
        · simp only [if_neg h2]
          refine Ev.step (fun k => ?_) no
          simp only [impl_TxPages.l0]
          rw [if_neg (by omega), if_neg h, in_eq', Option.bind_some, decide_eq_false h2, if_neg (by decide)]
    | succ d ih =>
      intro i ts hi h0 hl hs
      have hil : i < recs.length := by omega
      rw [dropT z48 hil]
      have hR : rd_T48 recs (i : Int) = recs.getD i z48 := rfl
      revert hR
      generalize recs.getD i z48 = r
      intro hR
      unfold txs
      have hT := iRecText_ev r.f0 r.f1 r.f2 r.f3
      unfold recTextR at hT
      by_cases h : recOk r.f0 r.f1 r.f2 r.f3 = true
      · rw [if_pos h] at hT
        rw [if_pos h]
        have hz := recText_size h
        have hih := ih (i + 1) (txF ts (recText r.f0 r.f1 r.f2 r.f3)) (by omega) (txF_last h0 hz).2.1 (by have := (txF_last (t := recText r.f0 r.f1 r.f2 r.f3) h0 hz).2.2; omega) (txF_last h0 hz).1
        revert hT hih hz
        generalize recText r.f0 r.f1 r.f2 r.f3 = t
        intro hT hz hih
        apply ev_step_bind hT
        case hL =>
          intro k
          simp only [impl_TxPages.l0]
          rw [if_pos (by omega), if_pos (by omega), if_pos (by omega), hR, wsucc (i := i) (n := recs.length) hil (by omega)]
        have er : rdOf ByteArray.empty ts ((ts.length - 1 : Nat) : Int) = lastT ts := rfl
        have ew : wrap64 (((lastT ts).size : Int) + (t.size : Int)) = ((lastT ts).size : Int) + (t.size : Int) := w64 (by omega) (by omega)
        simp only [if_true, wpredT h0 (by omega), er, ew, if_pos (show (0 : Int) ≤ ((ts.length - 1 : Nat) : Int) by omega), if_pos (show ((ts.length - 1 : Nat) : Int) < (ts.length : Int) by omega)]
        unfold txF at hih ⊢
        by_cases h6 : ((lastT ts).size : Int) + (t.size : Int) > 90
        · have e1 : wrap64 (((ts.length - 1 : Nat) : Int) + 1) = (ts.length : Int) := by rw [w64 (by omega) (by omega)]; omega
          have e2 : rdOf ByteArray.empty (ts ++ [(⟨#[]⟩ : ByteArray)]) (ts.length : Int) = ⟨#[]⟩ := by
            show (ts ++ [(⟨#[]⟩ : ByteArray)]).getD ts.length ByteArray.empty = _
            rw [List.getD_eq_getElem?_getD, List.getElem?_append_right (Nat.le_refl _), Nat.sub_self]; rfl
          have e3 : (ts ++ [(⟨#[]⟩ : ByteArray)]).set ts.length t = ts ++ [t] := by
            rw [List.set_append_right _ _ (Nat.le_refl _), Nat.sub_self]; rfl
          simp only [if_pos h6, if_pos (show ts.length < 8796093022208 by omega), Option.bind_some, e1, e2, if_pos (show (0 : Int) ≤ (ts.length : Int) by omega), if_pos (show (ts.length : Int) < ((ts ++ [(⟨#[]⟩ : ByteArray)]).length : Int) by rw [List.length_append, List.length_singleton]; omega), Int.toNat_natCast, empty_app, e3] at hih ⊢
          rw [show (⟨#[]⟩ : ByteArray).size = 0 from rfl]
          simp only [if_pos (show 0 + t.size ≤ 9223372036854775807 by omega)]
          exact hih
        · simp only [if_neg h6, if_pos (show (lastT ts).size + t.size ≤ 9223372036854775807 by omega), Int.toNat_natCast] at hih ⊢
          exact hih
      · rw [if_neg h] at hT
        rw [if_neg h]
        apply ev_step_bind hT
        case hL =>
          intro k
          simp only [impl_TxPages.l0]
          rw [if_pos (by omega), if_pos (by omega), if_pos (by omega), hR, wsucc (i := i) (n := recs.length) hil (by omega)]
        simp only [Bool.false_eq_true, if_false]
        exact Ev.now _
  exact main recs.length 0 [⟨#[]⟩] (by omega) (by simp) (by simp) (by show (⟨#[]⟩ : ByteArray).size ≤ 90; decide)
theorem sTx_ev (s x : Int) (recs : List S48) (hr : recs.length ≤ 1048576) : Ev (fun k => spec_TxPages.f k s x recs) (txFin s x (txs recs [⟨#[]⟩])) := by
  have main : ∀ (d i : Nat) (ts : List ByteArray), i + d = recs.length → 0 < ts.length → ts.length ≤ 1 + i → (lastT ts).size ≤ 90 → Ev (fun k => spec_TxPages.l0 k s x recs [] ts (i : Int)) (txFin s x (txs (recs.drop i) ts)) := by
    intro d
    induction d with
    | zero =>
      intro i ts hi h0 hl hs
      rw [List.drop_eq_nil_of_le (by omega)]
      have no : Ev (fun k => spec_TxPages.j1 k s x [] ts true) (([] : List S33), false) := ev_some fun k => by simp only [spec_TxPages.j1]; rw [if_pos trivial]
      unfold txs txFin
      by_cases h : (ts.length : Int) > 9
      · simp only [if_pos h]
        refine Ev.step (fun k => ?_) no
        simp only [spec_TxPages.l0]
        rw [if_neg (by omega), if_pos h]
      · simp only [if_neg h]
        by_cases h2 : 1 ≤ s ∧ s ≤ wrap64 (wrap64 (1000000000 - (ts.length : Int)) + 1)
        · by_cases h3 : 1 ≤ x ∧ x ≤ 1000000000
          · simp only [if_pos h2, if_pos h3]
            refine Ev.step (f := fun k => spec_TxPages.j1 k s x [] ts false) (fun k => ?_) (Ev.step (fun k => ?_) (sTx1_ev s x ts (by omega) ts.length 0 [] (by omega) rfl))
            · simp only [spec_TxPages.l0]
              rw [if_neg (by omega), if_neg h, l01In_eq', l01In_eq', Option.bind_some, decide_eq_true h2, if_pos rfl, Option.bind_some, decide_eq_true h3]; rfl
            · simp only [spec_TxPages.j1]
              rw [if_neg (by decide)]; rfl
          · simp only [if_pos h2, if_neg h3]
            refine Ev.step (fun k => ?_) no
            simp only [spec_TxPages.l0]
            rw [if_neg (by omega), if_neg h, l01In_eq', l01In_eq', Option.bind_some, decide_eq_true h2, if_pos rfl, Option.bind_some, decide_eq_false h3]; rfl
        · simp only [if_neg h2]
          refine Ev.step (fun k => ?_) no
          simp only [spec_TxPages.l0]
          rw [if_neg (by omega), if_neg h, l01In_eq', Option.bind_some, decide_eq_false h2, if_neg (by decide)]
    | succ d ih =>
      intro i ts hi h0 hl hs
      have hil : i < recs.length := by omega
      rw [dropT z48 hil]
      have hR : rd_T48 recs (i : Int) = recs.getD i z48 := rfl
      revert hR
      generalize recs.getD i z48 = r
      intro hR
      unfold txs
      have hT := sRecText_ev r.f0 r.f1 r.f2 r.f3
      unfold recTextR at hT
      by_cases h : recOk r.f0 r.f1 r.f2 r.f3 = true
      · rw [if_pos h] at hT
        rw [if_pos h]
        have hz := recText_size h
        have hih := ih (i + 1) (txF ts (recText r.f0 r.f1 r.f2 r.f3)) (by omega) (txF_last h0 hz).2.1 (by have := (txF_last (t := recText r.f0 r.f1 r.f2 r.f3) h0 hz).2.2; omega) (txF_last h0 hz).1
        revert hT hih hz
        generalize recText r.f0 r.f1 r.f2 r.f3 = t
        intro hT hz hih
        apply ev_step_bind hT
        case hL =>
          intro k
          simp only [spec_TxPages.l0]
          rw [if_pos (by omega), if_pos (by omega), hR, wsucc (i := i) (n := recs.length) hil (by omega)]
        have er : rdOf ByteArray.empty ts ((ts.length - 1 : Nat) : Int) = lastT ts := rfl
        have ew : wrap64 (((lastT ts).size : Int) + (t.size : Int)) = ((lastT ts).size : Int) + (t.size : Int) := w64 (by omega) (by omega)
        simp only [if_true, wpredT h0 (by omega), er, ew, if_pos (show (0 : Int) ≤ ((ts.length - 1 : Nat) : Int) by omega), if_pos (show ((ts.length - 1 : Nat) : Int) < (ts.length : Int) by omega)]
        unfold txF at hih ⊢
        by_cases h6 : ((lastT ts).size : Int) + (t.size : Int) > 90
        · simp only [if_pos h6, if_pos (show ts.length < 8796093022208 by omega)] at hih ⊢
          exact hih
        · simp only [if_neg h6, if_pos (show (lastT ts).size + t.size ≤ 9223372036854775807 by omega), Int.toNat_natCast] at hih ⊢
          exact hih
      · rw [if_neg h] at hT
        rw [if_neg h]
        apply ev_step_bind hT
        case hL =>
          intro k
          simp only [spec_TxPages.l0]
          rw [if_pos (by omega), if_pos (by omega), hR, wsucc (i := i) (n := recs.length) hil (by omega)]
        simp only [Bool.false_eq_true, if_false]
        exact Ev.now _
  exact main recs.length 0 [⟨#[]⟩] (by omega) (by simp) (by simp) (by show (⟨#[]⟩ : ByteArray).size ≤ 90; decide)
end Go.Proofs.Ytkbfmompapcekaa.Pu

/- A number read from bytes, as one function; the program's and the reference's ReadVar tell it, and it reads what VarText writes. -/
namespace Go.Proofs.Ytkbfmompapcekaa.Pu
set_option linter.unusedVariables false
set_option linter.unusedSimpArgs false
open Go.RowKit Go.Proofs.Ytkbfmompapcekaa.PK Go.Proofs.YtkbfmompapcekaaW.PrintWords

/-- A text's bytes. -/
def byt (t : ByteArray) : List Nat := t.data.toList.map UInt8.toNat
theorem byt_len (t : ByteArray) : (byt t).length = t.size := by unfold byt; rw [List.length_map, Array.length_toList]; rfl
theorem bt_byt (t : ByteArray) (i : Nat) : bt t (i : Int) = (((byt t).getD i 0 : Nat) : Int) := by
  unfold bt
  by_cases h : i < t.size
  · rw [dif_pos (show ((i : Int)).toNat < t.size from h)]
    rw [List.getD_eq_getElem?_getD, List.getElem?_eq_getElem (by rw [byt_len]; exact h)]
    unfold byt
    rw [List.getElem_map, Array.getElem_toList]
    rfl
  · rw [dif_neg (show ¬ ((i : Int)).toNat < t.size from h), List.getD_eq_getElem?_getD, List.getElem?_eq_none (by rw [byt_len]; omega)]; rfl
theorem byt_lt (t : ByteArray) : ∀ b ∈ byt t, b < 256 := by
  intro b hb
  obtain ⟨x, _, rfl⟩ := List.mem_map.1 hb
  exact UInt8.toNat_lt x
theorem byt_get_lt (t : ByteArray) (i : Nat) : (byt t).getD i 0 < 256 := by
  by_cases h : i < (byt t).length
  · exact byt_lt t _ (getD_mem' h)
  · rw [List.getD_eq_getElem?_getD, List.getElem?_eq_none (by omega)]; exact by decide
theorem byt_inj {s t : ByteArray} (h : byt s = byt t) : s = t := by
  unfold byt at h
  have h2 := (List.map_inj_right (fun a b e => UInt8.toNat_inj.1 e)).1 h
  have h3 := Array.toList_inj.1 h2
  cases s; cases t; simp only at h3; rw [h3]
theorem byt_app (s t : ByteArray) : byt (s ++ t) = byt s ++ byt t := by
  unfold byt
  rw [show (s ++ t).data = s.data ++ t.data from ByteArray.data_append, Array.toList_append, List.map_append]
theorem byt_empty : byt ⟨#[]⟩ = [] := rfl
theorem byt_str (l : List Int) (h : ∀ x ∈ l, 0 ≤ x ∧ x < 256) : byt (strOfNums l) = l.map Int.toNat := by
  unfold byt strOfNums
  rw [List.map_map]
  refine List.map_congr_left fun x hx => ?_
  have := h x hx
  show (UInt8.ofNat x.toNat).toNat = x.toNat
  rw [UInt8.toNat_ofNat']
  omega
theorem byt_sub (t : ByteArray) (a b : Nat) : byt (t.extract a b) = ((byt t).drop a).take (b - a) := by
  unfold byt
  rw [ByteArray.data_extract, Array.toList_extract, List.extract_eq_take_drop, List.map_take, List.map_drop]
theorem toList_iff (s t : ByteArray) : s.toList = t.toList ↔ byt s = byt t := by
  rw [ByteArray.toList_eq, ByteArray.toList_eq]
  constructor
  · intro h; unfold byt; rw [h]
  · intro h; rw [byt_inj h]

theorem varL_byte (n : Nat) : ∀ y ∈ varL n, 0 ≤ y ∧ y < 256 := by
  induction n using Nat.strongRecOn with
  | _ n ih =>
    intro y hy
    by_cases hn : n > 127
    · rw [varL_long hn] at hy
      rcases List.mem_cons.1 hy with hy | hy
      · omega
      · exact ih (n / 128) (by omega) y hy
    · rw [varL_short hn] at hy
      obtain rfl := List.mem_singleton.1 hy
      omega
/-- The number that bytes mean. -/
def valB : List Nat → Nat
  | [] => 0
  | b :: r => b % 128 + 128 * valB r
theorem val_snoc : ∀ (l : List Nat) (x : Nat), valB (l ++ [x]) = valB l + x % 128 * 128 ^ l.length
  | [], x => by simp [valB]
  | b :: r, x => by
    show b % 128 + 128 * valB (r ++ [x]) = b % 128 + 128 * valB r + x % 128 * 128 ^ (r.length + 1)
    rw [val_snoc r x, Nat.mul_add, Nat.pow_succ, ← Nat.add_assoc]
    congr 1
    rw [Nat.mul_comm 128, Nat.mul_assoc]
theorem val_lt : ∀ l : List Nat, valB l < 128 ^ l.length
  | [] => by decide
  | b :: r => by
    have := val_lt r
    show b % 128 + 128 * valB r < 128 ^ (r.length + 1)
    rw [Nat.pow_succ]
    omega
theorem val_pos : ∀ (pre : List Nat) {x : Nat}, x < 128 → x ≠ 0 → 1 ≤ valB (pre ++ [x])
  | [], x, h, h0 => by show 1 ≤ x % 128 + 128 * 0; omega
  | b :: r, x, h, h0 => by
    have := val_pos r h h0
    show 1 ≤ b % 128 + 128 * valB (r ++ [x])
    omega
theorem canon1 : ∀ (pre : List Nat) {x : Nat}, (∀ b ∈ pre, 128 ≤ b ∧ b < 256) → x < 128 → (pre = [] ∨ x ≠ 0) → varL (valB (pre ++ [x])) = (pre ++ [x]).map fun b : Nat => (b : Int)
  | [], x, _, hx, _ => by
    have e : valB ([] ++ [x]) = x := by show x % 128 + 128 * 0 = x; omega
    rw [e, varL_short (by omega)]; rfl
  | b :: r, x, h, hx, h0 => by
    have hx0 : x ≠ 0 := by
      rcases h0 with h0 | h0
      · cases h0
      · exact h0
    have hp := val_pos r hx hx0
    have hb := h b List.mem_cons_self
    have e : valB (b :: r ++ [x]) = b % 128 + 128 * valB (r ++ [x]) := rfl
    rw [e, varL_long (by omega), show (b % 128 + 128 * valB (r ++ [x])) / 128 = valB (r ++ [x]) by omega, canon1 r (fun c hc => h c (List.mem_cons_of_mem _ hc)) hx (.inr hx0)]
    have e3 : (((b % 128 + 128 * valB (r ++ [x])) % 128 + 128 : Nat) : Int) = (b : Int) := by omega
    rw [e3]; rfl
theorem varL_zero {n : Nat} (h : varL n = [0]) : n = 0 := by
  by_cases hn : n > 127
  · rw [varL_long hn] at h
    have h1 := congrArg List.length h
    have h2 := (varL_len n (n / 128) (by
      have : n < 128 ^ n := Nat.lt_pow_self (by decide)
      rw [Nat.pow_succ]; omega)).2
    simp only [List.length_cons, List.length_nil] at h1
    omega
  · rw [varL_short hn] at h
    injection h with h1
    omega
theorem canon2 : ∀ (n : Nat) (l : List Int), varL n = l ++ [0] → l = [] := by
  intro n
  induction n using Nat.strongRecOn with
  | _ n ih =>
    intro l h
    by_cases hn : n > 127
    · rw [varL_long hn] at h
      cases l with
      | nil => rfl
      | cons c l =>
        injection h with h1 h2
        have := ih (n / 128) (by omega) l h2
        subst this
        have := varL_zero h2
        omega
    · rw [varL_short hn] at h
      cases l with
      | nil => rfl
      | cons c l =>
        injection h with h1 h2
        have := congrArg List.length h2
        simp at this
/-- A number read from bytes: the number, and how many bytes. -/
def rvL : List Nat → Nat → Nat → Nat → Option (Nat × Nat)
  | _, 0, _, _ => none
  | [], _ + 1, _, _ => none
  | x :: r, d + 1, k, n => if x ≥ 128 then rvL r d (k + 1) (n + x % 128 * 128 ^ k) else if (x = 0 ∧ k > 0) ∨ n + x % 128 * 128 ^ k > 1000000000 then none else some (n + x % 128 * 128 ^ k, k + 1)
def rvRes (a : Int) : Option (Nat × Nat) → Int × Int × Bool
  | none => (0, 0, false)
  | some z => ((z.1 : Int), a + (z.2 : Int), true)
def rvB (t : ByteArray) (a : Int) : Int × Int × Bool := if 0 ≤ a ∧ a ≤ (t.size : Int) then rvRes a (rvL ((byt t).drop a.toNat) 5 0 0) else (0, 0, false)
theorem drop_byt {t : ByteArray} {i : Nat} (h : i < t.size) : (byt t).drop i = (byt t).getD i 0 :: (byt t).drop (i + 1) := by
  rw [List.drop_eq_getElem_cons (by rw [byt_len]; exact h), List.getD_eq_getElem?_getD, List.getElem?_eq_getElem (by rw [byt_len]; exact h)]; rfl
theorem shl7 {x k : Nat} (hx : x < 128) (hk : k < 5) : shl .i64 (x : Int) (wrap64 (7 * (k : Int))) = ((x * 128 ^ k : Nat) : Int) := by
  have e : wrap64 (7 * (k : Int)) = 7 * (k : Int) := w64 (by omega) (by omega)
  rw [e]
  have h := shl_small (k := .i64) (x := (x : Int)) (y := 7 * (k : Int)) rfl (by show (7 * (k : Int)) ≤ ((IntKind.bits .i64 : Nat) : Int); rw [show IntKind.bits .i64 = 64 from rfl]; omega)
  rw [← h, show (7 * (k : Int)).toNat = 7 * k by omega]
  have p : (128 : Nat) ^ k = 2 ^ (7 * k) := by rw [Nat.pow_mul]
  have q : (128 : Nat) ^ k ≤ 128 ^ 4 := Nat.pow_le_pow_right (by decide) (by omega)
  have e2 : (x : Int) * 2 ^ (7 * k) = ((x * 128 ^ k : Nat) : Int) := by rw [p]; push_cast; rfl
  rw [e2, Go.IntKind.wrap_i64]
  have : x * 128 ^ k ≤ 127 * 128 ^ 4 := Nat.mul_le_mul (by omega) q
  omega
theorem tmod128 (x : Nat) : Int.tmod (wrap64 ((x : Nat) : Int)) 128 = (((if x < 9223372036854775808 then x % 128 else 0 : Nat)) : Int) ∨ 9223372036854775808 ≤ x := by
  by_cases h : x < 9223372036854775808
  · left; rw [if_pos h, w64 (by omega) (by omega), Int.tmod_eq_emod_of_nonneg (by omega)]; omega
  · right; omega
theorem tmod128' {x : Nat} (h : x < 256) : Int.tmod (wrap64 ((x : Nat) : Int)) 128 = ((x % 128 : Nat) : Int) := by
  rw [w64 (by omega) (by omega), Int.tmod_eq_emod_of_nonneg (by omega)]; omega
theorem pow5 {k : Nat} (h : k ≤ 5) : (128 : Nat) ^ k ≤ 34359738368 := Nat.le_trans (Nat.pow_le_pow_right (by decide) h) (by decide)
theorem step_lt {n x k : Nat} (hn : n < 128 ^ k) : n + x % 128 * 128 ^ k < 128 ^ (k + 1) := by
  rw [Nat.pow_succ]
  have : x % 128 * 128 ^ k ≤ 127 * 128 ^ k := Nat.mul_le_mul_right _ (by omega)
  omega
theorem rvL_zero (l : List Nat) (k n : Nat) : rvL l 0 k n = none := by cases l <;> rfl
theorem rvL_nil (d k n : Nat) : rvL [] d k n = none := by cases d <;> rfl
theorem rvL_cons (x : Nat) (r : List Nat) (d k n : Nat) : rvL (x :: r) (d + 1) k n = if x ≥ 128 then rvL r d (k + 1) (n + x % 128 * 128 ^ k) else if (x = 0 ∧ k > 0) ∨ n + x % 128 * 128 ^ k > 1000000000 then none else some (n + x % 128 * 128 ^ k, k + 1) := by rw [rvL]
theorem res_some {a : Int} {M k : Nat} {b : Int} (h : b = a + ((k + 1 : Nat) : Int)) : some ((M : Int), b, true) = some (rvRes a (some (M, k + 1))) := by subst h; rfl
theorem iRV_step (K : Nat) (t : ByteArray) (a k n x M : Nat) (hs : t.size ≤ 1099511627776) (hk : k < 5) (hlt : a + k < t.size) (hx : x < 256) (eb : bt t ((a + k : Nat) : Int) = (x : Int)) (hM : n + x % 128 * 128 ^ k = M) (hM2 : M ≤ 34359738368) :
    impl_ReadVar.j1 (K + 1) t (a : Int) (n : Int) (k : Int) true = if x ≥ 128 then impl_ReadVar.l0 K t (a : Int) (M : Int) ((k + 1 : Nat) : Int) else some (rvRes (a : Int) (if (x = 0 ∧ k > 0) ∨ M > 1000000000 then none else some (M, k + 1))) := by
  have en : wrap64 ((n : Int) + shl .i64 (Int.tmod (wrap64 ((x : Nat) : Int)) 128) (wrap64 (7 * (k : Int)))) = (M : Int) := by
    rw [tmod128' hx, shl7 (by omega) hk, w64 (by omega) (by omega)]; omega
  have ea : wrap64 ((a : Int) + (k : Int)) = ((a + k : Nat) : Int) := by rw [w64 (by omega) (by omega)]; omega
  have wx : wrap64 ((x : Nat) : Int) = (x : Int) := w64 (by omega) (by omega)
  have e7 : (0 : Int) ≤ wrap64 (7 * (k : Int)) := by rw [w64 (by omega) (by omega)]; omega
  clear hM
  rw [wx] at en
  simp only [impl_ReadVar.j1, ea, eb, en, wx, if_true, if_pos (show (0 : Int) ≤ ((a + k : Nat) : Int) by omega), if_pos (show ((a + k : Nat) : Int) < (t.size : Int) by omega), if_pos e7, wsucc (n := 5) hk (by omega), wsucc (n := t.size) hlt (by omega)]
  by_cases h1 : x ≥ 128
  · rw [if_pos (by omega), if_pos h1]
  · rw [if_neg (by omega), if_neg h1]
    by_cases h4 : M > 1000000000
    · rw [if_pos (show (x = 0 ∧ k > 0) ∨ M > 1000000000 from .inr h4)]
      by_cases h2 : (x : Int) = 0
      · rw [if_pos h2]
        by_cases h3 : (k : Int) > 0
        · rw [if_pos h3]; rfl
        · rw [if_neg h3, if_pos (by omega)]; rfl
      · rw [if_neg h2, if_pos (by omega)]; rfl
    · by_cases h2 : (x : Int) = 0
      · rw [if_pos h2]
        by_cases h3 : (k : Int) > 0
        · rw [if_pos h3, if_pos (show (x = 0 ∧ k > 0) ∨ M > 1000000000 from .inl ⟨by omega, by omega⟩)]; rfl
        · rw [if_neg h3, if_neg (by omega), if_neg (by omega)]
          exact res_some (by omega)
      · rw [if_neg h2, if_neg (by omega), if_neg (by omega)]
        exact res_some (by omega)
theorem iReadVar_ev (t : ByteArray) (a : Int) (hs : t.size ≤ 1099511627776) (ha : a ≤ (t.size : Int)) : Ev (fun k => impl_ReadVar.f k t a) (rvB t a) := by
  unfold impl_ReadVar.f rvB
  by_cases h0 : 0 ≤ a
  · rw [if_pos ⟨h0, ha⟩]
    obtain ⟨a, rfl⟩ : ∃ m : Nat, a = (m : Int) := ⟨a.toNat, by omega⟩
    rw [Int.toNat_natCast]
    have main : ∀ (d k n : Nat), k + d = 5 → n < 128 ^ k → Ev (fun K => impl_ReadVar.l0 K t (a : Int) (n : Int) (k : Int)) (rvRes (a : Int) (rvL ((byt t).drop (a + k)) d k n)) := by
      intro d
      induction d with
      | zero =>
        intro k n hk hn
        rw [rvL_zero]
        refine Ev.step (f := fun K => impl_ReadVar.j1 K t (a : Int) (n : Int) (k : Int) false) (fun K => by simp only [impl_ReadVar.l0]; rw [if_neg (by omega)]) (ev_some fun K => ?_)
        simp only [impl_ReadVar.j1]
        rfl
      | succ d ih =>
        intro k n hk hn
        refine Ev.step (f := fun K => impl_ReadVar.j1 K t (a : Int) (n : Int) (k : Int) (decide ((a + k : Nat) < t.size))) (fun K => ?_) ?_
        · simp only [impl_ReadVar.l0]
          rw [if_pos (by omega), if_pos (by omega), w64 (x := (t.size : Int) - k) (by omega) (by omega)]
          congr 1
          exact decide_eq_decide.2 (by omega)
        · by_cases hlt : a + k < t.size
          · rw [decide_eq_true hlt, drop_byt hlt, rvL_cons]
            have hx := byt_get_lt t (a + k)
            have eb := bt_byt t (a + k)
            generalize (byt t).getD (a + k) 0 = x at hx eb ⊢
            have sl := step_lt (x := x) hn
            have p6 := pow5 (show k + 1 ≤ 5 by omega)
            have st := fun K => iRV_step K t a k n x _ hs (by omega) hlt hx eb rfl (by omega)
            by_cases h1 : x ≥ 128
            · rw [if_pos h1]
              exact Ev.step (fun K => by rw [st K, if_pos h1]) (ih (k + 1) _ (by omega) sl)
            · rw [if_neg h1]
              exact ev_some fun K => by rw [st K, if_neg h1]
          · rw [decide_eq_false hlt, List.drop_eq_nil_of_le (by rw [byt_len]; omega), rvL_nil]
            refine ev_some fun K => ?_
            simp only [impl_ReadVar.j1]
            rfl
    exact main 5 0 0 rfl (by decide)
  · rw [if_neg (fun h => h0 h.1)]
    refine Ev.step (f := fun K => impl_ReadVar.j1 K t a 0 0 false) (fun K => by simp only [impl_ReadVar.l0]; rw [if_pos (by omega), if_neg (by omega)]) (ev_some fun K => ?_)
    simp only [impl_ReadVar.j1]
    rfl
theorem natcast_map {V : List Int} (h : ∀ y ∈ V, 0 ≤ y) : (V.map Int.toNat).map (fun b : Nat => (b : Int)) = V := by
  induction V with
  | nil => rfl
  | cons y V ih =>
    have := h y List.mem_cons_self
    show ((y.toNat : Nat) : Int) :: (V.map Int.toNat).map (fun b : Nat => (b : Int)) = y :: V
    rw [ih fun z hz => h z (List.mem_cons_of_mem _ hz), show ((y.toNat : Nat) : Int) = y by omega]
theorem toNat_map : ∀ l : List Nat, (l.map fun b : Nat => (b : Int)).map Int.toNat = l
  | [] => rfl
  | y :: l => by
    show ((y : Nat) : Int).toNat :: (l.map fun b : Nat => (b : Int)).map Int.toNat = y :: l
    rw [toNat_map l, Int.toNat_natCast]
/-- What the reference holds a number's bytes against. -/
theorem sRV_key {t : ByteArray} {a k x : Nat} {pre : List Nat} (hl : pre.length = k) (es : (byt t).drop a = (pre ++ [x]) ++ (byt t).drop (a + (k + 1))) (hb : ∀ b ∈ pre, 128 ≤ b ∧ b < 256) (hx : x < 128) :
    (strOfNums (varL (valB (pre ++ [x])))).toList = (t.extract a (a + k + 1)).toList ↔ (pre = [] ∨ x ≠ 0) := by
  have seg : byt (t.extract a (a + k + 1)) = pre ++ [x] := by
    rw [byt_sub, es, show a + k + 1 - a = (pre ++ [x]).length by simp; omega, List.take_left]
  have vb := varL_byte (valB (pre ++ [x]))
  rw [toList_iff, seg, byt_str _ vb]
  constructor
  · intro h
    by_cases h0 : x = 0
    · left
      subst h0
      have e2 := congrArg (List.map fun b : Nat => (b : Int)) h
      rw [natcast_map fun y hy => (vb y hy).1] at e2
      rw [List.map_append] at e2
      exact List.map_eq_nil_iff.1 (canon2 _ _ e2)
    · exact .inr h0
  · intro h
    rw [canon1 pre hb hx h, toNat_map]
end Go.Proofs.Ytkbfmompapcekaa.Pu

/- Records read from bytes, as one function; the program's and the reference's ReadRecs tell them. -/
namespace Go.Proofs.Ytkbfmompapcekaa.Pu
set_option linter.unusedVariables false
set_option linter.unusedSimpArgs false
open Go.RowKit Go.Proofs.Ytkbfmompapcekaa.PK Go.Proofs.YtkbfmompapcekaaW.PrintWords

theorem rvL_range : ∀ (l : List Nat) (d k n : Nat) {m c : Nat}, rvL l d k n = some (m, c) → k + 1 ≤ c ∧ c ≤ k + l.length ∧ m ≤ 1000000000
  | l, 0, k, n, m, c, h => by rw [rvL_zero] at h; cases h
  | [], d + 1, k, n, m, c, h => by rw [rvL_nil] at h; cases h
  | x :: r, d + 1, k, n, m, c, h => by
    rw [rvL_cons] at h
    by_cases h1 : x ≥ 128
    · rw [if_pos h1] at h
      have := rvL_range r d (k + 1) _ h
      simp only [List.length_cons]
      omega
    · rw [if_neg h1] at h
      by_cases h2 : (x = 0 ∧ k > 0) ∨ n + x % 128 * 128 ^ k > 1000000000
      · rw [if_pos h2] at h; cases h
      · rw [if_neg h2] at h
        injection h with h
        injection h with h3 h4
        simp only [List.length_cons]
        omega
theorem rvB_range (t : ByteArray) (a : Int) : ((rvB t a).2.2 = false ∧ rvB t a = (0, 0, false)) ∨ ((rvB t a).2.2 = true ∧ 0 ≤ a ∧ a < (rvB t a).2.1 ∧ (rvB t a).2.1 ≤ (t.size : Int) ∧ 0 ≤ (rvB t a).1 ∧ (rvB t a).1 ≤ 1000000000) := by
  unfold rvB
  by_cases h : 0 ≤ a ∧ a ≤ (t.size : Int)
  · rw [if_pos h]
    cases e : rvL ((byt t).drop a.toNat) 5 0 0 with
    | none => exact .inl ⟨rfl, rfl⟩
    | some z =>
      obtain ⟨m, c⟩ := z
      have h1 := rvL_range _ _ _ _ e
      rw [List.length_drop, byt_len] at h1
      refine .inr ⟨rfl, ?_⟩
      show 0 ≤ a ∧ a < a + (c : Int) ∧ a + (c : Int) ≤ (t.size : Int) ∧ 0 ≤ (m : Int) ∧ (m : Int) ≤ 1000000000
      omega
  · rw [if_neg h]; exact .inl ⟨rfl, rfl⟩
def recAt (t : ByteArray) (i : Nat) : S48 := ⟨(((byt t).getD i 0 / 16 : Nat) : Int), (((byt t).getD i 0 % 16 : Nat) : Int), (rvB t ((i + 1 : Nat) : Int)).1, (rvB t (rvB t ((i + 1 : Nat) : Int)).2.1).1⟩
def recEnd (t : ByteArray) (i : Nat) : Int := (rvB t (rvB t ((i + 1 : Nat) : Int)).2.1).2.1
def recMay (t : ByteArray) (i : Nat) : Bool := (rvB t ((i + 1 : Nat) : Int)).2.2 && (rvB t (rvB t ((i + 1 : Nat) : Int)).2.1).2.2
def rrB (t : ByteArray) : Nat → Nat → List S48 → List S48 × Bool
  | 0, _, acc => (acc, true)
  | d + 1, i, acc => if i < t.size then (if (recMay t i && recOk (recAt t i).f0 (recAt t i).f1 (recAt t i).f2 (recAt t i).f3) = true then rrB t d (recEnd t i).toNat (acc ++ [recAt t i]) else ([], false)) else (acc, true)
theorem rrB_len (t : ByteArray) : ∀ (d i : Nat) (acc : List S48), (rrB t d i acc).1.length ≤ acc.length + d
  | 0, i, acc => Nat.le_refl _
  | d + 1, i, acc => by
    unfold rrB
    by_cases h : i < t.size
    · rw [if_pos h]
      by_cases h2 : (recMay t i && recOk (recAt t i).f0 (recAt t i).f1 (recAt t i).f2 (recAt t i).f3) = true
      · rw [if_pos h2]
        have := rrB_len t d (recEnd t i).toNat (acc ++ [recAt t i])
        simp only [List.length_append, List.length_cons, List.length_nil] at this
        omega
      · rw [if_neg h2]; exact Nat.zero_le _
    · rw [if_neg h]; show acc.length ≤ _; omega
theorem div16 {x : Nat} (h : x < 256) : wrap64 (Int.tdiv (wrap64 ((x : Nat) : Int)) 16) = ((x / 16 : Nat) : Int) ∧ Int.tmod (wrap64 ((x : Nat) : Int)) 16 = ((x % 16 : Nat) : Int) := by
  rw [w64 (x := ((x : Nat) : Int)) (by omega) (by omega), Int.tdiv_eq_ediv_of_nonneg (by omega), Int.tmod_eq_emod_of_nonneg (by omega), w64 (by omega) (by omega)]
  omega
theorem iReadRecs_ev (t : ByteArray) (hs : t.size ≤ 1048576) : Ev (fun k => impl_ReadRecs.f k t) (rrB t (t.size + 1) 0 []) := by
  unfold impl_ReadRecs.f
  have main : ∀ (d i : Nat) (acc : List S48), t.size < i + d → i ≤ t.size → acc.length ≤ i → Ev (fun K => impl_ReadRecs.l0 K t acc (i : Int)) (rrB t d i acc) := by
    intro d
    induction d with
    | zero => intro i acc h1 h2 _; omega
    | succ d ih =>
      intro i acc h1 h2 h3
      unfold rrB
      by_cases hi : i < t.size
      · rw [if_pos hi]
        have hx := byt_get_lt t i
        have eb := bt_byt t i
        obtain ⟨d1, d2⟩ := div16 hx
        have A := rvB_range t ((i + 1 : Nat) : Int)
        have C := rvB_range t (rvB t ((i + 1 : Nat) : Int)).2.1
        have ea := iReadVar_ev t ((i + 1 : Nat) : Int) (by omega) (by omega)
        have ec := iReadVar_ev t (rvB t ((i + 1 : Nat) : Int)).2.1 (by omega) (by
          rcases A with ⟨_, h⟩ | h
          · rw [h]; show (0 : Int) ≤ _; omega
          · omega)
        refine Ev.step (f := fun K => (impl_ReadVar.f K t ((i + 1 : Nat) : Int)).bind fun bt150 => (impl_ReadVar.f K t bt150.2.1).bind fun bt153 => if 0 ≤ (i : Int) then (if bt150.2.2 = true then (if bt153.2.2 = true then ((impl_RecOk.f K (((byt t).getD i 0 / 16 : Nat) : Int) (((byt t).getD i 0 % 16 : Nat) : Int) bt150.1 bt153.1).bind fun t157 => (if t157 = true then impl_ReadRecs.l0 K t (acc ++ [(⟨(((byt t).getD i 0 / 16 : Nat) : Int), (((byt t).getD i 0 % 16 : Nat) : Int), bt150.1, bt153.1⟩ : S48)]) bt153.2.1 else some ([], false))) else some ([], false)) else some ([], false)) else none) (fun K => ?_) (ev_bind ea (ev_bind ec ?_))
        · simp only [impl_ReadRecs.l0]
          rw [if_pos (by omega), wsucc (n := t.size) hi (by omega), eb, d1, d2]
          simp only [if_pos (show acc.length < 4398046511104 by omega)]
        · simp only [if_pos (show (0 : Int) ≤ (i : Int) by omega)]
          unfold recMay
          rcases A with ⟨h4, h5⟩ | ⟨h4, h5⟩
          · rw [h4]; exact Ev.now _
          · simp only [h4, if_true, Bool.true_and]
            rcases C with ⟨h6, h7⟩ | ⟨h6, h7⟩
            · rw [h6]; exact Ev.now _
            · simp only [h6, if_true, Bool.true_and]
              refine ev_bind (iRecOk_ev _ _ _ _) ?_
              show Ev (fun K => if recOk (recAt t i).f0 (recAt t i).f1 (recAt t i).f2 (recAt t i).f3 = true then impl_ReadRecs.l0 K t (acc ++ [recAt t i]) (recEnd t i) else some ([], false)) _
              by_cases h8 : recOk (recAt t i).f0 (recAt t i).f1 (recAt t i).f2 (recAt t i).f3 = true
              · simp only [if_pos h8]
                have h9 : recEnd t i = (((recEnd t i).toNat : Nat) : Int) := by unfold recEnd; omega
                rw [h9, Int.toNat_natCast]
                exact ih (recEnd t i).toNat (acc ++ [recAt t i]) (by unfold recEnd; omega) (by unfold recEnd; omega) (by simp only [List.length_append, List.length_cons, List.length_nil]; unfold recEnd; omega)
              · simp only [if_neg h8]; exact Ev.now _
      · rw [if_neg hi]
        exact ev_some fun K => by simp only [impl_ReadRecs.l0]; rw [if_neg (by omega)]
  exact main (t.size + 1) 0 [] (by omega) (by omega) (by simp)
end Go.Proofs.Ytkbfmompapcekaa.Pu

/- Records come back from their bytes; bytes that are records are the bytes of them. -/
namespace Go.Proofs.Ytkbfmompapcekaa.Pu
set_option linter.unusedVariables false
set_option linter.unusedSimpArgs false
open Go.RowKit Go.Proofs.Ytkbfmompapcekaa.PK Go.Proofs.YtkbfmompapcekaaW.PrintWords

def varN (n : Nat) : List Nat := (varL n).map Int.toNat
theorem varN_long {n : Nat} (h : n > 127) : varN n = (n % 128 + 128) :: varN (n / 128) := by
  unfold varN; rw [varL_long h]; rfl
theorem varN_short {n : Nat} (h : ¬ n > 127) : varN n = [n] := by
  unfold varN; rw [varL_short h]; rfl
theorem varN_len (n : Nat) : (varN n).length = (varL n).length := List.length_map _
/-- A number that was written is read. -/
theorem rv_var (m : Nat) : ∀ (d k n0 : Nat) (rest : List Nat), (varN m).length ≤ d → n0 + m * 128 ^ k ≤ 1000000000 → (k = 0 ∨ m ≠ 0) → rvL (varN m ++ rest) d k n0 = some (n0 + m * 128 ^ k, k + (varN m).length) := by
  induction m using Nat.strongRecOn with
  | _ m ih =>
    intro d k n0 rest hd hn h0
    by_cases hm : m > 127
    · rw [varN_long hm] at hd ⊢
      cases d with
      | zero => simp at hd
      | succ d =>
        simp only [List.length_cons] at hd
        rw [List.cons_append, rvL_cons, if_pos (by omega), show (m % 128 + 128) % 128 = m % 128 by omega]
        have e : m * 128 ^ k = m % 128 * 128 ^ k + m / 128 * 128 ^ (k + 1) := by
          have h1 : m = m % 128 + 128 * (m / 128) := by omega
          conv => lhs; rw [h1]
          rw [Nat.add_mul, Nat.pow_succ]
          congr 1
          rw [Nat.mul_comm 128, Nat.mul_assoc, Nat.mul_comm 128]
        rw [e] at hn
        rw [ih (m / 128) (by omega) d (k + 1) _ rest (by omega) (by omega) (.inr (by omega)), e]
        simp only [List.length_cons]
        congr 2 <;> omega
    · rw [varN_short hm] at hd ⊢
      cases d with
      | zero => simp at hd
      | succ d =>
        rw [List.cons_append, rvL_cons, if_neg (by omega), show m % 128 = m by omega, if_neg (by omega)]
        rfl
theorem read_var {t : ByteArray} {a n : Nat} {rest : List Nat} (h : (byt t).drop a = varN n ++ rest) (ha : a ≤ t.size) (hn : n ≤ 1000000000) : rvB t (a : Int) = ((n : Int), ((a + (varN n).length : Nat) : Int), true) := by
  unfold rvB
  rw [if_pos (by omega), Int.toNat_natCast, h, rv_var n 5 0 0 rest (by rw [varN_len]; exact (varL_len5 hn).1) (by simpa using hn) (.inl rfl)]
  show (((0 + n * 128 ^ 0 : Nat) : Int), (a : Int) + ((0 + (varN n).length : Nat) : Int), true) = _
  rw [show 0 + n * 128 ^ 0 = n by simp, show (a : Int) + ((0 + (varN n).length : Nat) : Int) = ((a + (varN n).length : Nat) : Int) by omega]
/-- What was read is what is written. -/
theorem rv_back : ∀ (l : List Nat) (d : Nat) (pre : List Nat) {m c : Nat}, rvL l d pre.length (valB pre) = some (m, c) → (∀ b ∈ pre, 128 ≤ b ∧ b < 256) → (∀ b ∈ l, b < 256) → varN m = pre ++ l.take (c - pre.length)
  | l, 0, pre, m, c, h, _, _ => by rw [rvL_zero] at h; cases h
  | [], d + 1, pre, m, c, h, _, _ => by rw [rvL_nil] at h; cases h
  | x :: r, d + 1, pre, m, c, h, hp, hl => by
    rw [rvL_cons, ← val_snoc] at h
    have hx := hl x List.mem_cons_self
    by_cases h1 : x ≥ 128
    · rw [if_pos h1] at h
      have hr := rvL_range _ _ _ _ h
      have h2 := rv_back r d (pre ++ [x]) (m := m) (c := c) (by rw [List.length_append]; exact h) (fun b hb => by
        rcases List.mem_append.1 hb with hb | hb
        · exact hp b hb
        · obtain rfl := List.mem_singleton.1 hb; exact ⟨h1, hx⟩) (fun b hb => hl b (List.mem_cons_of_mem _ hb))
      rw [h2, List.append_assoc, List.length_append, List.length_singleton]
      congr 1
      rw [show c - pre.length = (c - (pre.length + 1)) + 1 by omega, List.take_succ_cons]; rfl
    · rw [if_neg h1] at h
      by_cases h2 : (x = 0 ∧ pre.length > 0) ∨ valB (pre ++ [x]) > 1000000000
      · rw [if_pos h2] at h; cases h
      · rw [if_neg h2] at h
        injection h with h
        injection h with h3 h4
        subst h3; subst h4
        unfold varN
        rw [canon1 pre hp (by omega) (by
          cases pre with
          | nil => exact .inl rfl
          | cons b q => exact .inr fun h0 => h2 (.inl ⟨h0, by simp⟩)), toNat_map, Nat.add_sub_cancel_left, List.take_succ_cons, List.take_zero]
theorem var_back {t : ByteArray} {a : Nat} (ha : a ≤ t.size) (h : (rvB t (a : Int)).2.2 = true) : (byt t).drop a = varN (rvB t (a : Int)).1.toNat ++ (byt t).drop (rvB t (a : Int)).2.1.toNat := by
  unfold rvB at h ⊢
  rw [if_pos (by omega), Int.toNat_natCast] at h
  rw [if_pos (by omega), Int.toNat_natCast]
  cases e : rvL ((byt t).drop a) 5 0 0 with
  | none => rw [e] at h; cases h
  | some z =>
    obtain ⟨m, c⟩ := z
    have h2 := rv_back ((byt t).drop a) 5 [] e (fun b hb => by cases hb) (fun b hb => byt_lt t b (List.mem_of_mem_drop hb))
    show (byt t).drop a = varN ((m : Int)).toNat ++ (byt t).drop ((a : Int) + (c : Int)).toNat
    rw [Int.toNat_natCast, h2, show ((a : Int) + (c : Int)).toNat = a + c by omega, ← List.drop_drop]
    exact (List.take_append_drop c ((byt t).drop a)).symm

def recN (x : S48) : List Nat := (16 * x.f0 + x.f1).toNat :: (varN x.f2.toNat ++ varN x.f3.toNat)
def okR (x : S48) : Bool := recOk x.f0 x.f1 x.f2 x.f3
def recsN (l : List S48) : List Nat := (l.map recN).flatten
theorem byt_rec {x : S48} (h : okR x = true) : byt (recText x.f0 x.f1 x.f2 x.f3) = recN x := by
  obtain ⟨h1, h2, h3, h4, h5, h6, h7, h8⟩ := recOk_range h
  unfold recText recN varN
  rw [byt_app, byt_app, byt_str _ (varL_byte _), byt_str _ (varL_byte _), byt_str _ (fun y hy => by obtain rfl := List.mem_singleton.1 hy; omega), List.append_assoc]
  show ((16 * x.f0 + x.f1) % 256).toNat :: _ = _
  rw [show (16 * x.f0 + x.f1) % 256 = 16 * x.f0 + x.f1 by omega]; rfl
theorem recN_len (x : S48) : (recN x).length = 1 + (varN x.f2.toNat).length + (varN x.f3.toNat).length := by
  unfold recN; simp only [List.length_cons, List.length_append]; omega
theorem rec_read {t : ByteArray} {i : Nat} {x : S48} {rest : List Nat} (h : (byt t).drop i = recN x ++ rest) (hx : okR x = true) (hi : i < t.size) : recMay t i = true ∧ recAt t i = x ∧ recEnd t i = ((i + (recN x).length : Nat) : Int) := by
  obtain ⟨h1, h2, h3, h4, h5, h6, h7, h8⟩ := recOk_range hx
  have hl : ((byt t).drop i).length = t.size - i := by rw [List.length_drop, byt_len]
  have hl2 := congrArg List.length h
  rw [hl, List.length_append, recN_len] at hl2
  have hd := drop_byt hi
  rw [h] at hd
  unfold recN at hd
  rw [List.cons_append] at hd
  injection hd with h9 h10
  rw [List.append_assoc] at h10
  have ra := read_var (t := t) (a := i + 1) (n := x.f2.toNat) h10.symm (by omega) (by omega)
  have h11 : (byt t).drop (i + 1 + (varN x.f2.toNat).length) = varN x.f3.toNat ++ rest := by
    rw [← List.drop_drop, ← h10, List.drop_left]
  have rc := read_var (t := t) (a := i + 1 + (varN x.f2.toNat).length) (n := x.f3.toNat) h11 (by omega) (by omega)
  unfold recMay recAt recEnd
  rw [ra]
  simp only
  rw [rc]
  refine ⟨rfl, ?_, ?_⟩
  · rw [← h9]
    obtain ⟨t0, v0, a0, c0⟩ := x
    simp only at *
    congr 1 <;> omega
  · rw [recN_len]
    show ((_ : Nat) : Int) = ((_ : Nat) : Int)
    omega
theorem trip (t : ByteArray) : ∀ (L : List S48) (d i : Nat) (acc : List S48), (byt t).drop i = recsN L → (∀ x ∈ L, okR x = true) → t.size < i + d → i ≤ t.size → rrB t d i acc = (acc ++ L, true)
  | [], d, i, acc, h, _, hd, hi => by
    have h1 := congrArg List.length h
    rw [List.length_drop, byt_len] at h1
    have h2 : (recsN []).length = 0 := rfl
    rw [h2] at h1
    cases d with
    | zero => omega
    | succ d => unfold rrB; rw [if_neg (by omega), List.append_nil]
  | x :: L, d, i, acc, h, ho, hd, hi => by
    have hx := ho x List.mem_cons_self
    have e : recsN (x :: L) = recN x ++ recsN L := rfl
    rw [e] at h
    have hl := congrArg List.length h
    rw [List.length_drop, byt_len, List.length_append, recN_len] at hl
    obtain ⟨h1, h2, h3⟩ := rec_read h hx (by omega)
    cases d with
    | zero => omega
    | succ d =>
      unfold rrB
      rw [if_pos (by omega), h1, h2, Bool.true_and]
      have hx2 : recOk x.f0 x.f1 x.f2 x.f3 = true := hx
      rw [if_pos hx2, h3, Int.toNat_natCast, trip t L d (i + (recN x).length) (acc ++ [x]) (by rw [← List.drop_drop, h, List.drop_left]) (fun y hy => ho y (List.mem_cons_of_mem _ hy)) (by rw [recN_len]; omega) (by rw [recN_len]; omega), List.append_assoc]
      rfl
theorem back (t : ByteArray) : ∀ (d i : Nat) (acc : List S48), t.size < i + d → i ≤ t.size → (rrB t d i acc).2 = true → ∃ N, (rrB t d i acc).1 = acc ++ N ∧ (∀ x ∈ N, okR x = true) ∧ (byt t).drop i = recsN N
  | 0, i, acc, h1, h2, _ => by omega
  | d + 1, i, acc, h1, h2, h => by
    unfold rrB at h ⊢
    by_cases hi : i < t.size
    · rw [if_pos hi] at h ⊢
      by_cases hc : (recMay t i && recOk (recAt t i).f0 (recAt t i).f1 (recAt t i).f2 (recAt t i).f3) = true
      · rw [if_pos hc] at h ⊢
        rw [Bool.and_eq_true] at hc
        obtain ⟨hm, ho⟩ := hc
        unfold recMay at hm
        rw [Bool.and_eq_true] at hm
        have hx := byt_get_lt t i
        have A := rvB_range t ((i + 1 : Nat) : Int)
        have C := rvB_range t (rvB t ((i + 1 : Nat) : Int)).2.1
        rcases A with ⟨a1, _⟩ | ⟨a1, a2, a3, a4, a5, a6⟩
        · rw [a1] at hm; exact absurd hm.1 (by decide)
        rcases C with ⟨c1, _⟩ | ⟨c1, c2, c3, c4, c5, c6⟩
        · rw [c1] at hm; exact absurd hm.2 (by decide)
        have va := var_back (t := t) (a := i + 1) (by omega) hm.1
        have hn : (rvB t ((i + 1 : Nat) : Int)).2.1 = (((rvB t ((i + 1 : Nat) : Int)).2.1.toNat : Nat) : Int) := by omega
        have vc := var_back (t := t) (a := (rvB t ((i + 1 : Nat) : Int)).2.1.toNat) (by omega) (by rw [← hn]; exact hm.2)
        rw [← hn] at vc
        have e : (byt t).drop i = recN (recAt t i) ++ (byt t).drop (recEnd t i).toNat := by
          rw [drop_byt hi, va, vc]
          unfold recN recAt recEnd
          simp only [List.cons_append, List.append_assoc]
          congr 1
          omega
        obtain ⟨N, n1, n2, n3⟩ := back t d (recEnd t i).toNat (acc ++ [recAt t i]) (by unfold recEnd; omega) (by unfold recEnd; omega) h
        refine ⟨recAt t i :: N, by rw [n1, List.append_assoc]; rfl, fun y hy => ?_, by rw [e, n3]; rfl⟩
        rcases List.mem_cons.1 hy with rfl | hy
        · exact ho
        · exact n2 y hy
      · rw [if_neg hc] at h; cases h
    · rw [if_neg hi]
      exact ⟨[], (List.append_nil _).symm, fun x hx => (by cases hx), List.drop_eq_nil_of_le (by rw [byt_len]; omega)⟩
theorem rr_none (t : ByteArray) : ∀ (d i : Nat) (acc : List S48), (rrB t d i acc).2 = false → (rrB t d i acc).1 = []
  | 0, i, acc, h => by cases h
  | d + 1, i, acc, h => by
    unfold rrB at h ⊢
    by_cases hi : i < t.size
    · rw [if_pos hi] at h ⊢
      by_cases hc : (recMay t i && recOk (recAt t i).f0 (recAt t i).f1 (recAt t i).f2 (recAt t i).f3) = true
      · rw [if_pos hc] at h ⊢; exact rr_none t d _ _ h
      · rw [if_neg hc]
    · rw [if_neg hi] at h; cases h

/-- The bytes of records, one behind the other. -/
def recsT (acc : ByteArray) : List S48 → ByteArray
  | [] => acc
  | x :: l => recsT (acc ++ recText x.f0 x.f1 x.f2 x.f3) l
theorem byt_recs : ∀ (l : List S48) (acc : ByteArray), (∀ x ∈ l, okR x = true) → byt (recsT acc l) = byt acc ++ recsN l
  | [], acc, _ => (List.append_nil _).symm
  | x :: l, acc, h => by
    show byt (recsT (acc ++ recText x.f0 x.f1 x.f2 x.f3) l) = byt acc ++ (recN x ++ recsN l)
    rw [byt_recs l _ fun y hy => h y (List.mem_cons_of_mem _ hy), byt_app, byt_rec (h x List.mem_cons_self), List.append_assoc]
theorem rec_size {x : S48} (h : okR x = true) : (recText x.f0 x.f1 x.f2 x.f3).size ≤ 11 := by
  obtain ⟨h1, h2, h3, h4, h5, h6, h7, h8⟩ := recOk_range h
  rw [← byt_len, byt_rec h, recN_len, varN_len, varN_len]
  have s1 := varL_len5 (n := x.f2.toNat) (by omega)
  have s2 := varL_len5 (n := x.f3.toNat) (by omega)
  omega
theorem recsT_size : ∀ (l : List S48) (acc : ByteArray), (∀ x ∈ l, okR x = true) → (recsT acc l).size ≤ acc.size + 11 * l.length
  | [], acc, _ => Nat.le_refl _
  | x :: l, acc, h => by
    have h1 := recsT_size l (acc ++ recText x.f0 x.f1 x.f2 x.f3) fun y hy => h y (List.mem_cons_of_mem _ hy)
    have h2 := rec_size (h x List.mem_cons_self)
    rw [ByteArray.size_append] at h1
    show (recsT (acc ++ recText x.f0 x.f1 x.f2 x.f3) l).size ≤ _
    simp only [List.length_cons]
    omega
end Go.Proofs.Ytkbfmompapcekaa.Pu

/- The reference's draws of records, of their bytes, and of bytes that are spoilt. -/
namespace Go.Proofs.Ytkbfmompapcekaa.Pu
set_option linter.unusedVariables false
set_option linter.unusedSimpArgs false
open Go.RowKit Go.Proofs.Ytkbfmompapcekaa.PK Go.Proofs.YtkbfmompapcekaaW.PrintWords

theorem pick_eq (b : List Int) (i h : Int) (l : List Int) (h0 : 0 ≤ i) (h1 : i ≤ b.length) (hb : b.length ≤ 9223372036854775807) (hl : 1 ≤ l.length) : ∃ v i' h', spec_l01PickInt.f b i h l = some (v, i', h') ∧ v ∈ l ∧ 0 ≤ i' ∧ i' ≤ b.length := by
  obtain ⟨v, j, g, e, ⟨v0, v1⟩, a1, b1⟩ := below_eq b i h (l.length : Int) h0 h1 hb (by omega)
  unfold spec_l01PickInt.f
  rw [e, Option.bind_some, if_pos v0, if_pos v1]
  exact ⟨_, _, _, rfl, getD_mem' (by omega), a1, b1⟩
theorem once_eq (b : List Int) (i h n : Int) (h0 : 0 ≤ i) (h1 : i ≤ b.length) (hb : b.length ≤ 9223372036854775807) (hn : 0 < n) : ∃ v i' h', spec_l01Once.f b i h n = some (v, i', h') ∧ 0 ≤ i' ∧ i' ≤ b.length := by
  obtain ⟨v, j, g, e, _, a1, b1⟩ := below_eq b i h n h0 h1 hb hn
  unfold spec_l01Once.f
  rw [e, Option.bind_some]
  exact ⟨_, _, _, rfl, a1, b1⟩
theorem rec_draw (b : List Int) (i h : Int) (h0 : 0 ≤ i) (h1 : i ≤ b.length) (hb : b.length ≤ 9223372036854775807) : ∃ t v a c i' h', spec_l09Rec.f b i h = some (t, v, a, c, i', h') ∧ (recOk t v a c = true ∧ a ≤ 15 ∧ c ≤ 9) ∧ 0 ≤ i' ∧ i' ≤ b.length := by
  unfold spec_l09Rec.f
  obtain ⟨t, i1, g1, e1, t1, a1, b1⟩ := pick_eq b i h [2, 2, 3, 4, 4, 4, 4, 4, 5] h0 h1 hb (by decide)
  obtain ⟨v, i2, g2, e2, ⟨v0, v1⟩, a2, b2⟩ := below_eq b i1 g1 3 a1 b1 hb (by omega)
  rw [e1, Option.bind_some]
  simp only
  rw [e2, Option.bind_some]
  simp only
  have ht : t = 2 ∨ t = 3 ∨ t = 4 ∨ t = 5 := by simp at t1; omega
  rw [w64 (x := 1 + v) (by omega) (by omega)]
  by_cases k2 : t = 2
  · obtain ⟨x, i3, g3, e3, x1, a3, b3⟩ := pick_eq b i2 g2 [0, 0, 1, 2] a2 b2 hb (by decide)
    have hx : x = 0 ∨ x = 1 ∨ x = 2 := by simp at x1; omega
    rw [if_pos k2, e3]
    exact ⟨_, _, _, _, _, _, rfl, ⟨by unfold recOk; rw [decide_eq_true_eq]; omega, by omega, by omega⟩, a3, b3⟩
  · rw [if_neg k2]
    by_cases k4 : t = 4
    · obtain ⟨x, i3, g3, e3, ⟨x0, x1⟩, a3, b3⟩ := below_eq b i2 g2 16 a2 b2 hb (by omega)
      obtain ⟨y, i4, g4, e4, ⟨y0, y1⟩, a4, b4⟩ := below_eq b i3 g3 9 a3 b3 hb (by omega)
      rw [if_pos k4, e3, Option.bind_some]
      simp only
      rw [e4, Option.bind_some]
      simp only
      rw [w64 (x := 1 + y) (by omega) (by omega)]
      exact ⟨_, _, _, _, _, _, rfl, ⟨by unfold recOk; rw [decide_eq_true_eq]; omega, by omega, by omega⟩, a4, b4⟩
    · rw [if_neg k4]
      by_cases k5 : t = 5
      · obtain ⟨x, i3, g3, e3, ⟨x0, x1⟩, a3, b3⟩ := below_eq b i2 g2 16 a2 b2 hb (by omega)
        rw [if_pos k5, e3]
        exact ⟨_, _, _, _, _, _, rfl, ⟨by unfold recOk; rw [decide_eq_true_eq]; omega, by omega, by omega⟩, a3, b3⟩
      · rw [if_neg k5]
        exact ⟨_, _, _, _, _, _, rfl, ⟨by unfold recOk; rw [decide_eq_true_eq]; omega, by omega, by omega⟩, a2, b2⟩
theorem recs_draw (b : List Int) (i h : Int) (h0 : 0 ≤ i) (h1 : i ≤ b.length) (hb : b.length ≤ 9223372036854775807) : ∃ L i' h', Ev (fun k => spec_l09Recs.f k b i h) (L, i', h') ∧ (∀ x ∈ L, okR x = true ∧ x.f2 ≤ 15 ∧ x.f3 ≤ 9) ∧ L.length ≤ 8 ∧ 0 ≤ i' ∧ i' ≤ b.length := by
  unfold spec_l09Recs.f
  have main : ∀ (d m : Nat) (acc : List S48) (j g : Int), m + d = 8 → acc.length = m → (∀ x ∈ acc, okR x = true ∧ x.f2 ≤ 15 ∧ x.f3 ≤ 9) → 0 ≤ j → j ≤ b.length → ∃ L i' h', Ev (fun k => spec_l09Recs.l0 k acc (m : Int) b j g) (L, i', h') ∧ (∀ x ∈ L, okR x = true ∧ x.f2 ≤ 15 ∧ x.f3 ≤ 9) ∧ L.length ≤ 8 ∧ 0 ≤ i' ∧ i' ≤ b.length := by
    intro d
    induction d with
    | zero =>
      intro m acc j g hm hl ha hj0 hj1
      obtain ⟨v, j2, g2, e2, ⟨v0, v1⟩, a2, b2⟩ := below_eq b j g 9 hj0 hj1 hb (by omega)
      refine ⟨acc, j2, g2, ev_some fun k => ?_, ha, by omega, a2, b2⟩
      simp only [spec_l09Recs.l0, e2, Option.bind_some]
      rw [if_neg (by omega)]
    | succ d ih =>
      intro m acc j g hm hl ha hj0 hj1
      obtain ⟨v, j2, g2, e2, ⟨v0, v1⟩, a2, b2⟩ := below_eq b j g 9 hj0 hj1 hb (by omega)
      by_cases hv : (m : Int) < v
      · obtain ⟨t, x, a, c, j3, g3, e3, ok, a3, b3⟩ := rec_draw b j2 g2 a2 b2 hb
        obtain ⟨L, i', h', l1, l2, l3, l4, l5⟩ := ih (m + 1) (acc ++ [⟨t, x, a, c⟩]) j3 g3 (by omega) (by simp; omega) (fun y hy => by
          rcases List.mem_append.1 hy with hy | hy
          · exact ha y hy
          · obtain rfl := List.mem_singleton.1 hy; exact ok) a3 b3
        refine ⟨L, i', h', Ev.step (fun k => ?_) l1, l2, l3, l4, l5⟩
        simp only [spec_l09Recs.l0, e2, e3, Option.bind_some]
        rw [if_pos hv, if_pos (by omega), wsucc (n := 8) (by omega) (by omega)]
      · refine ⟨acc, j2, g2, ev_some fun k => ?_, ha, by omega, a2, b2⟩
        simp only [spec_l09Recs.l0, e2, Option.bind_some]
        rw [if_neg hv]
  exact main 8 0 [] i h rfl rfl (fun x hx => by cases hx) h0 h1
theorem many_draw (b : List Int) (hb : b.length ≤ 9223372036854775807) : ∃ L, Ev (fun k => spec_DrawManyRecords.f k b) L ∧ (∀ x ∈ L, okR x = true ∧ x.f2 ≤ 15 ∧ x.f3 ≤ 300) ∧ L.length ≤ 120 := by
  unfold spec_DrawManyRecords.f
  obtain ⟨g0, hnew⟩ := new_ev b hb
  obtain ⟨L, i1, g1, l1, l2, l3, a1, b1⟩ := recs_draw b 0 g0 (by omega) (by omega) hb
  obtain ⟨v, i2, g2, e2, a2, b2⟩ := once_eq b i1 g1 2 a1 b1 hb (by omega)
  have hL : ∀ x ∈ L, okR x = true ∧ x.f2 ≤ 15 ∧ x.f3 ≤ 300 := fun x hx => ⟨(l2 x hx).1, (l2 x hx).2.1, by have := (l2 x hx).2.2; omega⟩
  cases v with
  | false =>
    refine ⟨L, ev_bind hnew (ev_bind l1 ?_), hL, by omega⟩
    simp only [e2, Option.bind_some, Bool.false_eq_true, if_false]
    exact Ev.now _
  | true =>
    have main : ∀ (d : Nat) (acc : List S48) (j g : Int), acc.length + d = 120 → (∀ x ∈ acc, okR x = true ∧ x.f2 ≤ 15 ∧ x.f3 ≤ 300) → 0 ≤ j → j ≤ b.length → ∃ L', Ev (fun k => spec_DrawManyRecords.l0 k acc b j g) L' ∧ (∀ x ∈ L', okR x = true ∧ x.f2 ≤ 15 ∧ x.f3 ≤ 300) ∧ L'.length ≤ 120 := by
      intro d
      induction d with
      | zero =>
        intro acc j g hl ha hj0 hj1
        obtain ⟨x, j2, g3, e3, ⟨x0, x1⟩, _⟩ := below_eq b j g 90 hj0 hj1 hb (by omega)
        refine ⟨acc, ev_some fun k => ?_, ha, by omega⟩
        simp only [spec_DrawManyRecords.l0, e3, Option.bind_some]
        rw [w64 (x := 30 + x) (by omega) (by omega), if_neg (by omega)]
      | succ d ih =>
        intro acc j g hl ha hj0 hj1
        obtain ⟨x, j2, g3, e3, ⟨x0, x1⟩, a3, b3⟩ := below_eq b j g 90 hj0 hj1 hb (by omega)
        by_cases hx : (acc.length : Int) < 30 + x
        · obtain ⟨L', m1, m2, m3⟩ := ih (acc ++ [⟨4, 1 + ((acc.length : Int) % 3), (acc.length : Int) % 16, 100 + (acc.length : Int)⟩]) j2 g3 (by simp; omega) (fun y hy => by
            rcases List.mem_append.1 hy with hy | hy
            · exact ha y hy
            · obtain rfl := List.mem_singleton.1 hy
              refine ⟨?_, by show (acc.length : Int) % 16 ≤ 15; omega, by show 100 + (acc.length : Int) ≤ 300; omega⟩
              show recOk 4 (1 + ((acc.length : Int) % 3)) ((acc.length : Int) % 16) (100 + (acc.length : Int)) = true
              unfold recOk
              rw [decide_eq_true_eq]
              omega) a3 b3
          refine ⟨L', Ev.step (fun k => ?_) m1, m2, m3⟩
          simp only [spec_DrawManyRecords.l0, e3, Option.bind_some]
          rw [w64 (x := 30 + x) (by omega) (by omega), if_pos hx, if_pos (by omega), w64 (x := 100 + (acc.length : Int)) (by omega) (by omega)]
        · refine ⟨acc, ev_some fun k => ?_, ha, by omega⟩
          simp only [spec_DrawManyRecords.l0, e3, Option.bind_some]
          rw [w64 (x := 30 + x) (by omega) (by omega), if_neg hx]
    obtain ⟨L', m1, m2, m3⟩ := main (120 - L.length) L i2 g2 (by omega) hL a2 b2
    refine ⟨L', ev_bind hnew (ev_bind l1 ?_), m2, m3⟩
    simp only [e2, Option.bind_some, if_true]
    exact m1
end Go.Proofs.Ytkbfmompapcekaa.Pu

/- The pages of a transaction, of the own functions; many drawn records. -/
namespace Go.Proofs.Ytkbfmompapcekaa.M2.Mp
set_option linter.unusedVariables false
set_option linter.unusedSimpArgs false
open Go.RowKit Go.Proofs.Ytkbfmompapcekaa.PK Go.Proofs.YtkbfmompapcekaaW.PrintWords Go.Proofs.Ytkbfmompapcekaa.Pu

theorem iRecTextX (t v a c : Int) : EvX (fun k => impl_RecText.f k t v a c) (fun r => r = recTextR t v a c) :=
  ⟨_, ev_rel (iRecText_ev t v a c) (fun k r hh m hm => impl_RecText.rel k t v a c r hh m hm), rfl⟩
theorem sRecTextX (t v a c : Int) : EvX (fun k => spec_RecText.f k t v a c) (fun r => r = recTextR t v a c) :=
  ⟨_, ev_rel (sRecText_ev t v a c) (fun k r hh m hm => spec_RecText.rel k t v a c r hh m hm), rfl⟩
theorem page_is (s x : Int) (ts : List ByteArray) (i : Nat) : S33.mk 2 (M2.w64 (s + (i : Int))) x (i : Int) (ts.length : Int) (rd_T9 ts (i : Int)) = pageB s x ts i := by
  rw [w64_eq]; rfl
theorem iTx1X (s x : Int) (ts : List ByteArray) (hl : ts.length ≤ 9) : ∀ (d i : Nat) (acc : List S33), i + d = ts.length → acc.length = i → EvX (fun k => impl_TxPages.c19 k s x (ts.length : Int) (ts.length : Int) (i : Int) acc ts) (fun r => r = (acc ++ (List.range' i d).map (pageB s x ts), true)) := by
  intro d
  induction d with
  | zero =>
    intro i acc hi ha
    refine evx_step (fun k => by rw [impl_TxPages.c19]) ?_
    exact evx_neg (by omega) (evx_some (by simp))
  | succ d ih =>
    intro i acc hi ha
    refine evx_step (fun k => by rw [impl_TxPages.c19]) ?_
    refine evx_pos (by omega) (evx_pos (by omega) (evx_pos (by omega) (evx_pos (by show acc.length + 1 ≤ 2513169434916; omega) ?_)))
    rw [m64 (i := i) (n := ts.length) (by omega) (by omega), page_is]
    refine evx_mono (ih (i + 1) (acc ++ [pageB s x ts i]) (by omega) (by simp; omega)) fun r hr => ?_
    rw [hr, List.range'_succ, List.map_cons, List.append_assoc]; rfl
theorem sTx1X (s x : Int) (ts : List ByteArray) (hl : ts.length ≤ 9) : ∀ (d i : Nat) (acc : List S33), i + d = ts.length → acc.length = i → EvX (fun k => spec_TxPages.c17 k s x (i : Int) ts acc) (fun r => r = (acc ++ (List.range' i d).map (pageB s x ts), true)) := by
  intro d
  induction d with
  | zero =>
    intro i acc hi ha
    refine evx_step (fun k => by rw [spec_TxPages.c17]) ?_
    exact evx_neg (by omega) (evx_some (by simp))
  | succ d ih =>
    intro i acc hi ha
    refine evx_step (fun k => by rw [spec_TxPages.c17]) ?_
    refine evx_pos (by omega) (evx_pos (by omega) (evx_pos (by omega) (evx_pos (by show acc.length + 1 ≤ 2513169434916; omega) ?_)))
    rw [m64 (i := i) (n := ts.length) (by omega) (by omega), page_is]
    refine evx_mono (ih (i + 1) (acc ++ [pageB s x ts i]) (by omega) (by simp; omega)) fun r hr => ?_
    rw [hr, List.range'_succ, List.map_cons, List.append_assoc]; rfl
theorem last_is (ts : List ByteArray) (h0 : 0 < ts.length) (hl : ts.length ≤ 9223372036854775807) : rd_T9 ts (M2.w64 ((ts.length : Int) - 1)) = lastT ts ∧ M2.w64 ((ts.length : Int) - 1) = ((ts.length - 1 : Nat) : Int) := by
  have e : M2.w64 ((ts.length : Int) - 1) = ((ts.length - 1 : Nat) : Int) := by rw [m64i (by omega) (by omega)]; omega
  rw [e]
  exact ⟨rfl, rfl⟩
theorem iTxX (s x : Int) (recs : List S48) (hr : recs.length ≤ 1048576) : EvX (fun k => impl_TxPages.f k s x recs) (fun r => r = txFin s x (txs recs [⟨#[]⟩])) := by
  have main : ∀ (d i : Nat) (ts : List ByteArray), i + d = recs.length → 0 < ts.length → ts.length ≤ 1 + i → (lastT ts).size ≤ 90 → EvX (fun k => impl_TxPages.c3 k s x recs (recs.length : Int) (i : Int) ts) (fun r => r = txFin s x (txs (recs.drop i) ts)) := by
    intro d
    induction d with
    | zero =>
      intro i ts hi h0 hl hs
      rw [List.drop_eq_nil_of_le (by omega)]
      refine evx_step (fun k => by rw [impl_TxPages.c3]) (evx_neg (by omega) ?_)
      unfold txs txFin
      by_cases h : (ts.length : Int) > 9
      · simp only [if_pos h]; exact evx_some rfl
      · simp only [if_neg h]
        refine evx_bind (inX s 1 _) fun t ht => ?_
        subst ht
        rw [w64_eq, w64_eq]
        by_cases h2 : 1 ≤ s ∧ s ≤ wrap64 (wrap64 (1000000000 - (ts.length : Int)) + 1)
        · rw [decide_eq_true h2]
          simp only [if_pos h2, if_true]
          refine evx_bind (inX x 1 _) fun t ht => ?_
          subst ht
          by_cases h3 : 1 ≤ x ∧ x ≤ 1000000000
          · rw [decide_eq_true h3]
            simp only [if_pos h3, if_true]
            exact iTx1X s x ts (by omega) ts.length 0 [] (by omega) rfl
          · rw [decide_eq_false h3]
            simp only [if_neg h3, Bool.false_eq_true, if_false]
            exact evx_some rfl
        · rw [decide_eq_false h2]
          simp only [if_neg h2, Bool.false_eq_true, if_false]
          exact evx_some rfl
    | succ d ih =>
      intro i ts hi h0 hl hs
      have hil : i < recs.length := by omega
      rw [dropT z48 hil]
      have hR : rd_T48 recs (i : Int) = recs.getD i z48 := rfl
      refine evx_step (fun k => by rw [impl_TxPages.c3]) (evx_pos (by omega) (evx_pos (by omega) (evx_pos (by omega) ?_)))
      rw [hR]
      generalize recs.getD i z48 = r
      refine evx_bind (iRecTextX r.f0 r.f1 r.f2 r.f3) fun t1 ht => ?_
      subst ht
      unfold txs recTextR
      by_cases h : recOk r.f0 r.f1 r.f2 r.f3 = true
      · simp only [if_pos h, if_true]
        have hz := recText_size h
        have hih := ih (i + 1) (txF ts (recText r.f0 r.f1 r.f2 r.f3)) (by omega) (txF_last h0 hz).2.1 (by have := (txF_last (t := recText r.f0 r.f1 r.f2 r.f3) h0 hz).2.2; omega) (txF_last h0 hz).1
        revert hih hz
        generalize recText r.f0 r.f1 r.f2 r.f3 = t
        intro hz hih
        obtain ⟨e1, e2⟩ := last_is ts h0 (by omega)
        rw [e1, e2, m64 (i := i) (n := recs.length) hil (by omega)]
        refine evx_pos (by omega) (evx_pos (by omega) ?_)
        rw [m64i (x := ((lastT ts).size : Int) + (t.size : Int)) (by omega) (by omega), m64i (x := ((ts.length - 1 : Nat) : Int) + 1) (by omega) (by omega), show ((ts.length - 1 : Nat) : Int) + 1 = (ts.length : Int) by omega]
        unfold txF at hih ⊢
        refine evx_ite (fun h6 => ?_) (fun h6 => ?_)
        · simp only [if_pos h6] at hih ⊢
          have e4 : rd_T9 (ts ++ [(⟨#[]⟩ : ByteArray)]) (ts.length : Int) = ⟨#[]⟩ := by
            show (ts ++ [(⟨#[]⟩ : ByteArray)]).getD ts.length ByteArray.empty = _
            rw [List.getD_eq_getElem?_getD, List.getElem?_append_right (Nat.le_refl _), Nat.sub_self]; rfl
          have e5 : (ts ++ [(⟨#[]⟩ : ByteArray)]).set ts.length t = ts ++ [t] := by
            rw [List.set_append_right _ _ (Nat.le_refl _), Nat.sub_self]; rfl
          rw [e4, Int.toNat_natCast, empty_app, e5]
          refine evx_pos (by show ts.length + 1 ≤ 8796093022208; omega) (evx_pos (by omega) (evx_pos (by simp; omega) (evx_pos (by show 0 + t.size ≤ 9223372036854775807; omega) (evx_pos (by omega) (evx_pos (by simp; omega) hih)))))
        · simp only [if_neg h6] at hih ⊢
          rw [Int.toNat_natCast]
          exact evx_pos (by omega) (evx_pos (by omega) (evx_pos (by omega) (evx_pos (by omega) (evx_pos (by omega) hih))))
      · simp only [if_neg h, Bool.false_eq_true, if_false]
        exact evx_some rfl
  simp only [impl_TxPages.f]
  exact main recs.length 0 [⟨#[]⟩] (by omega) (by simp) (by simp) (by show (⟨#[]⟩ : ByteArray).size ≤ 90; decide)
theorem sTxX (s x : Int) (recs : List S48) (hr : recs.length ≤ 1048576) : EvX (fun k => spec_TxPages.f k s x recs) (fun r => r = txFin s x (txs recs [⟨#[]⟩])) := by
  have main : ∀ (d i : Nat) (ts : List ByteArray), i + d = recs.length → 0 < ts.length → ts.length ≤ 1 + i → (lastT ts).size ≤ 90 → EvX (fun k => spec_TxPages.c4 k s x recs (i : Int) [] ts) (fun r => r = txFin s x (txs (recs.drop i) ts)) := by
    intro d
    induction d with
    | zero =>
      intro i ts hi h0 hl hs
      rw [List.drop_eq_nil_of_le (by omega)]
      refine evx_step (fun k => by rw [spec_TxPages.c4]) (evx_neg (by omega) ?_)
      unfold txs txFin
      by_cases h : (ts.length : Int) > 9
      · simp only [if_pos h]; exact evx_some rfl
      · simp only [if_neg h]
        refine evx_bind (l01InX s 1 _) fun t ht => ?_
        subst ht
        rw [w64_eq, w64_eq]
        by_cases h2 : 1 ≤ s ∧ s ≤ wrap64 (wrap64 (1000000000 - (ts.length : Int)) + 1)
        · rw [decide_eq_true h2]
          simp only [if_pos h2, if_true]
          refine evx_bind (l01InX x 1 _) fun t ht => ?_
          subst ht
          by_cases h3 : 1 ≤ x ∧ x ≤ 1000000000
          · rw [decide_eq_true h3]
            simp only [if_pos h3, if_true]
            exact sTx1X s x ts (by omega) ts.length 0 [] (by omega) rfl
          · rw [decide_eq_false h3]
            simp only [if_neg h3, Bool.false_eq_true, if_false]
            exact evx_some rfl
        · rw [decide_eq_false h2]
          simp only [if_neg h2, Bool.false_eq_true, if_false]
          exact evx_some rfl
    | succ d ih =>
      intro i ts hi h0 hl hs
      have hil : i < recs.length := by omega
      rw [dropT z48 hil]
      have hR : rd_T48 recs (i : Int) = recs.getD i z48 := rfl
      refine evx_step (fun k => by rw [spec_TxPages.c4]) (evx_pos (by omega) (evx_pos (by omega) (evx_pos (by omega) ?_)))
      rw [hR]
      generalize recs.getD i z48 = r
      refine evx_bind (sRecTextX r.f0 r.f1 r.f2 r.f3) fun t1 ht => ?_
      subst ht
      unfold txs recTextR
      by_cases h : recOk r.f0 r.f1 r.f2 r.f3 = true
      · simp only [if_pos h, if_true]
        have hz := recText_size h
        have hih := ih (i + 1) (txF ts (recText r.f0 r.f1 r.f2 r.f3)) (by omega) (txF_last h0 hz).2.1 (by have := (txF_last (t := recText r.f0 r.f1 r.f2 r.f3) h0 hz).2.2; omega) (txF_last h0 hz).1
        revert hih hz
        generalize recText r.f0 r.f1 r.f2 r.f3 = t
        intro hz hih
        obtain ⟨e1, e2⟩ := last_is ts h0 (by omega)
        rw [e1, e2, m64 (i := i) (n := recs.length) hil (by omega)]
        refine evx_pos (by omega) (evx_pos (by omega) ?_)
        rw [m64i (x := ((lastT ts).size : Int) + (t.size : Int)) (by omega) (by omega)]
        unfold txF at hih ⊢
        refine evx_ite (fun h6 => ?_) (fun h6 => ?_)
        · simp only [if_pos h6] at hih ⊢
          exact evx_pos (by show ts.length + 1 ≤ 8796093022208; omega) hih
        · simp only [if_neg h6] at hih ⊢
          rw [Int.toNat_natCast]
          exact evx_pos (by omega) (evx_pos (by omega) (evx_pos (by omega) (evx_pos (by omega) (evx_pos (by omega) hih))))
      · simp only [if_neg h, Bool.false_eq_true, if_false]
        exact evx_some rfl
  simp only [spec_TxPages.f]
  exact main recs.length 0 [⟨#[]⟩] (by omega) (by simp) (by simp) (by show (⟨#[]⟩ : ByteArray).size ≤ 90; decide)
theorem manyX (b : List Int) (hb : Cb b) : EvX (fun k => spec_DrawManyRecords.f k b) (fun L => (∀ x ∈ L, okR x = true ∧ x.f2 ≤ 15 ∧ x.f3 ≤ 300) ∧ L.length ≤ 120) := by
  have main : ∀ (d : Nat) (acc : List S48) (j g : Int), acc.length + d = 120 → (∀ x ∈ acc, okR x = true ∧ x.f2 ≤ 15 ∧ x.f3 ≤ 300) → Cur b j → EvX (fun k => spec_DrawManyRecords.c4 k b j g acc) (fun L => (∀ x ∈ L, okR x = true ∧ x.f2 ≤ 15 ∧ x.f3 ≤ 300) ∧ L.length ≤ 120) := by
    intro d
    induction d with
    | zero =>
      intro acc j g hl ha hc
      refine evx_step (fun k => by rw [spec_DrawManyRecords.c4]) (evx_bind (belowX 90 b j g (by omega) hc hb) fun t ht => ?_)
      rw [m64i (x := 30 + t.1) (by omega) (by omega)]
      exact evx_neg (by omega) (evx_some ⟨ha, by omega⟩)
    | succ d ih =>
      intro acc j g hl ha hc
      refine evx_step (fun k => by rw [spec_DrawManyRecords.c4]) (evx_bind (belowX 90 b j g (by omega) hc hb) fun t ht => ?_)
      obtain ⟨t1, t2, t3⟩ := ht
      rw [t2, m64i (x := 30 + t.1) (by omega) (by omega), tmodN, tmodN, m64i (x := 1 + (acc.length : Int) % 3) (by omega) (by omega), m64i (x := 100 + (acc.length : Int)) (by omega) (by omega)]
      refine evx_ite (fun h => evx_pos (by show acc.length + 1 ≤ 4398046511104; omega) (ih _ _ _ (by simp; omega) (fun y hy => ?_) t3)) (fun h => evx_some ⟨ha, by omega⟩)
      rcases List.mem_append.1 hy with hy | hy
      · exact ha y hy
      · obtain rfl := List.mem_singleton.1 hy
        refine ⟨?_, by show (acc.length : Int) % 16 ≤ 15; omega, by show 100 + (acc.length : Int) ≤ 300; omega⟩
        show recOk 4 (1 + ((acc.length : Int) % 3)) ((acc.length : Int) % 16) (100 + (acc.length : Int)) = true
        unfold recOk
        rw [decide_eq_true_eq]
        omega
  simp only [spec_DrawManyRecords.f]
  refine evx_bind (newX b hb) fun t1 ⟨h1, h2⟩ => ?_
  rw [h1]
  obtain ⟨L, i1, g1, l1, l2, l3, a1, b1⟩ := recs_draw b t1.2.1 t1.2.2 h2.1 h2.2 hb
  refine evx_bind (Q := fun t => t = (L, b, i1, g1)) ⟨_, ev_rel l1 (fun k r hh m hm => spec_l09Recs.rel k b t1.2.1 t1.2.2 r hh m hm), rfl⟩ fun t2 e2 => ?_
  subst e2
  have hL : ∀ x ∈ L, okR x = true ∧ x.f2 ≤ 15 ∧ x.f3 ≤ 300 := fun x hx => ⟨(l2 x hx).1, (l2 x hx).2.1, by have := (l2 x hx).2.2; omega⟩
  refine evx_bind (onceX 2 b i1 g1 (by omega) ⟨a1, b1⟩ hb) fun t3 ⟨h3, h4⟩ => ?_
  rw [h3]
  exact evx_ite (fun _ => main (120 - L.length) L _ _ (by show L.length + (120 - L.length) = 120; omega) hL h4) (fun _ => evx_some ⟨hL, by show L.length ≤ 120; omega⟩)
end Go.Proofs.Ytkbfmompapcekaa.M2.Mp

/- Ascending lists of numbers. -/
namespace Go.Proofs.Ytkbfmompapcekaa.Pu
set_option linter.unusedVariables false
set_option linter.unusedSimpArgs false
open Go.RowKit Go.Proofs.Ytkbfmompapcekaa.PK Go.Proofs.YtkbfmompapcekaaW.PrintWords

def sortB (l : List Int) : List Int := l.mergeSort fun x y => decide (x ≤ y)
/-- A number put into an ascending list. -/
def insB (s : List Int) (x : Int) : List Int := (s.filter fun y => decide (y < x)) ++ [x] ++ s.filter fun y => decide (y > x)
def Asc (l : List Int) : Prop := l.Pairwise (· < ·)
theorem ins_asc {s : List Int} (x : Int) (h : Asc s) : Asc (insB s x) := by
  unfold Asc insB
  rw [List.append_assoc, List.pairwise_append]
  refine ⟨List.Pairwise.filter _ h, ?_, ?_⟩
  · rw [List.singleton_append, List.pairwise_cons]
    exact ⟨fun y hy => by have := (List.mem_filter.1 hy).2; simpa using this, List.Pairwise.filter _ h⟩
  · intro a ha b hb
    have h1 : a < x := by have := (List.mem_filter.1 ha).2; simpa using this
    rcases List.mem_cons.1 hb with rfl | hb
    · exact h1
    · have h2 : b > x := by have := (List.mem_filter.1 hb).2; simpa using this
      omega
theorem ins_mem {s : List Int} {x y : Int} : y ∈ insB s x ↔ y ∈ s ∨ y = x := by
  unfold insB
  simp only [List.mem_append, List.mem_filter, List.mem_singleton, decide_eq_true_eq]
  constructor
  · rintro ((⟨h, _⟩ | h) | ⟨h, _⟩)
    · exact .inl h
    · exact .inr h
    · exact .inl h
  · rintro (h | h)
    · rcases Int.lt_trichotomy y x with h2 | h2 | h2
      · exact .inl (.inl ⟨h, h2⟩)
      · exact .inl (.inr h2)
      · exact .inr ⟨h, h2⟩
    · exact .inl (.inr h)
theorem ins_len {s : List Int} (x : Int) : (insB s x).length ≤ s.length * 2 + 1 := by
  unfold insB
  have h1 := List.length_filter_le (fun y => decide (y < x)) s
  have h2 := List.length_filter_le (fun y => decide (y > x)) s
  simp only [List.length_append, List.length_singleton]
  omega
theorem asc_len : ∀ {s : List Int} {m : List Int}, Asc s → (∀ y ∈ s, y ∈ m) → s.length ≤ m.length
  | [], _, _, _ => Nat.zero_le _
  | x :: s, m, h, hm => by
    obtain ⟨h1, h2⟩ := List.pairwise_cons.1 h
    have hx := hm x List.mem_cons_self
    have := asc_len (s := s) (m := m.erase x) h2 fun y hy => (List.mem_erase_of_ne (by have := h1 y hy; omega)).2 (hm y (List.mem_cons_of_mem _ hy))
    rw [List.length_erase_of_mem hx] at this
    have hp := List.length_pos_of_mem hx
    simp only [List.length_cons]
    omega
/-- Ascending lists of the same numbers are one. -/
theorem asc_eq : ∀ {s t : List Int}, Asc s → Asc t → (∀ y, y ∈ s ↔ y ∈ t) → s = t
  | [], [], _, _, _ => rfl
  | [], y :: t, _, _, h => by have := (h y).2 List.mem_cons_self; cases this
  | x :: s, [], _, _, h => by have := (h x).1 List.mem_cons_self; cases this
  | x :: s, y :: t, hs, ht, h => by
    obtain ⟨s1, s2⟩ := List.pairwise_cons.1 hs
    obtain ⟨t1, t2⟩ := List.pairwise_cons.1 ht
    have e : x = y := by
      have h1 := (h x).1 List.mem_cons_self
      have h2 := (h y).2 List.mem_cons_self
      rcases List.mem_cons.1 h1 with h1 | h1
      · exact h1
      · rcases List.mem_cons.1 h2 with h2 | h2
        · exact h2.symm
        · have := t1 x h1; have := s1 y h2; omega
    subst e
    rw [asc_eq s2 t2 fun z => by
      constructor
      · intro hz
        rcases List.mem_cons.1 ((h z).1 (List.mem_cons_of_mem _ hz)) with rfl | h3
        · have := s1 z hz; omega
        · exact h3
      · intro hz
        rcases List.mem_cons.1 ((h z).2 (List.mem_cons_of_mem _ hz)) with rfl | h3
        · have := t1 z hz; omega
        · exact h3]
theorem sort_asc {l : List Int} (h : l.Nodup) : Asc (sortB l) := by
  have hs : (sortB l).Pairwise fun a b => decide (a ≤ b) = true := List.pairwise_mergeSort (le := fun x y : Int => decide (x ≤ y)) (fun a b c h1 h2 => by simp at *; omega) (fun a b => by simp; omega) l
  have hn : (sortB l).Nodup := (List.mergeSort_perm l _).nodup_iff.2 h
  unfold Asc
  refine (List.Pairwise.and hs hn).imp fun ⟨h1, h2⟩ => ?_
  have h1 : _ ≤ _ := of_decide_eq_true h1
  have h2 : _ ≠ _ := h2
  omega
end Go.Proofs.Ytkbfmompapcekaa.Pu

/- What is gathered of pages, as one function; the program's Gather tells it. -/
namespace Go.Proofs.Ytkbfmompapcekaa.Pu
set_option linter.unusedVariables false
set_option linter.unusedSimpArgs false
open Go.RowKit Go.Proofs.Ytkbfmompapcekaa.PK Go.Proofs.YtkbfmompapcekaaW.PrintWords

theorem rdIF_nat (l : List S36) (i : Nat) : rd_T36 l (i : Int) = l.getD i z36 := rfl
theorem dropG {α : Type} {l : List α} {i : Nat} (z : α) (h : i < l.length) : l.drop i = l.getD i z :: l.drop (i + 1) := by
  rw [List.drop_eq_getElem_cons h, List.getD_eq_getElem?_getD, List.getElem?_eq_getElem h]; rfl
theorem memG_cons_ne {x y : Int} {t : List Int} (h : ¬ y = x) : decide (x ∈ y :: t) = decide (x ∈ t) := by
  have : ¬ x = y := fun e => h e.symm
  simp [this]
theorem hasG_ev (l : List Int) (x : Int) (hl : l.length ≤ 9223372036854775807) : Ev (fun k => impl_hasInt.f k l x) (decide (x ∈ l)) := by
  have main : ∀ (d i : Nat), i + d = l.length → Ev (fun k => impl_hasInt.l0 k x l l.length (i : Int)) (decide (x ∈ l.drop i)) := by
    intro d
    induction d with
    | zero => intro i hi; exact ev_some fun k => by simp only [impl_hasInt.l0]; rw [if_neg (by omega), List.drop_eq_nil_of_le (by omega)]; simp
    | succ d ih =>
      intro i hi
      have hil : i < l.length := by omega
      rw [dropG 0 hil]
      by_cases h : l.getD i 0 = x
      · rw [h, decide_eq_true (List.mem_cons_self)]
        refine ev_some fun k => ?_
        simp only [impl_hasInt.l0]
        rw [if_pos (by omega), if_pos (by omega), if_pos (by omega), show rd l (i : Int) = l.getD i 0 from rfl, if_pos h]
      · rw [memG_cons_ne h]
        refine Ev.step (fun k => ?_) (ih (i + 1) (by omega))
        simp only [impl_hasInt.l0]
        rw [if_pos (by omega), if_pos (by omega), if_pos (by omega), show rd l (i : Int) = l.getD i 0 from rfl, if_neg h, wsucc (n := l.length) hil hl]
  have h := main l.length 0 (by omega)
  rw [List.drop_zero] at h
  exact h
/-- The page of a transaction with a part, and a count where that is told. -/
def metaT (x p c : Int) (f : S36) : Bool := decide (f.f2.f0 = 2) && (decide (f.f2.f2 = x) && (decide (f.f2.f3 = p) && (decide (c = 0) || decide (f.f2.f4 = c))))
def metaB (l : List S36) (x p c : Int) : Option S33 := (l.find? (metaT x p c)).map fun f => f.f2
def metaR : Option S33 → Int × Int × Int × Int × Int × ByteArray × Bool
  | none => (0, 0, 0, 0, 0, ⟨#[]⟩, false)
  | some q => (q.f0, q.f1, q.f2, q.f3, q.f4, q.f5, true)
theorem iMeta_ev (l : List S36) (x p c : Int) (hl : l.length ≤ 9223372036854775807) : Ev (fun k => impl_metaOf.f k l x p c) (metaR (metaB l x p c)) := by
  have main : ∀ (d i : Nat), i + d = l.length → Ev (fun k => impl_metaOf.l0 k x p c l l.length (i : Int)) (metaR (metaB (l.drop i) x p c)) := by
    intro d
    induction d with
    | zero => intro i hi; exact ev_some fun k => by simp only [impl_metaOf.l0]; rw [if_neg (by omega), List.drop_eq_nil_of_le (by omega)]; rfl
    | succ d ih =>
      intro i hi
      have hil : i < l.length := by omega
      have st : ∀ k, impl_metaOf.l0 (k + 1) x p c l l.length (i : Int) = if metaT x p c (l.getD i z36) = true then some (metaR (some (l.getD i z36).f2)) else impl_metaOf.l0 k x p c l l.length ((i + 1 : Nat) : Int) := fun k => by
        simp only [impl_metaOf.l0]
        rw [if_pos (by omega), if_pos (by omega), if_pos (by omega), rdIF_nat, wsucc (n := l.length) hil hl]
        unfold metaT metaR
        generalize l.getD i z36 = f
        by_cases h1 : f.f2.f0 = 2
        · by_cases h2 : f.f2.f2 = x
          · by_cases h3 : f.f2.f3 = p
            · by_cases h4 : c = 0
              · simp [h1, h2, h3, h4]
              · by_cases h5 : f.f2.f4 = c <;> simp [h1, h2, h3, h4, h5]
            · simp [h1, h2, h3]
          · simp [h1, h2]
        · simp [h1]
      rw [dropG z36 hil]
      unfold metaB
      rw [List.find?_cons]
      by_cases h : metaT x p c (l.getD i z36) = true
      · rw [h]
        exact ev_some fun k => by rw [st k, if_pos h]; rfl
      · rw [Bool.eq_false_iff.mpr h]
        exact Ev.step (fun k => by rw [st k, if_neg h]) (ih (i + 1) (by omega))
  have h := main l.length 0 (by omega)
  rw [List.drop_zero] at h
  exact h
theorem meta_mem {l : List S36} {x p c : Int} {q : S33} (h : metaB l x p c = some q) : ∃ f ∈ l, f.f2 = q ∧ metaT x p c f = true := by
  unfold metaB at h
  cases e : l.find? (metaT x p c) with
  | none => rw [e] at h; cases h
  | some f =>
    rw [e] at h
    injection h with h
    exact ⟨f, List.mem_of_find?_eq_some e, h, List.find?_some e⟩
def goB (l : List S36) (x c : Int) : Nat → Int → ByteArray → Int → Option (ByteArray × Int)
  | 0, _, t, s => some (t, s)
  | d + 1, p, t, s => match metaB l x p c with
    | none => none
    | some q => goB l x c d (p + 1) (t ++ q.f5) (mn s q.f1)
def rrT (t : ByteArray) : List S48 × Bool := rrB t (t.size + 1) 0 []
def txB (l : List S36) (x : Int) : Int × Int × List S48 × Bool := match metaB l x 0 0 with
  | none => (0, 0, [], false)
  | some q => match goB l x q.f4 (q.f4 - 1).toNat 1 q.f5 q.f1 with
    | none => (0, 0, [], false)
    | some (t, s) => (x, s, (rrT t).1, (rrT t).2)
/-- The texts of all pages whose part is below p. -/
def belowN (l : List S36) (p : Int) : Nat := ((l.filter fun f => decide (f.f2.f3 < p)).map fun f => f.f2.f5.size).sum
def sizesN (l : List S36) : Nat := (l.map fun f => f.f2.f5.size).sum
theorem below_cons (f : S36) (l : List S36) (p : Int) : belowN (f :: l) p = (if f.f2.f3 < p then f.f2.f5.size else 0) + belowN l p := by
  unfold belowN
  rw [List.filter_cons]
  by_cases h : f.f2.f3 < p
  · rw [if_pos (decide_eq_true h), if_pos h]; rfl
  · rw [if_neg (by rw [decide_eq_false h]; decide), if_neg h, Nat.zero_add]
theorem below_le (l : List S36) (p : Int) : belowN l p ≤ sizesN l := by
  induction l with
  | nil => exact Nat.le_refl _
  | cons f l ih =>
    rw [below_cons]
    have e : sizesN (f :: l) = f.f2.f5.size + sizesN l := rfl
    rw [e]
    split <;> omega
theorem below_step {l : List S36} {p : Int} {f : S36} (hf : f ∈ l) (hp : f.f2.f3 = p) : belowN l p + f.f2.f5.size ≤ belowN l (p + 1) := by
  induction l with
  | nil => cases hf
  | cons g l ih =>
    rw [below_cons, below_cons]
    have mono : belowN l p ≤ belowN l (p + 1) := by
      clear ih hf
      induction l with
      | nil => exact Nat.le_refl _
      | cons h l ih =>
        rw [below_cons, below_cons]
        by_cases h1 : h.f2.f3 < p
        · rw [if_pos h1, if_pos (by omega)]; omega
        · rw [if_neg h1]; omega
    rcases List.mem_cons.1 hf with rfl | hf
    · rw [if_neg (by omega), if_pos (by omega)]; omega
    · have h2 := ih hf
      by_cases h1 : g.f2.f3 < p
      · rw [if_pos h1, if_pos (by omega)]; omega
      · rw [if_neg h1]; omega
theorem iGathered_ev (l : List S36) (x : Int) (hl : l.length ≤ 9223372036854775807) (hs : sizesN l ≤ 1048576) (hc : ∀ f ∈ l, f.f2.f4 ≤ 9223372036854775807) : Ev (fun k => impl_gathered.f k l x) (txB l x) := by
  unfold impl_gathered.f txB
  refine ev_bind (iMeta_ev l x 0 0 hl) ?_
  cases e : metaB l x 0 0 with
  | none => exact Ev.now _
  | some q =>
    obtain ⟨f, hf, rfl, ht⟩ := meta_mem e
    unfold metaT at ht
    simp only [Bool.and_eq_true, decide_eq_true_eq] at ht
    show Ev (fun k => if true = true then impl_gathered.l0 k l x f.f2.f5 f.f2.f1 1 f.f2.f0 f.f2.f1 f.f2.f2 f.f2.f3 f.f2.f4 f.f2.f5 else _) _
    simp only [if_true]
    have main : ∀ (d : Nat) (p : Int) (t : ByteArray) (s : Int), 1 ≤ p → p + d ≤ 9223372036854775807 → (p + d = f.f2.f4 ∨ d = 0 ∧ f.f2.f4 ≤ p) → t.size ≤ belowN l p → Ev (fun k => impl_gathered.l0 k l x t s p f.f2.f0 f.f2.f1 f.f2.f2 f.f2.f3 f.f2.f4 f.f2.f5) (match goB l x f.f2.f4 d p t s with | none => (0, 0, [], false) | some (t, s) => (x, s, (rrT t).1, (rrT t).2)) := by
      intro d
      induction d with
      | zero =>
        intro p t s h1 h2 h3 h4
        have hb := below_le l p
        unfold goB
        refine Ev.step (f := fun k => (impl_ReadRecs.f k t).bind fun bt451 => some (x, s, bt451.1, bt451.2)) (fun k => by simp only [impl_gathered.l0]; rw [if_neg (by omega)]) (ev_bind (iReadRecs_ev t (by omega)) (Ev.now _))
      | succ d ih =>
        intro p t s h1 h2 h3 h4
        have hp : p < f.f2.f4 := by omega
        unfold goB
        refine Ev.step (f := fun k => (impl_metaOf.f k l x p f.f2.f4).bind fun bt443 => if bt443.2.2.2.2.2.2 = true then (if t.size + bt443.2.2.2.2.2.1.size ≤ 9223372036854775807 then impl_gathered.l0 k l x (t ++ bt443.2.2.2.2.2.1) (mn s bt443.2.1) (p + 1) f.f2.f0 f.f2.f1 f.f2.f2 f.f2.f3 f.f2.f4 f.f2.f5 else none) else some (0, 0, [], false)) (fun k => by simp only [impl_gathered.l0]; rw [if_pos hp, w64 (x := p + 1) (by omega) (by omega)]) (ev_bind (iMeta_ev l x p f.f2.f4 hl) ?_)
        cases e2 : metaB l x p f.f2.f4 with
        | none => exact Ev.now _
        | some q =>
          obtain ⟨g, hg, rfl, hgt⟩ := meta_mem e2
          unfold metaT at hgt
          simp only [Bool.and_eq_true, decide_eq_true_eq] at hgt
          have hb := below_step hg hgt.2.2.1
          have hb2 := below_le l (p + 1)
          show Ev (fun k => if true = true then (if t.size + g.f2.f5.size ≤ 9223372036854775807 then impl_gathered.l0 k l x (t ++ g.f2.f5) (mn s g.f2.f1) (p + 1) f.f2.f0 f.f2.f1 f.f2.f2 f.f2.f3 f.f2.f4 f.f2.f5 else none) else some (0, 0, [], false)) _
          simp only [if_true, if_pos (show t.size + g.f2.f5.size ≤ 9223372036854775807 by omega)]
          exact ih (p + 1) _ _ (by omega) (by omega) (by omega) (by rw [ByteArray.size_append]; omega)
    have hb := below_step hf ht.2.2.1
    have hcf := hc f hf
    by_cases h1 : f.f2.f4 ≤ 1
    · rw [show (f.f2.f4 - 1).toNat = 0 by omega]
      refine main 0 1 f.f2.f5 f.f2.f1 (by omega) (by omega) (.inr ⟨rfl, h1⟩) ?_
      have : belowN l 0 + f.f2.f5.size ≤ belowN l 1 := hb
      omega
    · refine main (f.f2.f4 - 1).toNat 1 f.f2.f5 f.f2.f1 (by omega) (by omega) (.inl (by omega)) ?_
      have : belowN l 0 + f.f2.f5.size ≤ belowN l 1 := hb
      omega
def numF (s : List Int) (f : S36) : List Int := if f.f2.f0 = 2 ∧ ¬ f.f2.f2 ∈ s then s ++ [f.f2.f2] else s
def numsB (l : List S36) : List Int := l.foldl numF []
def outF (l : List S36) (n : Int) : List S40 := if (txB l n).2.2.2 = true then [⟨(txB l n).1, (txB l n).2.1, (txB l n).2.2.1⟩] else []
def gatherB (l : List S36) : List S40 := (sortB (numsB l)).flatMap (outF l)
theorem iGather_ev (l : List S36) (hl : l.length ≤ 1048576) (hs : sizesN l ≤ 1048576) (hc : ∀ f ∈ l, f.f2.f4 ≤ 9223372036854775807) : Ev (fun k => impl_Gather.f k l) (gatherB l) := by
  unfold impl_Gather.f gatherB
  have two : ∀ (L : List Int), L.length ≤ 1048576 → ∀ (d i : Nat) (acc : List S40), i + d = L.length → acc.length ≤ i → Ev (fun k => impl_Gather.l1 k l acc L (L.length : Int) (i : Int)) (acc ++ (L.drop i).flatMap (outF l)) := by
    intro L hL d
    induction d with
    | zero =>
      intro i acc hi ha
      rw [List.drop_eq_nil_of_le (by omega)]
      exact ev_some fun k => by simp only [impl_Gather.l1]; rw [if_neg (by omega)]; simp
    | succ d ih =>
      intro i acc hi ha
      have hil : i < L.length := by omega
      rw [dropG 0 hil, List.flatMap_cons]
      refine Ev.step (f := fun k => (impl_gathered.f k l (L.getD i 0)).bind fun bt463 => if bt463.2.2.2 = true then impl_Gather.l1 k l (acc ++ [(⟨bt463.1, bt463.2.1, bt463.2.2.1⟩ : S40)]) L (L.length : Int) ((i + 1 : Nat) : Int) else impl_Gather.l1 k l acc L (L.length : Int) ((i + 1 : Nat) : Int)) (fun k => ?_) (ev_bind (iGathered_ev l (L.getD i 0) (by omega) hs hc) ?_)
      · simp only [impl_Gather.l1]
        rw [if_pos (by omega), if_pos (by omega), if_pos (by omega), show rd L (i : Int) = L.getD i 0 from rfl, wsucc (n := L.length) hil (by omega)]
        simp only [if_pos (show acc.length < 3518437208883 by omega)]
      · unfold outF
        by_cases h : (txB l (L.getD i 0)).2.2.2 = true
        · simp only [if_pos h]
          have := ih (i + 1) (acc ++ [(⟨(txB l (L.getD i 0)).1, (txB l (L.getD i 0)).2.1, (txB l (L.getD i 0)).2.2.1⟩ : S40)]) (by omega) (by simp; omega)
          rw [List.append_assoc] at this
          exact this
        · simp only [if_neg h]
          exact ih (i + 1) acc (by omega) (by omega)
  have one : ∀ (d i : Nat) (s : List Int), i + d = l.length → s.length ≤ i → Ev (fun k => impl_Gather.l0 k l s l (l.length : Int) (i : Int)) ((sortB ((l.drop i).foldl numF s)).flatMap (outF l)) := by
    intro d
    induction d with
    | zero =>
      intro i s hi ha
      rw [List.drop_eq_nil_of_le (by omega), List.foldl_nil]
      have hlen : (sortB s).length = s.length := List.length_mergeSort s
      have h2 := two (sortB s) (by omega) (sortB s).length 0 [] (by omega) (by simp)
      rw [List.drop_zero, List.nil_append, hlen] at h2
      refine Ev.step (f := fun k => (sort_Ints.f k s).bind fun t461 => impl_Gather.l1 k l [] t461 (s.length : Int) 0) (fun k => by simp only [impl_Gather.l0]; rw [if_neg (by omega)]) (ev_bind (ev_ext (f := fun _ => some (sortB s)) (fun _ => if_pos (by omega)) (Ev.now _)) h2)
    | succ d ih =>
      intro i s hi ha
      have hil : i < l.length := by omega
      rw [dropG z36 hil, List.foldl_cons]
      unfold numF
      by_cases h : (l.getD i z36).f2.f0 = 2
      · refine Ev.step (f := fun k => (impl_hasInt.f k s (l.getD i z36).f2.f2).bind fun t457 => if t457 = true then impl_Gather.l0 k l s l (l.length : Int) ((i + 1 : Nat) : Int) else impl_Gather.l0 k l (s ++ [(l.getD i z36).f2.f2]) l (l.length : Int) ((i + 1 : Nat) : Int)) (fun k => ?_) (ev_bind (hasG_ev s _ (by omega)) ?_)
        · simp only [impl_Gather.l0]
          rw [if_pos (by omega), if_pos (by omega), if_pos (by omega), rdIF_nat, if_pos h, wsucc (n := l.length) hil (by omega)]
          simp only [if_pos (show s.length < 17592186044416 by omega)]
        · by_cases h2 : (l.getD i z36).f2.f2 ∈ s
          · rw [if_neg (fun g => g.2 h2), decide_eq_true h2]
            simp only [if_true]
            exact ih (i + 1) s (by omega) (by omega)
          · rw [if_pos ⟨h, h2⟩, decide_eq_false h2]
            simp only [Bool.false_eq_true, if_false]
            exact ih (i + 1) _ (by omega) (by simp; omega)
      · rw [if_neg (fun g => h g.1)]
        refine Ev.step (fun k => ?_) (ih (i + 1) s (by omega) (by omega))
        simp only [impl_Gather.l0]
        rw [if_pos (by omega), if_pos (by omega), if_pos (by omega), rdIF_nat, if_neg h, wsucc (n := l.length) hil (by omega)]
  have h := one l.length 0 [] (by omega) (by simp)
  rw [List.drop_zero] at h
  exact h
end Go.Proofs.Ytkbfmompapcekaa.Pu

/- The pages of a transaction: gathered they are the transaction again. -/
namespace Go.Proofs.Ytkbfmompapcekaa.Pu
set_option linter.unusedVariables false
set_option linter.unusedSimpArgs false
open Go.RowKit Go.Proofs.Ytkbfmompapcekaa.PK Go.Proofs.YtkbfmompapcekaaW.PrintWords

def catN (ts : List ByteArray) : List Nat := (ts.map byt).flatten
def sizeT (ts : List ByteArray) : Nat := (ts.map ByteArray.size).sum
theorem catN_len : ∀ ts : List ByteArray, (catN ts).length = sizeT ts
  | [] => rfl
  | t :: ts => by
    show (byt t ++ catN ts).length = t.size + sizeT ts
    rw [List.length_append, byt_len, catN_len ts]
theorem catN_snoc (ts : List ByteArray) (t : ByteArray) : catN (ts ++ [t]) = catN ts ++ byt t := by
  unfold catN; simp
theorem catN_last : ∀ (ts : List ByteArray) (t : ByteArray), 0 < ts.length → catN (ts.set (ts.length - 1) (lastT ts ++ t)) = catN ts ++ byt t
  | [], t, h => by cases h
  | [x], t, _ => by
    show byt (x ++ t) ++ [] = (byt x ++ []) ++ byt t
    rw [byt_app]; simp
  | x :: y :: r, t, _ => by
    have h := catN_last (y :: r) t (by simp)
    have e : (x :: y :: r).set ((x :: y :: r).length - 1) (lastT (x :: y :: r) ++ t) = x :: (y :: r).set ((y :: r).length - 1) (lastT (y :: r) ++ t) := rfl
    rw [e]
    show byt x ++ catN ((y :: r).set _ _) = (byt x ++ catN (y :: r)) ++ byt t
    rw [h, List.append_assoc]
/-- What the pages of records bear; a page that is closed bears 87 bytes at least. -/
theorem txs_ok : ∀ (rs : List S48) (ts : List ByteArray), (∀ x ∈ rs, okR x = true ∧ (recText x.f0 x.f1 x.f2 x.f3).size ≤ 4) → 0 < ts.length → 87 * (ts.length - 1) + (lastT ts).size ≤ sizeT ts →
    ∃ ts', txs rs ts = some ts' ∧ catN ts' = catN ts ++ recsN rs ∧ 0 < ts'.length ∧ 87 * (ts'.length - 1) + (lastT ts').size ≤ sizeT ts' ∧ sizeT ts' ≤ sizeT ts + 4 * rs.length
  | [], ts, _, h0, hq => ⟨ts, rfl, (List.append_nil _).symm, h0, hq, Nat.le_refl _⟩
  | r :: rs, ts, h, h0, hq => by
    obtain ⟨ho, hs⟩ := h r List.mem_cons_self
    have hb := byt_rec ho
    have hro : recOk r.f0 r.f1 r.f2 r.f3 = true := ho
    unfold txs
    rw [if_pos hro]
    generalize hT : recText r.f0 r.f1 r.f2 r.f3 = t at hs hb
    have hc : catN (txF ts t) = catN ts ++ byt t ∧ 0 < (txF ts t).length ∧ 87 * ((txF ts t).length - 1) + (lastT (txF ts t)).size ≤ sizeT (txF ts t) := by
      unfold txF
      by_cases hl : ((lastT ts).size : Int) + (t.size : Int) > 90
      · rw [if_pos hl]
        refine ⟨catN_snoc ts t, by simp, ?_⟩
        have es : sizeT (ts ++ [t]) = sizeT ts + t.size := by rw [← catN_len, catN_snoc, List.length_append, catN_len, byt_len]
        have e : lastT (ts ++ [t]) = t := by
          unfold lastT
          rw [List.length_append, List.length_singleton, Nat.add_sub_cancel, List.getD_eq_getElem?_getD, List.getElem?_append_right (Nat.le_refl _)]
          simp
        rw [e, es, List.length_append, List.length_singleton]
        omega
      · rw [if_neg hl]
        refine ⟨catN_last ts t h0, by rw [List.length_set]; exact h0, ?_⟩
        have es : sizeT (ts.set (ts.length - 1) (lastT ts ++ t)) = sizeT ts + t.size := by rw [← catN_len, catN_last ts t h0, List.length_append, catN_len, byt_len]
        have e : lastT (ts.set (ts.length - 1) (lastT ts ++ t)) = lastT ts ++ t := by
          show (ts.set (ts.length - 1) (lastT ts ++ t)).getD ((ts.set (ts.length - 1) (lastT ts ++ t)).length - 1) ByteArray.empty = _
          rw [List.length_set, getDset _ _ _ (by omega), if_pos rfl]
        rw [e, es, List.length_set, ByteArray.size_append]
        omega
    obtain ⟨c1, c2, c3⟩ := hc
    obtain ⟨ts', a1, a2, a3, a4, a5⟩ := txs_ok rs (txF ts t) (fun x hx => h x (List.mem_cons_of_mem _ hx)) c2 c3
    refine ⟨ts', a1, ?_, a3, a4, ?_⟩
    · rw [a2, c1, hb, List.append_assoc]; rfl
    · have e := catN_len (txF ts t)
      rw [c1, List.length_append, catN_len, byt_len] at e
      simp only [List.length_cons]
      omega
theorem txs_start {rs : List S48} (h : ∀ x ∈ rs, okR x = true ∧ (recText x.f0 x.f1 x.f2 x.f3).size ≤ 4) (hn : rs.length ≤ 120) : ∃ ts, txs rs [⟨#[]⟩] = some ts ∧ catN ts = recsN rs ∧ 0 < ts.length ∧ ts.length ≤ 6 ∧ sizeT ts ≤ 480 := by
  obtain ⟨ts, a1, a2, a3, a4, a5⟩ := txs_ok rs [⟨#[]⟩] h (by decide) (by decide)
  have e0 : sizeT [⟨#[]⟩] = 0 := rfl
  have e1 : catN [⟨#[]⟩] = [] := rfl
  rw [e1, List.nil_append] at a2
  exact ⟨ts, a1, a2, a3, by omega, by omega⟩
theorem small_size {x : S48} (h : okR x = true) (h2 : x.f2 ≤ 15) (h3 : x.f3 ≤ 300) : (recText x.f0 x.f1 x.f2 x.f3).size ≤ 4 := by
  obtain ⟨_, _, _, _, h5, h6, h7, h8⟩ := recOk_range h
  rw [← byt_len, byt_rec h, recN_len, varN_len, varN_len]
  have s1 := (varL_len 0 x.f2.toNat (by omega)).1
  have s2 := (varL_len 1 x.f3.toNat (by omega)).1
  omega
theorem txFin_ok {s x : Int} {ts : List ByteArray} (hl : ts.length ≤ 9) (hs : 1 ≤ s) (hs2 : s ≤ 1000) (hx : 1 ≤ x ∧ x ≤ 1000000000) : txFin s x (some ts) = (pagesB s x ts, true) := by
  unfold txFin
  simp only
  rw [if_neg (by omega), w64 (x := 1000000000 - (ts.length : Int)) (by omega) (by omega), w64 (by omega) (by omega), if_pos ⟨hs, by omega⟩, if_pos hx]
def fnd (q : S33) : S36 := ⟨0, 0, q⟩
theorem pages_len (s x : Int) (ts : List ByteArray) : (pagesB s x ts).length = ts.length := by unfold pagesB; simp
theorem page_mem {s x : Int} {ts : List ByteArray} {q : S33} (h : q ∈ pagesB s x ts) : ∃ i, i < ts.length ∧ q = pageB s x ts i := by
  unfold pagesB at h
  obtain ⟨i, hi, rfl⟩ := List.mem_map.1 h
  exact ⟨i, by simp at hi; omega, rfl⟩
/-- The one that meets a test. -/
theorem find_one {l : List S36} {T : S36 → Bool} {q : S33} (h1 : ∃ f ∈ l, T f = true) (h2 : ∀ f ∈ l, T f = true → f.f2 = q) : (l.find? T).map (fun f => f.f2) = some q := by
  cases e : l.find? T with
  | none =>
    obtain ⟨f, hf, ht⟩ := h1
    have := List.find?_eq_none.1 e f hf
    exact absurd ht this
  | some f => rw [Option.map_some, h2 f (List.mem_of_find?_eq_some e) (List.find?_some e)]
/-- Pages of one transaction among others: all of its pages, and none else of its number. -/
def Has (l : List S36) (s x : Int) (ts : List ByteArray) : Prop := (∀ i, i < ts.length → ∃ f ∈ l, f.f2 = pageB s x ts i) ∧ ∀ f ∈ l, f.f2.f2 = x → ∃ i, i < ts.length ∧ f.f2 = pageB s x ts i
theorem meta_page {l : List S36} {s x : Int} {ts : List ByteArray} (h : Has l s x ts) {i : Nat} (hi : i < ts.length) {c : Int} (hc : c = 0 ∨ c = (ts.length : Int)) : metaB l x (i : Int) c = some (pageB s x ts i) := by
  refine find_one ?_ fun f hf ht => ?_
  · obtain ⟨f, hf, e⟩ := h.1 i hi
    refine ⟨f, hf, ?_⟩
    unfold metaT
    rw [e]
    show (decide ((2 : Int) = 2) && (decide (x = x) && (decide ((i : Int) = (i : Int)) && (decide (c = 0) || decide ((ts.length : Int) = c))))) = true
    rcases hc with hc | hc <;> simp [hc]
  · unfold metaT at ht
    simp only [Bool.and_eq_true, decide_eq_true_eq] at ht
    obtain ⟨j, hj, e⟩ := h.2 f hf ht.2.1
    have h3 := ht.2.2.1
    rw [e] at h3
    have h4 : (j : Int) = (i : Int) := h3
    rw [e, show j = i by omega]
theorem seq_mn {s : Int} {i : Nat} (h0 : 1 ≤ s) (h1 : s ≤ 1000) (hi : i ≤ 9) : mn s (wrap64 (s + (i : Int))) = s := by
  rw [w64 (by omega) (by omega)]
  unfold mn
  omega
theorem go_pages {l : List S36} {s x : Int} {ts : List ByteArray} (h : Has l s x ts) (hl : ts.length ≤ 9) (h0 : 1 ≤ s) (h1 : s ≤ 1000) : ∀ (d p : Nat) (t : ByteArray), p + d = ts.length → ∃ t', goB l x (ts.length : Int) d (p : Int) t s = some (t', s) ∧ byt t' = byt t ++ catN (ts.drop p)
  | 0, p, t, hp => ⟨t, rfl, by rw [List.drop_eq_nil_of_le (by omega)]; exact (List.append_nil _).symm⟩
  | d + 1, p, t, hp => by
    have hlt : p < ts.length := by omega
    unfold goB
    rw [meta_page h hlt (.inr rfl)]
    obtain ⟨t', e1, e2⟩ := go_pages h hl h0 h1 d (p + 1) (t ++ ts.getD p ByteArray.empty) (by omega)
    refine ⟨t', ?_, ?_⟩
    · show goB l x (ts.length : Int) d ((p : Int) + 1) (t ++ ts.getD p ByteArray.empty) (mn s (wrap64 (s + (p : Int)))) = _
      rw [seq_mn h0 h1 (by omega)]
      exact e1
    · rw [e2, byt_app, dropT ByteArray.empty hlt, List.append_assoc]; rfl
theorem tx_pages {l : List S36} {s x : Int} {ts : List ByteArray} {rs : List S48} (h : Has l s x ts) (hp : 0 < ts.length) (hl : ts.length ≤ 9) (h0 : 1 ≤ s) (h1 : s ≤ 1000) (hc : catN ts = recsN rs) (ho : ∀ y ∈ rs, okR y = true) : txB l x = (x, s, rs, true) := by
  unfold txB
  have hm := meta_page h hp (c := 0) (.inl rfl)
  have hm : metaB l x 0 0 = some (pageB s x ts 0) := hm
  rw [hm]
  obtain ⟨t', e1, e2⟩ := go_pages h hl h0 h1 (ts.length - 1) 1 (ts.getD 0 ByteArray.empty) (by omega)
  have es : wrap64 (s + ((0 : Nat) : Int)) = s := by rw [w64 (by omega) (by omega)]; omega
  show (match goB l x (ts.length : Int) ((ts.length : Int) - 1).toNat 1 (ts.getD 0 ByteArray.empty) (wrap64 (s + ((0 : Nat) : Int))) with | none => (0, 0, [], false) | some (t, s) => (x, s, (rrT t).1, (rrT t).2)) = _
  rw [es, show ((ts.length : Int) - 1).toNat = ts.length - 1 by omega]
  have e1 : goB l x (ts.length : Int) (ts.length - 1) 1 (ts.getD 0 ByteArray.empty) s = some (t', s) := e1
  rw [e1]
  have hb : byt t' = recsN rs := by
    rw [e2, ← hc]
    have := dropT (l := ts) (i := 0) ByteArray.empty hp
    rw [List.drop_zero] at this
    conv => rhs; rw [this]
    rfl
  have ht := trip t' rs (t'.size + 1) 0 [] (by rw [List.drop_zero]; exact hb) ho (by omega) (by omega)
  show (x, s, (rrT t').1, (rrT t').2) = _
  unfold rrT
  rw [ht]; rfl
theorem num_fold {x : Int} : ∀ (l : List S36) (s : List Int), (∀ f ∈ l, f.f2.f0 = 2 ∧ f.f2.f2 = x) → x ∈ s → l.foldl numF s = s
  | [], s, _, _ => rfl
  | f :: l, s, h, hx => by
    obtain ⟨_, h2⟩ := h f List.mem_cons_self
    rw [List.foldl_cons]
    unfold numF
    rw [if_neg (fun g => g.2 (by rw [h2]; exact hx))]
    exact num_fold l s (fun g hg => h g (List.mem_cons_of_mem _ hg)) hx
theorem num_new {x : Int} {l : List S36} {s : List Int} (h : ∀ f ∈ l, f.f2.f0 = 2 ∧ f.f2.f2 = x) (h0 : 0 < l.length) (hx : ¬ x ∈ s) : l.foldl numF s = s ++ [x] := by
  cases l with
  | nil => cases h0
  | cons f l =>
    obtain ⟨h1, h2⟩ := h f List.mem_cons_self
    rw [List.foldl_cons]
    have e : numF s f = s ++ [x] := by
      unfold numF
      rw [h2, if_pos ⟨h1, hx⟩]
    rw [e]
    exact num_fold l _ (fun g hg => h g (List.mem_cons_of_mem _ hg)) (by simp)
theorem sizes_pages (s x : Int) (ts : List ByteArray) : sizesN ((pagesB s x ts).map fnd) = sizeT ts := by
  unfold sizesN pagesB sizeT
  rw [List.map_map, List.map_map]
  congr 1
  apply List.ext_getElem
  · simp
  · intro i h1 h2
    simp only [List.length_map, List.length_range'] at h1
    simp only [List.getElem_map, List.getElem_range', Function.comp]
    show (ts.getD (0 + 1 * i) ByteArray.empty).size = _
    rw [Nat.zero_add, Nat.one_mul, List.getD_eq_getElem?_getD, List.getElem?_eq_getElem h1]; rfl
theorem sizes_app (a b : List S36) : sizesN (a ++ b) = sizesN a + sizesN b := by
  unfold sizesN
  rw [List.map_append, List.sum_append]
end Go.Proofs.Ytkbfmompapcekaa.Pu

/- The pages of a transaction in any order are gathered to it; where one lacks, nothing is. -/
namespace Go.Proofs.Ytkbfmompapcekaa.Pu
set_option linter.unusedVariables false
set_option linter.unusedSimpArgs false
open Go.RowKit Go.Proofs.Ytkbfmompapcekaa.PK Go.Proofs.YtkbfmompapcekaaW.PrintWords

theorem sort_one (x : Int) : sortB [x] = [x] := List.perm_singleton.1 (List.mergeSort_perm [x] fun a b => decide (a ≤ b))
theorem go_lack {l : List S36} {x c j : Int} (hj : ∀ f ∈ l, f.f2.f2 = x → ¬ f.f2.f3 = j) : ∀ (d : Nat) (p : Int) (t : ByteArray) (s : Int), p ≤ j → j < p + d → goB l x c d p t s = none
  | 0, p, t, s, h1, h2 => by omega
  | d + 1, p, t, s, h1, h2 => by
    unfold goB
    cases e : metaB l x p c with
    | none => rfl
    | some q =>
      obtain ⟨f, hf, rfl, ht⟩ := meta_mem e
      unfold metaT at ht
      simp only [Bool.and_eq_true, decide_eq_true_eq] at ht
      have hne : ¬ p = j := fun g => hj f hf ht.2.1 (ht.2.2.1.trans g)
      exact go_lack hj d (p + 1) _ _ (by omega) (by omega)
/-- Pages of one transaction, all but one. -/
def Lack (l : List S36) (s x : Int) (ts : List ByteArray) (j : Nat) : Prop := ∀ f ∈ l, ∃ i, i < ts.length ∧ i ≠ j ∧ f.f2 = pageB s x ts i
theorem tx_lack {l : List S36} {s x : Int} {ts : List ByteArray} {j : Nat} (h : Lack l s x ts j) (hj : j < ts.length) : (txB l x).2.2.2 = false := by
  unfold txB
  have hl : ∀ f ∈ l, f.f2.f2 = x → ¬ f.f2.f3 = (j : Int) := fun f hf _ => by
    obtain ⟨i, _, hi, e⟩ := h f hf
    rw [e]
    show ¬ (i : Int) = (j : Int)
    omega
  cases e : metaB l x 0 0 with
  | none => rfl
  | some q =>
    obtain ⟨f, hf, rfl, ht⟩ := meta_mem e
    unfold metaT at ht
    simp only [Bool.and_eq_true, decide_eq_true_eq] at ht
    obtain ⟨i, hi, hij, e2⟩ := h f hf
    have h3 := ht.2.2.1
    rw [e2] at h3
    have h3 : (i : Int) = 0 := h3
    have h4 : f.f2.f4 = (ts.length : Int) := by rw [e2]; rfl
    simp only
    rw [go_lack hl _ 1 _ _ (by omega) (by rw [h4]; omega)]
theorem num_mem {y : Int} : ∀ (l : List S36) (s : List Int), y ∈ l.foldl numF s → y ∈ s ∨ ∃ f ∈ l, f.f2.f2 = y
  | [], s, h => .inl h
  | f :: l, s, h => by
    rw [List.foldl_cons] at h
    rcases num_mem l _ h with h | ⟨g, hg, e⟩
    · unfold numF at h
      split at h
      · rcases List.mem_append.1 h with h | h
        · exact .inl h
        · exact .inr ⟨f, List.mem_cons_self, (List.mem_singleton.1 h).symm⟩
      · exact .inl h
    · exact .inr ⟨g, List.mem_cons_of_mem _ hg, e⟩
theorem gather_lack {l : List S36} {s x : Int} {ts : List ByteArray} {j : Nat} (h : Lack l s x ts j) (hj : j < ts.length) : gatherB l = [] := by
  unfold gatherB
  rw [List.flatMap_eq_nil_iff]
  intro n hn
  have hn : n ∈ numsB l := (List.mergeSort_perm _ _).mem_iff.1 hn
  rcases num_mem l [] hn with h0 | ⟨f, hf, e⟩
  · cases h0
  · obtain ⟨i, _, _, e2⟩ := h f hf
    have hx : n = x := by rw [← e, e2]; rfl
    subst hx
    unfold outF
    rw [tx_lack h hj]; rfl
theorem gather_all {l : List S36} {s x : Int} {ts : List ByteArray} {rs : List S48} (h : ∀ f ∈ l, ∃ i, i < ts.length ∧ f.f2 = pageB s x ts i) (hh : ∀ i, i < ts.length → ∃ f ∈ l, f.f2 = pageB s x ts i)
    (hp : 0 < ts.length) (hl : ts.length ≤ 9) (h0 : 1 ≤ s) (h1 : s ≤ 1000) (hc : catN ts = recsN rs) (ho : ∀ y ∈ rs, okR y = true) : gatherB l = [⟨x, s, rs⟩] := by
  have hl0 : 0 < l.length := by obtain ⟨f, hf, _⟩ := hh 0 hp; exact List.length_pos_of_mem hf
  have nums : numsB l = [x] := by
    unfold numsB
    rw [num_new (x := x) (fun f hf => by obtain ⟨i, _, e⟩ := h f hf; rw [e]; exact ⟨rfl, rfl⟩) hl0 (by simp)]; rfl
  have ht := tx_pages (l := l) (s := s) (x := x) ⟨hh, fun f hf _ => h f hf⟩ hp hl h0 h1 hc ho
  unfold gatherB
  rw [nums, sort_one]
  unfold outF
  simp only [List.flatMap_cons, List.flatMap_nil, ht, if_true]; rfl
theorem sizes_small {B : Nat} : ∀ {l : List S36}, (∀ f ∈ l, f.f2.f5.size ≤ B) → sizesN l ≤ l.length * B
  | [], _ => Nat.zero_le _
  | f :: l, h => by
    have h1 := h f List.mem_cons_self
    have h2 := sizes_small fun g hg => h g (List.mem_cons_of_mem _ hg)
    have e : sizesN (f :: l) = f.f2.f5.size + sizesN l := rfl
    rw [e, List.length_cons, Nat.succ_mul]
    omega
theorem txF_all {ts : List ByteArray} {t : ByteArray} (h : ∀ y ∈ ts, y.size ≤ 90) (h0 : 0 < ts.length) (ht : t.size ≤ 11) : ∀ y ∈ txF ts t, y.size ≤ 90 := by
  intro y hy
  unfold txF at hy
  split at hy
  · rcases List.mem_append.1 hy with hy | hy
    · exact h y hy
    · rw [List.mem_singleton.1 hy]; omega
  · rename_i hn
    rcases List.mem_or_eq_of_mem_set hy with hy | rfl
    · exact h y hy
    · rw [ByteArray.size_append]; omega
theorem txs_all : ∀ (rs : List S48) (ts ts' : List ByteArray), (∀ y ∈ ts, y.size ≤ 90) → 0 < ts.length → txs rs ts = some ts' → ∀ y ∈ ts', y.size ≤ 90
  | [], ts, ts', h, _, e => by
    injection e with e
    subst e; exact h
  | r :: rs, ts, ts', h, h0, e => by
    unfold txs at e
    split at e
    · rename_i hr
      exact txs_all rs _ _ (txF_all h h0 (recText_size hr)) (txF_last h0 (recText_size hr)).2.1 e
    · cases e
end Go.Proofs.Ytkbfmompapcekaa.Pu

/- The law FnTransactions: the pages of drawn records are gathered to them again, whatever their order; where one lacks, nothing is. -/
namespace Go.Proofs.Ytkbfmompapcekaa.M2.Mp
set_option linter.unusedVariables false
set_option linter.unusedSimpArgs false
open Go.RowKit Go.Proofs.Ytkbfmompapcekaa.PK Go.Proofs.YtkbfmompapcekaaW.PrintWords Go.Proofs.Ytkbfmompapcekaa.Pu

theorem sameR_ev (l : List S48) (hn : l.length ≤ 9223372036854775807) : Ev (fun k => PK.laws_sameRecs.f k l l) true := by
  unfold PK.laws_sameRecs.f
  simp only [if_true]
  have main : ∀ (d i : Nat), i + d = l.length → Ev (fun k => PK.laws_sameRecs.l0 k l l (i : Int)) true := by
    intro d
    induction d with
    | zero => intro i hi; exact ev_some fun k => by simp only [PK.laws_sameRecs.l0]; rw [if_neg (by omega)]
    | succ d ih =>
      intro i hi
      refine Ev.step (fun k => ?_) (ih (i + 1) (by omega))
      simp only [PK.laws_sameRecs.l0, beq_self_eq_true, Bool.not_true, Bool.or_false, Bool.false_eq_true, if_false]
      rw [if_pos (by omega), if_pos (by omega), if_pos (by omega), wsucc (n := l.length) (by omega) hn]
  exact main l.length 0 (by omega)
theorem gatherX (l : List S36) (hl : l.length ≤ 1048576) (hs : sizesN l ≤ 1048576) (hc : ∀ f ∈ l, f.f2.f4 ≤ 9223372036854775807) : EvX (fun k => impl_Gather.f k l) (fun r => r = gatherB l) :=
  ⟨_, ev_rel (iGather_ev l hl hs hc) (fun k r hh m hm => impl_Gather.rel k l r hh m hm), rfl⟩
theorem pageOkX (q : S33) (s : Int) (ts : List ByteArray) (i : Nat) (h : q = pageB s 3 ts i) (hi : i < ts.length) (hl : ts.length ≤ 9) (h0 : 1 ≤ s) (h1 : s ≤ 1000) (ht : ∀ y ∈ ts, y.size ≤ 90) : EvX (fun k => spec_PageOk.f k q.f0 q.f1 q.f2 q.f3 q.f4 q.f5) (fun r => r = true) := by
  have e1 : q.f1 = s + (i : Int) := by rw [h]; show wrap64 (s + (i : Int)) = _; rw [Pu.w64 (by omega) (by omega)]
  have e0 : q.f0 = 2 := by rw [h]; rfl
  have e2 : q.f2 = 3 := by rw [h]; rfl
  have e3 : q.f3 = (i : Int) := by rw [h]; rfl
  have e4 : q.f4 = (ts.length : Int) := by rw [h]; rfl
  have e5 : q.f5.size ≤ 90 := by rw [h]; exact ht _ (getD_mem' hi)
  rw [e0, e1, e2, e3, e4]
  simp only [spec_PageOk.f]
  refine evx_bind (l01InX 2 1 2) fun t h => evx_pos (by rw [h]; decide) ?_
  refine evx_bind (l01InX _ 1 _) fun t h => evx_pos (by rw [h]; exact decide_eq_true (by omega)) ?_
  refine evx_bind (l01InX 3 1 _) fun t h => evx_pos (by rw [h]; decide) ?_
  refine evx_bind (l01InX _ 1 9) fun t h => evx_pos (by rw [h]; exact decide_eq_true (by omega)) ?_
  rw [m64i (x := (ts.length : Int) - 1) (by omega) (by omega)]
  refine evx_bind (l01InX _ 0 _) fun t h => evx_pos (by rw [h]; exact decide_eq_true (by omega)) ?_
  exact evx_neg (by omega) (evx_pos (by first | rfl | trivial) (evx_some rfl))
/-- Where the i-th page that is drawn stands. -/
def rot (r n i : Nat) : Nat := (i + r) % n
theorem getD_map {α β : Type} (f : α → β) (l : List α) (i : Nat) (z : α) (h : i < l.length) (y : β) : (l.map f).getD i y = f (l.getD i z) := by
  simp [List.getD_eq_getElem?_getD, List.getElem?_map, List.getElem?_eq_getElem h]
theorem pages_get (s x : Int) (ts : List ByteArray) (i : Nat) (h : i < ts.length) : (pagesB s x ts).getD i z33 = pageB s x ts i := by
  unfold pagesB
  rw [List.getD_eq_getElem?_getD, List.getElem?_map, List.getElem?_range' h]
  simp
/-- The first so many pages, turned. -/
def foundB (s x : Int) (ts : List ByteArray) (r m : Nat) : List S36 := (List.range m).map fun i => fnd (pageB s x ts (rot r ts.length i))
theorem found_len (s x : Int) (ts : List ByteArray) (r m : Nat) : (foundB s x ts r m).length = m := by simp [foundB]
theorem found_next (s x : Int) (ts : List ByteArray) (r m : Nat) : foundB s x ts r (m + 1) = foundB s x ts r m ++ [fnd (pageB s x ts (rot r ts.length m))] := by
  unfold foundB; rw [List.range_succ, List.map_append]; rfl
theorem rot_inj {r n i j : Nat} (hi : i < n) (hj : j < n) (h : rot r n i = rot r n j) : i = j := by
  unfold rot at h
  have h1 := Nat.mod_add_div (i + r) n
  have h2 := Nat.mod_add_div (j + r) n
  rw [h] at h1
  rcases Nat.lt_trichotomy i j with hlt | e | hlt
  · exfalso
    have h3 : n * ((i + r) / n) < n * ((j + r) / n) := by omega
    have h4 := Nat.lt_of_mul_lt_mul_left h3
    have h5 : n * ((i + r) / n + 1) ≤ n * ((j + r) / n) := Nat.mul_le_mul_left n h4
    rw [Nat.mul_add, Nat.mul_one] at h5
    omega
  · exact e
  · exfalso
    have h3 : n * ((j + r) / n) < n * ((i + r) / n) := by omega
    have h4 := Nat.lt_of_mul_lt_mul_left h3
    have h5 : n * ((j + r) / n + 1) ≤ n * ((i + r) / n) := Nat.mul_le_mul_left n h4
    rw [Nat.mul_add, Nat.mul_one] at h5
    omega
theorem rot_all {r n j : Nat} (hj : j < n) : ∃ i, i < n ∧ rot r n i = j := by
  refine ⟨(j + (n - r % n)) % n, Nat.mod_lt _ (by omega), ?_⟩
  unfold rot
  have hr : r % n < n := Nat.mod_lt _ (by omega)
  rw [Nat.mod_add_mod]
  have h1 := Nat.mod_add_div r n
  have e : j + (n - r % n) + r = j + n * (r / n + 1) := by rw [Nat.mul_add, Nat.mul_one]; omega
  rw [e, Nat.add_mul_mod_self_left, Nat.mod_eq_of_lt hj]
theorem found_all (s x : Int) (ts : List ByteArray) (r : Nat) (hp : 0 < ts.length) : (∀ f ∈ foundB s x ts r ts.length, ∃ i, i < ts.length ∧ f.f2 = pageB s x ts i) ∧ ∀ i, i < ts.length → ∃ f ∈ foundB s x ts r ts.length, f.f2 = pageB s x ts i := by
  constructor
  · intro f hf
    obtain ⟨i, _, rfl⟩ := List.mem_map.1 hf
    exact ⟨_, Nat.mod_lt _ hp, rfl⟩
  · intro i hi
    obtain ⟨j, hj, e⟩ := rot_all (r := r) hi
    exact ⟨_, List.mem_map.2 ⟨j, List.mem_range.2 hj, rfl⟩, by rw [e]; rfl⟩
theorem found_lack (s x : Int) (ts : List ByteArray) (r m : Nat) (hp : 0 < ts.length) (hm : m < ts.length) : Lack ((foundB s x ts r ts.length).take m ++ (foundB s x ts r ts.length).drop (m + 1)) s x ts (rot r ts.length m) := by
  intro f hf
  have go : ∀ i, i < ts.length → i ≠ m → f = fnd (pageB s x ts (rot r ts.length i)) → ∃ i, i < ts.length ∧ i ≠ rot r ts.length m ∧ f.f2 = pageB s x ts i := fun i hi hne e => ⟨rot r ts.length i, Nat.mod_lt _ hp, fun h => hne (rot_inj hi hm h), by rw [e]; rfl⟩
  have at' : ∀ i, i < ts.length → (foundB s x ts r ts.length)[i]? = some (fnd (pageB s x ts (rot r ts.length i))) := fun i hi => by
    unfold foundB
    rw [List.getElem?_map, List.getElem?_range hi]; rfl
  rcases List.mem_append.1 hf with hf | hf
  · obtain ⟨i, hi, e⟩ := List.getElem_of_mem hf
    rw [List.length_take, found_len] at hi
    rw [List.getElem_take] at e
    have h2 := at' i (by omega)
    rw [List.getElem?_eq_getElem (by rw [found_len]; omega)] at h2
    injection h2 with h2
    exact go i (by omega) (by omega) (by rw [← e, h2])
  · obtain ⟨i, hi, e⟩ := List.getElem_of_mem hf
    rw [List.length_drop, found_len] at hi
    rw [List.getElem_drop] at e
    have h2 := at' (m + 1 + i) (by omega)
    rw [List.getElem?_eq_getElem (by rw [found_len]; omega)] at h2
    injection h2 with h2
    exact go (m + 1 + i) (by omega) (by omega) (by rw [← e, h2])
theorem fnTransactionsX (b : List Int) : EvX (fun k => laws_FnTransactions.f k b) (fun r => r = true) := by
  simp only [laws_FnTransactions.f]
  refine evx_bind (bigX b) fun t ht => ?_
  refine evx_ite (fun _ => evx_some rfl) (fun hbig => ?_)
  have hlen : b.length ≤ 1048576 := by
    rw [ht] at hbig
    simp only [decide_eq_true_eq] at hbig
    omega
  have hb : Cb b := by show b.length ≤ _; omega
  refine evx_bind (manyX b hb) fun L ⟨hL, hn⟩ => ?_
  refine evx_bind (placesX b hb) fun p ⟨hp, hp2⟩ => ?_
  obtain ⟨ts, a1, a2, a3, a4, a5⟩ := txs_start (rs := L) (fun x hx => ⟨(hL x hx).1, small_size (hL x hx).1 (hL x hx).2.1 (hL x hx).2.2⟩) (by omega)
  have a6 := txs_all L [⟨#[]⟩] ts (fun y hy => by rw [List.mem_singleton.1 hy]; decide) (by decide) a1
  have i1 := iTxX 7 3 L (by omega)
  have i2 := sTxX 7 3 L (by omega)
  rw [a1, txFin_ok (by omega) (by omega) (by omega) (by omega)] at i1 i2
  refine evx_bind i1 fun t4 e4 => evx_bind i2 fun t5 e5 => ?_
  subst e4
  subst e5
  refine evx_pos (by simp) (evx_pos rfl (evx_pos rfl ?_))
  have hpl := pages_len 7 3 ts
  have hp0 : 0 ≤ rd_T3 p 0 ∧ rd_T3 p 0 < 10000 := hp2 _ (by show p.getD 0 0 ∈ p; exact getD_mem' (by omega))
  have hp1 : 0 ≤ rd_T3 p 1 ∧ rd_T3 p 1 < 10000 := hp2 _ (by show p.getD 1 0 ∈ p; exact getD_mem' (by omega))
  obtain ⟨r, hr⟩ : ∃ r : Nat, rd_T3 p 0 = (r : Int) := ⟨(rd_T3 p 0).toNat, by omega⟩
  obtain ⟨q, hq⟩ : ∃ q : Nat, rd_T3 p 1 = (q : Int) := ⟨(rd_T3 p 1).toNat, by omega⟩
  have szs : ∀ f : S36, (∃ i, i < ts.length ∧ f.f2 = pageB 7 3 ts i) → f.f2.f5.size ≤ 90 ∧ f.f2.f4 ≤ 9223372036854775807 := by
    rintro f ⟨i, hi, e⟩
    rw [e]
    exact ⟨a6 _ (getD_mem' hi), by show (ts.length : Int) ≤ _; omega⟩
  obtain ⟨fa1, fa2⟩ := found_all 7 3 ts r a3
  have loop : ∀ (d i : Nat), i + d = ts.length → EvX (fun k => laws_FnTransactions.c13 k (i : Int) L p (pagesB 7 3 ts) (foundB 7 3 ts r i)) (fun r => r = true) := by
    intro d
    induction d with
    | zero =>
      intro i hi
      obtain rfl : i = ts.length := by omega
      refine evx_step (fun k => by rw [laws_FnTransactions.c13]) (evx_neg (by omega) ?_)
      have s1 := sizes_small (l := foundB 7 3 ts r ts.length) (B := 90) fun f hf => (szs f (fa1 f hf)).1
      have fl := found_len 7 3 ts r ts.length
      rw [fl] at s1
      refine evx_bind (gatherX _ (by omega) (by omega) fun f hf => (szs f (fa1 f hf)).2) fun t7 e7 => ?_
      rw [gather_all fa1 fa2 a3 (by omega) (by omega) (by omega) a2 fun y hy => (hL y hy).1] at e7
      subst e7
      have hm : q % ts.length < ts.length := Nat.mod_lt _ a3
      have hmi : Int.tmod (rd_T3 p 1) ((foundB 7 3 ts r ts.length).length : Int) = ((q % ts.length : Nat) : Int) := by
        rw [hq, fl, Int.tmod_eq_emod_of_nonneg (by omega)]; omega
      rw [hmi, m64i (x := ((q % ts.length : Nat) : Int) + 1) (by omega) (by omega), show ((q % ts.length : Nat) : Int) + 1 = ((q % ts.length + 1 : Nat) : Int) by omega]
      simp only [Int.toNat_natCast, List.drop_zero, Nat.sub_zero, List.nil_append]
      have tk : ((foundB 7 3 ts r ts.length).drop (q % ts.length + 1)).take ((foundB 7 3 ts r ts.length).length - (q % ts.length + 1)) = (foundB 7 3 ts r ts.length).drop (q % ts.length + 1) := List.take_of_length_le (by rw [List.length_drop]; omega)
      rw [tk]
      have lk := found_lack 7 3 ts r (q % ts.length) a3 hm
      have ll : ((foundB 7 3 ts r ts.length).take (q % ts.length)).length = q % ts.length := by rw [List.length_take, fl]; omega
      have ld : ((foundB 7 3 ts r ts.length).drop (q % ts.length + 1)).length = ts.length - (q % ts.length + 1) := by rw [List.length_drop, fl]
      have hmem : ∀ f, f ∈ (foundB 7 3 ts r ts.length).take (q % ts.length) ++ (foundB 7 3 ts r ts.length).drop (q % ts.length + 1) → f.f2.f5.size ≤ 90 ∧ f.f2.f4 ≤ 9223372036854775807 := fun f hf => by
        obtain ⟨i, h1, _, h2⟩ := lk f hf
        exact szs f ⟨i, h1, h2⟩
      have s2 := sizes_small (B := 90) fun f hf => (hmem f hf).1
      rw [List.length_append, ll, ld] at s2
      refine evx_pos (by omega) (evx_neg (by omega) (evx_pos (by omega) (evx_pos (by omega) (evx_pos (by rw [ll]; show 0 + _ ≤ _; omega) (evx_pos (by omega) (evx_neg (by omega) (evx_pos (by omega) (evx_pos (by omega) (evx_pos (by omega) ?_)))))))))
      refine evx_bind (gatherX _ (by rw [List.length_append, ll, ld]; omega) (by omega) fun f hf => (hmem f hf).2) fun t8 e8 => ?_
      rw [gather_lack lk (Nat.mod_lt _ a3)] at e8
      subst e8
      refine evx_pos rfl (evx_pos (by simp) (evx_pos rfl (evx_pos (by simp) (evx_pos rfl (evx_pos (by simp) ?_)))))
      refine evx_bind (Q := fun t => t = true) ⟨_, ev_rel (c := id) (sameR_ev L (by omega)) (fun k r hh m hm => laws_sameRecs.rel k L L r hh m hm), rfl⟩ fun t9 e9 => ?_
      exact evx_pos e9 (evx_some rfl)
    | succ d ih =>
      intro i hi
      have hm : (i + r) % ts.length < ts.length := Nat.mod_lt _ a3
      have hmi : Int.tmod (M2.w64 ((i : Int) + rd_T3 p 0)) ((pagesB 7 3 ts).length : Int) = ((rot r ts.length i : Nat) : Int) := by
        rw [hr, hpl, m64i (by omega) (by omega), Int.tmod_eq_emod_of_nonneg (by omega)]
        unfold rot
        rw [Int.natCast_emod, Int.natCast_add]
      have hm2 : rot r ts.length i < ts.length := hm
      refine evx_step (fun k => by rw [laws_FnTransactions.c13]) ?_
      rw [hmi, show rd_T33 (pagesB 7 3 ts) ((rot r ts.length i : Nat) : Int) = pageB 7 3 ts (rot r ts.length i) from pages_get 7 3 ts _ hm2]
      refine evx_pos (by omega) (evx_pos (by omega) (evx_neg (by omega) (evx_pos (by omega) (evx_pos (by omega) ?_))))
      refine evx_bind (pageOkX (pageB 7 3 ts (rot r ts.length i)) 7 ts _ rfl hm2 (by omega) (by omega) (by omega) a6) fun t6 e6 => ?_
      refine evx_pos e6 (evx_pos rfl (evx_pos (by rw [found_len]; show i + 1 ≤ _; omega) ?_))
      rw [m64 (i := i) (n := ts.length) (by omega) (by omega)]
      have := ih (i + 1) (by omega)
      rw [found_next] at this
      exact this
  exact loop ts.length 0 (by omega)
end Go.Proofs.Ytkbfmompapcekaa.M2.Mp
namespace Go.Proofs.Ytkbfmompapcekaa.Pure
open Go.Proofs.Ytkbfmompapcekaa.M2
theorem FnTransactions (l : List Int) (_ : ∀ n ∈ l, (Go.Lit.int .u8 n).wf = true) : ∃ k, laws_FnTransactions.f k l = some true := Mp.evx_out (Mp.fnTransactionsX l)
end Go.Proofs.Ytkbfmompapcekaa.Pure

/- From a function's contract to a call of it from without: what it answers; what was there stays. -/
namespace Go.Proofs.Ytkbfmompapcekaa.M2
open Go Go.RowKit
set_option linter.unusedVariables false
section
variable {Ty : Type} {D : Ty → Type} {P : Program} {K : Kit Ty D}
theorem hp0 (k : Nat) : hpOf ([] : List (Blk Ty D)) k = none := rfl
theorem blk0 (nm : Nm) : blkAt K (hpOf ([] : List (Blk Ty D))) nm = none := by
  unfold blkAt; cases nm.sub <;> rfl
theorem own0 (γ : Nm → Hdr) (g : Nat) (nm : Nm) : ¬ Own K (hpOf ([] : List (Blk Ty D))) γ g nm := by
  rintro ⟨⟨b, hb⟩, _⟩; rw [blk0] at hb; cases hb
/-- The memory of a call from without. -/
def Out (Ty : Type) (D : Ty → Type) (w : World) : Mem Ty D := ⟨w, fun _ g => g < w.heap.size, hpOf [], fun _ => (none, 0), (· < ([] : List (Blk Ty D)).length)⟩
theorem top {f : FuncId} {ins : List (AV Ty D)} {v : Value} (h : Contract P K f ins [] (.sc v) [] []) (w : World) (args : Array Value) (hsz : args.size = ins.length)
    (ha : ∀ (k : Nat) u x, args[k]? = some u → ins[k]? = some x → x ≠ .dd ∧ Va K (Out Ty D w) u x) : Calls P f args w fun e w' => e = .returned v ∧ Below w.heap.size w w' := by
  have hl : Lay K (Out Ty D w) := by
    refine ⟨fun nm b hb => ?_, fun g nm nm' h => (own0 _ _ _ h).elim, fun g hg => hg, fun g hg => ⟨hg, fun nm => own0 _ _ _⟩, fun id b hb => ?_⟩
    · rw [show blkAt K (Out Ty D w).H nm = none from blk0 nm] at hb; cases hb
    · cases hb
  refine (h.2.2 w (fun _ g => g < w.heap.size) (fun _ => (none, 0)) args hl (fun g hg _ => hg) hsz ha).mono fun e w' he => ?_
  obtain ⟨u, γ', he, _, _, hv, hk, _⟩ := he
  have hu : u = v := hv.1
  exact ⟨by rw [he, hu], hk.os, hk.tape, hk.output, hk.size, fun k hk' => hk.block k hk' (fun ⟨nm, ho⟩ => own0 _ _ _ ho)⟩
/-- A row of scalars that was there. -/
theorem fz_flat {w : World} {t : Ty} {l : List (D t)} {n : D t → Value} (hc : K.cells t = 1) (he : ∀ x, K.emb t x = [.sc (n x)]) (hs : ∀ x, scalar (n x) = true) {g o c len : Nat} (hg : g < w.heap.size) (hl : l.length = len) (hle : len ≤ c)
    (hcell : ∀ (i : Nat) x, l[i]? = some x → w.cell? ⟨g, o + i, none⟩ = some (n x)) (q : Nat) : Fz K w (fun g => g < w.heap.size) (.slice (some ⟨g, o, none⟩) len c) (.row q t l) := by
  subst hl
  refine ⟨1, _, _, rfl, hle, .inr ⟨g, o, rfl, hg, fun i x hx j cc hj => ?_⟩⟩
  rw [he] at hj
  cases j with
  | succ j => simp at hj
  | zero =>
    simp at hj; subst hj
    refine ⟨n x, ?_, rfl, hs x⟩
    rw [hc, ← hcell i x hx]; congr 2; omega
theorem fz_nil {w : World} {S : Nat → Prop} {t : Ty} {a : Option Addr} {c : Nat} (q : Nat) : Fz K w S (.slice a 0 c) (.row q t []) := ⟨1, a, c, rfl, Nat.zero_le _, .inl rfl⟩
end
end Go.Proofs.Ytkbfmompapcekaa.M2

/- The law FnTransactions holds, for every input: from its function's contract and the plain statement of what it answers. -/
namespace Go.Proofs.Ytkbfmompapcekaa.fnTransactions
set_option linter.unusedVariables false
set_option linter.unusedSimpArgs false
open Go Go.ChangeShapes Go.WideShapes Go.ChangeAt Go.RowKit
open Go.Proofs.Ytkbfmompapcekaa.M2 (top fz_nil fz_flat Fz Va Vc Out kit AV Ty D Contract)
theorem own : ownKnob Try.prog.godebug = none := by kernel_rfl
theorem laidOut : laidOutB Try.prog = true := by kernel_rfl
/-- Bytes that were there. -/
theorem bytes {H : Type} {enc : TypeId × Value → H} {W : World} {fuel : Nat} {v : Value} {x : DataW H × List MemPlace} (h : DataW.trod enc Try.prog W 0 (fun _ => true) true fuel 22 v.cells.toList = some x) {a : Option Addr} {len cap : Nat} (hv : v = .slice a len cap) :
    ∃ l : List Int, (∀ n ∈ l, (Lit.int .u8 n).wf = true) ∧ Fz kit W (fun g => g < W.heap.size) v (.row 0 .t5 l) := by
  subst hv
  rcases open_ints Try.underlying22 Try.underlying5 (by kernel_rfl) h with ⟨hcs, _⟩ | ⟨y, l, c, zs, hcs, _, hl, hm, hz, _, hcell, hwz⟩
  · simp [Value.cells] at hcs
    obtain ⟨rfl, rfl, rfl⟩ := hcs
    exact ⟨[], by simp, fz_nil 0⟩
  · simp [Value.cells] at hcs
    obtain ⟨rfl, rfl, rfl⟩ := hcs
    have hz : zs.length = cap := by simpa using hz
    refine ⟨zs.take len, fun n hn => hwz n (List.mem_of_mem_take hn), ?_⟩
    have hlen : (zs.take len).length = len := by rw [List.length_take]; omega
    cases len with
    | zero => rw [List.take_zero]; exact fz_nil 0
    | succ m =>
      have h0 := hcell 0 (by omega)
      have hsp : y.spot = none := by
        have := World.cell?_spot h0
        simpa [Addr.add] using this
      obtain ⟨g, o, sp⟩ := y
      simp only at hsp
      subst hsp
      have hadd : ∀ j, (⟨g, o, none⟩ : Addr).add j = ⟨g, o + j, none⟩ := fun j => by unfold Addr.add; split <;> simp_all
      have hg : g < W.heap.size := by
        rw [hadd] at h0
        unfold World.cell? at h0
        rcases Nat.lt_or_ge g W.heap.size with h | h
        · exact h
        · simp [Array.getElem?_eq_none h] at h0
      have key := fz_flat (K := kit) (w := W) (t := .t5) (l := zs.take (m + 1)) (n := fun x : Int => .int .u8 x) rfl (fun x => rfl) (fun x => rfl) (g := g) (o := o) (c := cap) (len := m + 1) hg hlen (by omega) (fun i (x : Int) (hx : (List.take (m + 1) zs : List Int)[i]? = some x) => by
        have hx : (List.take (m + 1) zs : List Int)[i]? = some x := hx
        have hi : i < (zs.take (m + 1)).length := (List.getElem?_eq_some_iff.1 hx).1
        rw [← hadd, hcell i (by rw [hlen] at hi; omega)]
        rw [List.getElem?_take] at hx
        split at hx
        · have hx : zs[i]? = some x := hx
          congr 2
          rw [List.getD_eq_getElem?_getD, hx]; rfl
        · cases hx) 0
      exact key
set_option maxRecDepth 100000 in
theorem lifted (os : Os) (started : os.Started) (H : Type) (enc : TypeId × Value → H) :
    ReturnsInHanded {} Try.checked os 3 .any (Rows.fnTransactionsSpec.pre6 enc Try.prog Try.f3 Rows.fnTransactionsRow.domain false) (Rows.fnTransactionsSpec.post enc Try.prog Try.f3 false true false false) := by
  refine returnsInHanded_of_change_sized (C := Try.checked) own started (by kernel_rfl) Try.func3
    (ChangeSpec.witness6 (enc := enc) (C := Try.checked) false ⟨#[], #[.slice none 0 0], []⟩ 8 (by kernel_rfl) (by kernel_rfl) (by kernel_rfl) (by kernel_rfl)) ?_
  intro W base args ds gs before hval0 hW hcnd hsz0 _
  have hval : ∀ (j : Nat) t v, Try.f3.params[j]? = some t → args[j]? = some v → Value.okWide Try.prog W .any base t v := hval0
  have hW' := hW
  obtain ⟨p, q, hA0, hV, rfl, hfz, hnd⟩ := hW
  have hA : DataW.TrodAll enc Try.prog W 0 (fun _ => true) true Try.f3.params.toList args.toList ds p := hA0
  rw [Try.params3] at hA hval
  obtain ⟨v0, vs0, d0, ds0, p0, q0, hargs, rfl, rfl, h0, r0⟩ := trodAll_cons hA
  obtain ⟨rfl, rfl, rfl⟩ := trodAll_nil r0
  obtain rfl : args = #[v0] := by cases args; simp_all
  obtain ⟨rfl, rfl⟩ := trodVars_none hV
  obtain ⟨a0, len0, cap0, e0⟩ := okWide_slice Try.underlying22 (hval 0 22 v0 rfl rfl)
  have k0 := h0
  have lt0 : ∀ x ∈ p0, x.block < W.heap.size := by obtain ⟨m, hm⟩ := k0; exact DataW.trod_lt m _ _ _ hm
  obtain ⟨l, wl, fz⟩ : ∃ l : List Int, (∀ n ∈ l, (Lit.int .u8 n).wf = true) ∧ Fz kit W (fun g => g < W.heap.size) v0 (.row 0 .t5 l) := by
    obtain ⟨fuel, hf⟩ := h0
    exact bytes hf e0
  clear hA0 hval0 hsz0
  obtain ⟨k, hp⟩ := Pure.FnTransactions l wl
  have con : Contract Try.prog kit 3 [.row 0 .t5 l] [] (.sc (.bool true)) [] [] := M2.laws_FnTransactions.con k l true hp
  refine (top con W #[v0] rfl (fun j u x hu hx => by
    cases j with
    | succ j => simp at hu
    | zero =>
      have hu : v0 = u := by simpa using hu
      have hx : (.row 0 .t5 l : AV Ty D) = x := by simpa using hx
      subst hu hx
      exact ⟨by simp, fz⟩)).mono fun e W' ⟨he, bel⟩ => ?_
  subst he
  exact ⟨_, rfl, _, _, _, [], _, [], hW', trodAll_mk1 (shut_bool Try.underlying4 _), (trodAll_cons_mk (Below.trod laidOut (by kernel_rfl) (of_decide_eq_true (by kernel_rfl)) k0 bel lt0) trodAll_mk0), rfl, bel.frame _, fun h => by cases h⟩
theorem over : Rows.fnTransactionsRow.holds Try.pinned (OpenSpec.ofChange Rows.fnTransactionsSpec) :=
  OpenClaim.holds_of_wide 3 Try.f3 rfl rfl rfl rfl rfl rfl rfl ⟨rfl, rfl, rfl, rfl, rfl⟩ rfl rfl rfl rfl rfl (by kernel_rfl) Try.func3 (by kernel_rfl)
    (of_decide_eq_true (by kernel_rfl)) (by unfold Func.isWrapper; first | (rw [if_pos (by decide +kernel)]; kernel_rfl) | (rw [if_neg (by decide +kernel)]; exact ⟨rfl, rfl⟩))
    (fun os started H enc _ => lifted os started H enc)
end Go.Proofs.Ytkbfmompapcekaa.fnTransactions
namespace Go.Proofs.Ytkbfmompapcekaa
/-- The row, under a short name, for the claim. -/
theorem fnTransactions_holds : Rows.FnTransactionsSaid := fnTransactions.over
end Go.Proofs.Ytkbfmompapcekaa
