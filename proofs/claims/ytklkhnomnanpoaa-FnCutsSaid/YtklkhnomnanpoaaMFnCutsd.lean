/- FnCuts: functions of the translation as Lean functions with what their calls come to, plain lemmas on them, and, at the end, the row. Parts of one proof, merged by a program of this session; each part's own sentence stands at its head. -/
import Derived.IntWalk
import Derived.KernelRfl
import Derived.Test.YtklkhnomnanpoaaMFnCutsc
/- From the print's plain functions to the own ones: small words. -/
namespace Go.Proofs.Ytklkhnomnanpoaa.M2
open Go Go.RowKit Go.Proofs.YtklkhnomnanpoaaW.PrintWords Go.Proofs.Ytklkhnomnanpoaa.PK
theorem w64_eq (n : Int) : w64 n = wrap64 n := IntWalk.i64_left n
theorem wu8_eq (n : Int) : Go.IntKind.wrap .u8 n = n % 256 := by simp [IntKind.wrap, IntKind.signed, IntKind.bits]
theorem int_beq (a b : Int) : (a == b) = decide (a = b) := rfl
theorem emp_eq : (⟨#[]⟩ : ByteArray).toList = [] := by kernel_rfl
theorem itE {α : Type} {c : Prop} [Decidable c] {a b : Option α} {r : α} {G : Prop} (h : (if c then a else b) = some r) (x : c → a = some r → G) (y : ¬ c → b = some r → G) : G := by
  by_cases hc : c
  · rw [if_pos hc] at h; exact x hc h
  · rw [if_neg hc] at h; exact y hc h
theorem bnE {α β : Type} {o : Option α} {f : α → Option β} {r : β} {G : Prop} (h : o.bind f = some r) (x : ∀ t, o = some t → f t = some r → G) : G := by
  obtain ⟨t, h1, h2⟩ := Option.bind_eq_some_iff.1 h; exact x t h1 h2
theorem bsE {α β : Type} {a : α} {f : α → Option β} {r : β} {G : Prop} (h : (some a).bind f = some r) (x : f a = some r → G) : G := x h
theorem noE {α : Type} {r : α} {G : Prop} (h : none = some r) : G := by cases h
theorem ite_inv {α : Type} {c : Prop} [Decidable c] {a b : Option α} {r : α} (h : (if c then a else b) = some r) : (c ∧ a = some r) ∨ (¬ c ∧ b = some r) := by
  by_cases hc : c
  · rw [if_pos hc] at h; exact .inl ⟨hc, h⟩
  · rw [if_neg hc] at h; exact .inr ⟨hc, h⟩
theorem fdiv33 (a : Int) : Int.fdiv a 8589934592 = a / 8589934592 := Int.fdiv_eq_ediv_of_nonneg a (by decide)
theorem fdiv45 (a : Int) : Int.fdiv a 35184372088832 = a / 35184372088832 := Int.fdiv_eq_ediv_of_nonneg a (by decide)
theorem rdT5_eq (l : List Int) (i : Int) : rd_T5 l i = rd l i := rfl
theorem rdT3_eq (l : List Int) (i : Int) : rd_T3 l i = rd l i := rfl
theorem rdn5 (l : List Int) (i : Int) : rd_T5 l ((i.toNat : Nat) : Int) = rd_T5 l i := rfl
theorem rdset5 (l : List Int) (i : Int) (y : Int) (h : i < (l.length : Int)) (h0 : 0 ≤ i) : rd_T5 (l.set i.toNat y) i = y := by
  unfold rd_T5; rw [List.getD_eq_getElem?_getD, List.getElem?_set_self (by omega)]; rfl
theorem rdn101 (l : List S101) (i : Int) : rd_T101 l ((i.toNat : Nat) : Int) = rd_T101 l i := rfl
theorem rdset101 (l : List S101) (i : Int) (y : S101) (h : i < (l.length : Int)) (h0 : 0 ≤ i) : rd_T101 (l.set i.toNat y) i = y := by
  unfold rd_T101; rw [List.getD_eq_getElem?_getD, List.getElem?_set_self (by omega)]; rfl
theorem rdn83 (l : List S83) (i : Int) : rd_T83 l ((i.toNat : Nat) : Int) = rd_T83 l i := rfl
theorem rdset83 (l : List S83) (i : Int) (y : S83) (h : i < (l.length : Int)) (h0 : 0 ≤ i) : rd_T83 (l.set i.toNat y) i = y := by
  unfold rd_T83; rw [List.getD_eq_getElem?_getD, List.getElem?_set_self (by omega)]; rfl
theorem rdn3 (l : List Int) (i : Int) : rd_T3 l ((i.toNat : Nat) : Int) = rd_T3 l i := rfl
theorem rdset3 (l : List Int) (i : Int) (y : Int) (h : i < (l.length : Int)) (h0 : 0 ≤ i) : rd_T3 (l.set i.toNat y) i = y := by
  unfold rd_T3; rw [List.getD_eq_getElem?_getD, List.getElem?_set_self (by omega)]; rfl
theorem rdn56 (l : List S56) (i : Int) : rd_T56 l ((i.toNat : Nat) : Int) = rd_T56 l i := rfl
theorem rdset56 (l : List S56) (i : Int) (y : S56) (h : i < (l.length : Int)) (h0 : 0 ≤ i) : rd_T56 (l.set i.toNat y) i = y := by
  unfold rd_T56; rw [List.getD_eq_getElem?_getD, List.getElem?_set_self (by omega)]; rfl
end Go.Proofs.Ytklkhnomnanpoaa.M2

/- What the print's plain functions answer, the own ones answer. Written by a program of this session. -/
namespace Go.Proofs.Ytklkhnomnanpoaa.M2
open Go Go.RowKit Go.Proofs.YtklkhnomnanpoaaW.PrintWords Go.Proofs.Ytklkhnomnanpoaa.PK
set_option linter.unusedVariables false
set_option linter.unusedSimpArgs false
theorem spec_l05Copy.rel_l (k : Nat) : (∀ x4 x429000 x431000 r, PK.spec_l05Copy.l0 k x4 x429000 x431000 = some r → ∀ m, k ≤ m → ∀ (h66 : List S83), spec_l05Copy.c3 m x4 x429000 h66 x431000 = some r) := by
  induction k using Nat.strongRecOn with
  | _ k ih =>
  have il0 := fun k' hk' => (ih k' hk')
  clear ih
  intro x4 x429000 x431000 r h m hm h66
  cases k with
  | zero => simp only [PK.spec_l05Copy.l0] at h; cases h
  | succ k =>
    obtain ⟨m, rfl⟩ : ∃ m', m = m' + 1 := ⟨m - 1, by omega⟩
    rw [PK.spec_l05Copy.l0] at h
    rw [spec_l05Copy.c3]
    try simp only [w64_eq, wu8_eq, gt_iff_lt, ge_iff_le, int_beq, fdiv33, fdiv45] at h
    try simp only [w64_eq, wu8_eq, gt_iff_lt, ge_iff_le, int_beq, fdiv33, fdiv45, rdT5_eq, rdT3_eq, seq, maxI, minI, emp_eq, rdn5, rdn101, rdn83, rdn3, rdn56]
    refine (itE h (fun q h => (itE h (fun q h => (bsE h (fun h => (itE h (fun q h => (itE h (fun q h => ((fun h => ?_) (il0 _ (by omega) _ _ _ _ h m (by omega)))) (fun q h => (noE h)))) (fun q h => (noE h)))))) (fun q h => (noE h)))) (fun q h => ?_))
    all_goals clear il0
    all_goals (try cases h)
    all_goals (try simp only [*, if_true, if_false, ↓reduceIte, Option.bind_some, List.length_cons, List.length_nil, List.length_append, Bool.not_true, Bool.not_false, Bool.true_eq_false, Bool.false_eq_true])
    all_goals (repeat first | rw [if_pos (by omega)] | rw [if_neg (by omega)])
    all_goals first | exact h | exact h _ | exact h _ _ | exact h _ _ _ | exact h _ _ _ _ | exact h _ _ _ _ _ | exact h _ _ _ _ _ _ | exact h _ _ _ _ _ _ _ | exact h _ _ _ _ _ _ _ _ | rfl | (simp_all [-Bool.forall_bool]; done) | (simp_all [-Bool.forall_bool]; first | exact h | exact h _ | exact h _ _ | exact h _ _ _ | exact h _ _ _ _ | exact h _ _ _ _ _ | exact h _ _ _ _ _ _ | exact h _ _ _ _ _ _ _ | exact h _ _ _ _ _ _ _ _) | (simp_all [-Bool.forall_bool, emp_eq, int_beq]; done) | (simp_all [-Bool.forall_bool]; (intros; simp_all; done)) | (simp_all [-Bool.forall_bool, rdset5, rdset101, rdset83, rdset3, rdset56]; done) | grind
theorem spec_l05Copy.rel (k : Nat) (l0_0 : List (S83)) (r) (h : PK.spec_l05Copy.f k l0_0 = some r) (m : Nat) (hm : k ≤ m) : spec_l05Copy.f m l0_0 = some r := by
  have il0 := fun k' (_ : k' < k + 1) => (spec_l05Copy.rel_l k')
  rw [PK.spec_l05Copy.f] at h
  rw [spec_l05Copy.f]
  try simp only [w64_eq, wu8_eq, gt_iff_lt, ge_iff_le, int_beq, fdiv33, fdiv45] at h
  try simp only [w64_eq, wu8_eq, gt_iff_lt, ge_iff_le, int_beq, fdiv33, fdiv45, rdT5_eq, rdT3_eq, seq, maxI, minI, emp_eq, rdn5, rdn101, rdn83, rdn3, rdn56]
  refine ((fun h => ?_) (il0 _ (by omega) _ _ _ _ h m (by omega)))
  all_goals clear il0
  all_goals (try cases h)
  all_goals (try simp only [*, if_true, if_false, ↓reduceIte, Option.bind_some, List.length_cons, List.length_nil, List.length_append, Bool.not_true, Bool.not_false, Bool.true_eq_false, Bool.false_eq_true])
  all_goals (repeat first | rw [if_pos (by omega)] | rw [if_neg (by omega)])
  all_goals first | exact h | exact h _ | exact h _ _ | exact h _ _ _ | exact h _ _ _ _ | exact h _ _ _ _ _ | exact h _ _ _ _ _ _ | exact h _ _ _ _ _ _ _ | exact h _ _ _ _ _ _ _ _ | rfl | (simp_all [-Bool.forall_bool]; done) | (simp_all [-Bool.forall_bool]; first | exact h | exact h _ | exact h _ _ | exact h _ _ _ | exact h _ _ _ _ | exact h _ _ _ _ _ | exact h _ _ _ _ _ _ | exact h _ _ _ _ _ _ _ | exact h _ _ _ _ _ _ _ _) | (simp_all [-Bool.forall_bool, emp_eq, int_beq]; done) | (simp_all [-Bool.forall_bool]; (intros; simp_all; done)) | (simp_all [-Bool.forall_bool, rdset5, rdset101, rdset83, rdset3, rdset56]; done) | grind

theorem spec_l01In.rel (k : Nat) (a0 : Int) (a1 : Int) (a2 : Int) (r) (h : PK.spec_l01In.f a0 a1 a2 = some r) (m : Nat) (hm : k ≤ m) : spec_l01In.f m a0 a1 a2 = some r := by
  rw [PK.spec_l01In.f] at h
  rw [spec_l01In.f]
  try simp only [w64_eq, wu8_eq, gt_iff_lt, ge_iff_le, int_beq, fdiv33, fdiv45] at h
  try simp only [w64_eq, wu8_eq, gt_iff_lt, ge_iff_le, int_beq, fdiv33, fdiv45, rdT5_eq, rdT3_eq, seq, maxI, minI, emp_eq, rdn5, rdn101, rdn83, rdn3, rdn56]
  refine (itE h (fun q h => ?_) (fun q h => ?_))
  all_goals (try cases h)
  all_goals (try simp only [*, if_true, if_false, ↓reduceIte, Option.bind_some, List.length_cons, List.length_nil, List.length_append, Bool.not_true, Bool.not_false, Bool.true_eq_false, Bool.false_eq_true])
  all_goals (repeat first | rw [if_pos (by omega)] | rw [if_neg (by omega)])
  all_goals first | exact h | exact h _ | exact h _ _ | exact h _ _ _ | exact h _ _ _ _ | exact h _ _ _ _ _ | exact h _ _ _ _ _ _ | exact h _ _ _ _ _ _ _ | exact h _ _ _ _ _ _ _ _ | rfl | (simp_all [-Bool.forall_bool]; done) | (simp_all [-Bool.forall_bool]; first | exact h | exact h _ | exact h _ _ | exact h _ _ _ | exact h _ _ _ _ | exact h _ _ _ _ _ | exact h _ _ _ _ _ _ | exact h _ _ _ _ _ _ _ | exact h _ _ _ _ _ _ _ _) | (simp_all [-Bool.forall_bool, emp_eq, int_beq]; done) | (simp_all [-Bool.forall_bool]; (intros; simp_all; done)) | (simp_all [-Bool.forall_bool, rdset5, rdset101, rdset83, rdset3, rdset56]; done) | grind

theorem spec_l05Leaf.rel (k : Nat) (a0_0 : Int) (a0_1 : ByteArray) (r) (h : PK.spec_l05Leaf.f a0_0 a0_1 = some r) (m : Nat) (hm : k ≤ m) : spec_l05Leaf.f m a0_0 a0_1 = some r := by
  rw [PK.spec_l05Leaf.f] at h
  rw [spec_l05Leaf.f]
  try simp only [w64_eq, wu8_eq, gt_iff_lt, ge_iff_le, int_beq, fdiv33, fdiv45] at h
  try simp only [w64_eq, wu8_eq, gt_iff_lt, ge_iff_le, int_beq, fdiv33, fdiv45, rdT5_eq, rdT3_eq, seq, maxI, minI, emp_eq, rdn5, rdn101, rdn83, rdn3, rdn56]
  refine (itE h (fun q h => ?_) (fun q h => (itE h (fun q h => (bnE h (fun _ g h => (fun g => ?_) (spec_l01In.rel m _ _ _ _ g m (by omega))))) (fun q h => (itE h (fun q h => ?_) (fun q h => ?_))))))
  all_goals (try cases h)
  all_goals (try simp only [*, if_true, if_false, ↓reduceIte, Option.bind_some, List.length_cons, List.length_nil, List.length_append, Bool.not_true, Bool.not_false, Bool.true_eq_false, Bool.false_eq_true])
  all_goals (repeat first | rw [if_pos (by omega)] | rw [if_neg (by omega)])
  all_goals first | exact h | exact h _ | exact h _ _ | exact h _ _ _ | exact h _ _ _ _ | exact h _ _ _ _ _ | exact h _ _ _ _ _ _ | exact h _ _ _ _ _ _ _ | exact h _ _ _ _ _ _ _ _ | rfl | (simp_all [-Bool.forall_bool]; done) | (simp_all [-Bool.forall_bool]; first | exact h | exact h _ | exact h _ _ | exact h _ _ _ | exact h _ _ _ _ | exact h _ _ _ _ _ | exact h _ _ _ _ _ _ | exact h _ _ _ _ _ _ _ | exact h _ _ _ _ _ _ _ _) | (simp_all [-Bool.forall_bool, emp_eq, int_beq]; done) | (simp_all [-Bool.forall_bool]; (intros; simp_all; done)) | (simp_all [-Bool.forall_bool, rdset5, rdset101, rdset83, rdset3, rdset56]; done) | grind
end Go.Proofs.Ytklkhnomnanpoaa.M2

/- What the print's plain functions answer, the own ones answer. Written by a program of this session. -/
namespace Go.Proofs.Ytklkhnomnanpoaa.M2
open Go Go.RowKit Go.Proofs.YtklkhnomnanpoaaW.PrintWords Go.Proofs.Ytklkhnomnanpoaa.PK
set_option linter.unusedVariables false
set_option linter.unusedSimpArgs false
theorem spec_FlashOk.rel_l (k : Nat) : (∀ x3 x445000 r, PK.spec_FlashOk.l0 k x3 x445000 = some r → ∀ m, k ≤ m → spec_FlashOk.c2 m x3 x445000 = some r) ∧ (∀ x3 x5 x445000 x448000 x448001 x448002 r, PK.spec_FlashOk.l1 k x3 x5 x445000 x448000 x448001 x448002 = some r → ∀ m, k ≤ m → ∀ (x24 : Int), ∀ (x25 : Bool), ∀ (x26 : Bool), spec_FlashOk.c8 m x3 x5 x24 x25 x26 x445000 x448000 x448001 x448002 = some r) := by
  induction k using Nat.strongRecOn with
  | _ k ih =>
  have il0 := fun k' hk' => (ih k' hk').1
  have il1 := fun k' hk' => (ih k' hk').2
  clear ih
  refine ⟨?_, ?_⟩
  · intro x3 x445000 r h m hm
    cases k with
    | zero => simp only [PK.spec_FlashOk.l0] at h; cases h
    | succ k =>
      obtain ⟨m, rfl⟩ : ∃ m', m = m' + 1 := ⟨m - 1, by omega⟩
      rw [PK.spec_FlashOk.l0] at h
      rw [spec_FlashOk.c2]
      try simp only [w64_eq, wu8_eq, gt_iff_lt, ge_iff_le, int_beq, fdiv33, fdiv45] at h
      try simp only [w64_eq, wu8_eq, gt_iff_lt, ge_iff_le, int_beq, fdiv33, fdiv45, rdT5_eq, rdT3_eq, seq, maxI, minI, emp_eq, rdn5, rdn101, rdn83, rdn3, rdn56]
      refine (itE h (fun q h => (itE h (fun q h => (itE h (fun q h => (bnE h (fun _ g h => (fun g => (by cases k with | zero => (simp only [PK.spec_FlashOk.j1] at h; cases h) | succ k => (rw [PK.spec_FlashOk.j1] at h; (try simp only [w64_eq, wu8_eq, gt_iff_lt, ge_iff_le, int_beq, fdiv33, fdiv45] at h); refine (itE h (fun q h => ?_) (fun q h => ((fun h => ?_) (il1 _ (by omega) _ _ _ _ _ _ _ h m (by omega))))) <;> ((try cases h); (try simp only [*, if_true, if_false, ↓reduceIte, Option.bind_some, List.length_cons, List.length_nil, List.length_append, Bool.not_true, Bool.not_false, Bool.true_eq_false, Bool.false_eq_true]); all_goals (repeat first | rw [if_pos (by omega)] | rw [if_neg (by omega)]); all_goals (first | exact h | exact h _ | exact h _ _ | exact h _ _ _ | exact h _ _ _ _ | exact h _ _ _ _ _ | exact h _ _ _ _ _ _ | exact h _ _ _ _ _ _ _ | exact h _ _ _ _ _ _ _ _ | rfl | (simp_all [-Bool.forall_bool]; done) | (simp_all [-Bool.forall_bool]; first | exact h | exact h _ | exact h _ _ | exact h _ _ _ | exact h _ _ _ _ | exact h _ _ _ _ _ | exact h _ _ _ _ _ _ | exact h _ _ _ _ _ _ _ | exact h _ _ _ _ _ _ _ _) | (simp_all [-Bool.forall_bool, emp_eq, int_beq]; done) | (simp_all [-Bool.forall_bool]; (intros; simp_all; done)) | (simp_all [-Bool.forall_bool, rdset5, rdset101, rdset83, rdset3, rdset56]; done) | grind))))) (spec_l01In.rel m _ _ _ _ g m (by omega))))) (fun q h => (by cases k with | zero => (simp only [PK.spec_FlashOk.j1] at h; cases h) | succ k => (rw [PK.spec_FlashOk.j1] at h; (try simp only [w64_eq, wu8_eq, gt_iff_lt, ge_iff_le, int_beq, fdiv33, fdiv45] at h); refine (itE h (fun q h => ?_) (fun q h => ((fun h => ?_) (il1 _ (by omega) _ _ _ _ _ _ _ h m (by omega))))) <;> ((try cases h); (try simp only [*, if_true, if_false, ↓reduceIte, Option.bind_some, List.length_cons, List.length_nil, List.length_append, Bool.not_true, Bool.not_false, Bool.true_eq_false, Bool.false_eq_true]); all_goals (repeat first | rw [if_pos (by omega)] | rw [if_neg (by omega)]); all_goals (first | exact h | exact h _ | exact h _ _ | exact h _ _ _ | exact h _ _ _ _ | exact h _ _ _ _ _ | exact h _ _ _ _ _ _ | exact h _ _ _ _ _ _ _ | exact h _ _ _ _ _ _ _ _ | rfl | (simp_all [-Bool.forall_bool]; done) | (simp_all [-Bool.forall_bool]; first | exact h | exact h _ | exact h _ _ | exact h _ _ _ | exact h _ _ _ _ | exact h _ _ _ _ _ | exact h _ _ _ _ _ _ | exact h _ _ _ _ _ _ _ | exact h _ _ _ _ _ _ _ _) | (simp_all [-Bool.forall_bool, emp_eq, int_beq]; done) | (simp_all [-Bool.forall_bool]; (intros; simp_all; done)) | (simp_all [-Bool.forall_bool, rdset5, rdset101, rdset83, rdset3, rdset56]; done) | grind))))))) (fun q h => (noE h)))) (fun q h => (bnE h (fun _ g h => (fun g => ?_) (spec_l01In.rel m _ _ _ _ g m (by omega))))))
      all_goals clear il0 il1
      all_goals (try cases h)
      all_goals (try simp only [*, if_true, if_false, ↓reduceIte, Option.bind_some, List.length_cons, List.length_nil, List.length_append, Bool.not_true, Bool.not_false, Bool.true_eq_false, Bool.false_eq_true])
      all_goals (repeat first | rw [if_pos (by omega)] | rw [if_neg (by omega)])
      all_goals first | exact h | exact h _ | exact h _ _ | exact h _ _ _ | exact h _ _ _ _ | exact h _ _ _ _ _ | exact h _ _ _ _ _ _ | exact h _ _ _ _ _ _ _ | exact h _ _ _ _ _ _ _ _ | rfl | (simp_all [-Bool.forall_bool]; done) | (simp_all [-Bool.forall_bool]; first | exact h | exact h _ | exact h _ _ | exact h _ _ _ | exact h _ _ _ _ | exact h _ _ _ _ _ | exact h _ _ _ _ _ _ | exact h _ _ _ _ _ _ _ | exact h _ _ _ _ _ _ _ _) | (simp_all [-Bool.forall_bool, emp_eq, int_beq]; done) | (simp_all [-Bool.forall_bool]; (intros; simp_all; done)) | (simp_all [-Bool.forall_bool, rdset5, rdset101, rdset83, rdset3, rdset56]; done) | grind
  · intro x3 x5 x445000 x448000 x448001 x448002 r h m hm x24 x25 x26
    cases k with
    | zero => simp only [PK.spec_FlashOk.l1] at h; cases h
    | succ k =>
      obtain ⟨m, rfl⟩ : ∃ m', m = m' + 1 := ⟨m - 1, by omega⟩
      rw [PK.spec_FlashOk.l1] at h
      rw [spec_FlashOk.c8]
      try simp only [w64_eq, wu8_eq, gt_iff_lt, ge_iff_le, int_beq, fdiv33, fdiv45] at h
      try simp only [w64_eq, wu8_eq, gt_iff_lt, ge_iff_le, int_beq, fdiv33, fdiv45, rdT5_eq, rdT3_eq, seq, maxI, minI, emp_eq, rdn5, rdn101, rdn83, rdn3, rdn56]
      refine (itE h (fun q h => (itE h (fun q h => (bnE h (fun _ g h => (fun g => (itE h (fun q h => (itE h (fun q h => (itE h (fun q h => (itE h (fun q h => (itE h (fun q h => (itE h (fun q h => ((fun h => ?_) (il1 _ (by omega) _ _ _ _ _ _ _ h m (by omega)))) (fun q h => ?_))) (fun q h => ((fun h => ?_) (il1 _ (by omega) _ _ _ _ _ _ _ h m (by omega)))))) (fun q h => (noE h)))) (fun q h => (noE h)))) (fun q h => ((fun h => ?_) (il1 _ (by omega) _ _ _ _ _ _ _ h m (by omega)))))) (fun q h => ?_))) (spec_l05Leaf.rel m _ _ _ g m (by omega))))) (fun q h => (noE h)))) (fun q h => ((fun h => ?_) (il0 _ (by omega) _ _ _ h m (by omega)))))
      all_goals clear il0 il1
      all_goals (try cases h)
      all_goals (try simp only [*, if_true, if_false, ↓reduceIte, Option.bind_some, List.length_cons, List.length_nil, List.length_append, Bool.not_true, Bool.not_false, Bool.true_eq_false, Bool.false_eq_true])
      all_goals (repeat first | rw [if_pos (by omega)] | rw [if_neg (by omega)])
      all_goals first | exact h | exact h _ | exact h _ _ | exact h _ _ _ | exact h _ _ _ _ | exact h _ _ _ _ _ | exact h _ _ _ _ _ _ | exact h _ _ _ _ _ _ _ | exact h _ _ _ _ _ _ _ _ | rfl | (simp_all [-Bool.forall_bool]; done) | (simp_all [-Bool.forall_bool]; first | exact h | exact h _ | exact h _ _ | exact h _ _ _ | exact h _ _ _ _ | exact h _ _ _ _ _ | exact h _ _ _ _ _ _ | exact h _ _ _ _ _ _ _ | exact h _ _ _ _ _ _ _ _) | (simp_all [-Bool.forall_bool, emp_eq, int_beq]; done) | (simp_all [-Bool.forall_bool]; (intros; simp_all; done)) | (simp_all [-Bool.forall_bool, rdset5, rdset101, rdset83, rdset3, rdset56]; done) | grind
theorem spec_FlashOk.rel (k : Nat) (l0_0 : List (S83)) (r) (h : PK.spec_FlashOk.f k l0_0 = some r) (m : Nat) (hm : k ≤ m) : spec_FlashOk.f m l0_0 = some r := by
  have il0 := fun k' (_ : k' < k + 1) => (spec_FlashOk.rel_l k').1
  have il1 := fun k' (_ : k' < k + 1) => (spec_FlashOk.rel_l k').2
  rw [PK.spec_FlashOk.f] at h
  rw [spec_FlashOk.f]
  try simp only [w64_eq, wu8_eq, gt_iff_lt, ge_iff_le, int_beq, fdiv33, fdiv45] at h
  try simp only [w64_eq, wu8_eq, gt_iff_lt, ge_iff_le, int_beq, fdiv33, fdiv45, rdT5_eq, rdT3_eq, seq, maxI, minI, emp_eq, rdn5, rdn101, rdn83, rdn3, rdn56]
  refine ((fun h => ?_) (il0 _ (by omega) _ _ _ h m (by omega)))
  all_goals clear il0 il1
  all_goals (try cases h)
  all_goals (try simp only [*, if_true, if_false, ↓reduceIte, Option.bind_some, List.length_cons, List.length_nil, List.length_append, Bool.not_true, Bool.not_false, Bool.true_eq_false, Bool.false_eq_true])
  all_goals (repeat first | rw [if_pos (by omega)] | rw [if_neg (by omega)])
  all_goals first | exact h | exact h _ | exact h _ _ | exact h _ _ _ | exact h _ _ _ _ | exact h _ _ _ _ _ | exact h _ _ _ _ _ _ | exact h _ _ _ _ _ _ _ | exact h _ _ _ _ _ _ _ _ | rfl | (simp_all [-Bool.forall_bool]; done) | (simp_all [-Bool.forall_bool]; first | exact h | exact h _ | exact h _ _ | exact h _ _ _ | exact h _ _ _ _ | exact h _ _ _ _ _ | exact h _ _ _ _ _ _ | exact h _ _ _ _ _ _ _ | exact h _ _ _ _ _ _ _ _) | (simp_all [-Bool.forall_bool, emp_eq, int_beq]; done) | (simp_all [-Bool.forall_bool]; (intros; simp_all; done)) | (simp_all [-Bool.forall_bool, rdset5, rdset101, rdset83, rdset3, rdset56]; done) | grind
end Go.Proofs.Ytklkhnomnanpoaa.M2

/- What the print's plain functions answer, the own ones answer. Written by a program of this session. -/
namespace Go.Proofs.Ytklkhnomnanpoaa.M2
open Go Go.RowKit Go.Proofs.YtklkhnomnanpoaaW.PrintWords Go.Proofs.Ytklkhnomnanpoaa.PK
set_option linter.unusedVariables false
set_option linter.unusedSimpArgs false
theorem spec_l01Byte.rel (k : Nat) (s0_0 : List Int) (s0_1 : Int) (s0_2 : Int) (r) (h : PK.spec_l01Byte.f s0_0 s0_1 s0_2 = some r) (m : Nat) (hm : k ≤ m) : spec_l01Byte.f m s0_0 s0_1 s0_2 = some (r.1, s0_0, r.2.1, r.2.2) := by
  rw [PK.spec_l01Byte.f] at h
  rw [spec_l01Byte.f]
  try simp only [w64_eq, wu8_eq, gt_iff_lt, ge_iff_le, int_beq, fdiv33, fdiv45] at h
  try simp only [w64_eq, wu8_eq, gt_iff_lt, ge_iff_le, int_beq, fdiv33, fdiv45, rdT5_eq, rdT3_eq, seq, maxI, minI, emp_eq, rdn5, rdn101, rdn83, rdn3, rdn56]
  refine (itE h (fun q h => (itE h (fun q h => ?_) (fun q h => (noE h)))) (fun q h => ?_))
  all_goals (try cases h)
  all_goals (try simp only [*, if_true, if_false, ↓reduceIte, Option.bind_some, List.length_cons, List.length_nil, List.length_append, Bool.not_true, Bool.not_false, Bool.true_eq_false, Bool.false_eq_true])
  all_goals (repeat first | rw [if_pos (by omega)] | rw [if_neg (by omega)])
  all_goals first | exact h | exact h _ | exact h _ _ | exact h _ _ _ | exact h _ _ _ _ | exact h _ _ _ _ _ | exact h _ _ _ _ _ _ | exact h _ _ _ _ _ _ _ | exact h _ _ _ _ _ _ _ _ | rfl | (simp_all [-Bool.forall_bool]; done) | (simp_all [-Bool.forall_bool]; first | exact h | exact h _ | exact h _ _ | exact h _ _ _ | exact h _ _ _ _ | exact h _ _ _ _ _ | exact h _ _ _ _ _ _ | exact h _ _ _ _ _ _ _ | exact h _ _ _ _ _ _ _ _) | (simp_all [-Bool.forall_bool, emp_eq, int_beq]; done) | (simp_all [-Bool.forall_bool]; (intros; simp_all; done)) | (simp_all [-Bool.forall_bool, rdset5, rdset101, rdset83, rdset3, rdset56]; done) | grind

theorem spec_l01Below.rel (k : Nat) (s0_0 : List Int) (s0_1 : Int) (s0_2 : Int) (a1 : Int) (r) (h : PK.spec_l01Below.f s0_0 s0_1 s0_2 a1 = some r) (m : Nat) (hm : k ≤ m) : spec_l01Below.f m a1 s0_0 s0_1 s0_2 = some (r.1, s0_0, r.2.1, r.2.2) := by
  rw [PK.spec_l01Below.f] at h
  rw [spec_l01Below.f]
  try simp only [w64_eq, wu8_eq, gt_iff_lt, ge_iff_le, int_beq, fdiv33, fdiv45] at h
  try simp only [w64_eq, wu8_eq, gt_iff_lt, ge_iff_le, int_beq, fdiv33, fdiv45, rdT5_eq, rdT3_eq, seq, maxI, minI, emp_eq, rdn5, rdn101, rdn83, rdn3, rdn56]
  refine (itE h (fun q h => ?_) (fun q h => (itE h (fun q h => (bnE h (fun _ g h => (fun g => (itE h (fun q h => (noE h)) (fun q h => ?_))) (spec_l01Byte.rel m _ _ _ _ g m (by omega))))) (fun q h => (bnE h (fun _ g h => (fun g => (bnE h (fun _ g h => (fun g => (bnE h (fun _ g h => (fun g => (bnE h (fun _ g h => (fun g => (itE h (fun q h => (noE h)) (fun q h => ?_))) (spec_l01Byte.rel m _ _ _ _ g m (by omega))))) (spec_l01Byte.rel m _ _ _ _ g m (by omega))))) (spec_l01Byte.rel m _ _ _ _ g m (by omega))))) (spec_l01Byte.rel m _ _ _ _ g m (by omega))))))))
  all_goals (try cases h)
  all_goals (try simp only [*, if_true, if_false, ↓reduceIte, Option.bind_some, List.length_cons, List.length_nil, List.length_append, Bool.not_true, Bool.not_false, Bool.true_eq_false, Bool.false_eq_true])
  all_goals (repeat first | rw [if_pos (by omega)] | rw [if_neg (by omega)])
  all_goals first | exact h | exact h _ | exact h _ _ | exact h _ _ _ | exact h _ _ _ _ | exact h _ _ _ _ _ | exact h _ _ _ _ _ _ | exact h _ _ _ _ _ _ _ | exact h _ _ _ _ _ _ _ _ | rfl | (simp_all [-Bool.forall_bool]; done) | (simp_all [-Bool.forall_bool]; first | exact h | exact h _ | exact h _ _ | exact h _ _ _ | exact h _ _ _ _ | exact h _ _ _ _ _ | exact h _ _ _ _ _ _ | exact h _ _ _ _ _ _ _ | exact h _ _ _ _ _ _ _ _) | (simp_all [-Bool.forall_bool, emp_eq, int_beq]; done) | (simp_all [-Bool.forall_bool]; (intros; simp_all; done)) | (simp_all [-Bool.forall_bool, rdset5, rdset101, rdset83, rdset3, rdset56]; done) | grind

theorem spec_l01New.rel_l (k : Nat) : (∀ x0 x3 x4 r, PK.spec_l01New.l0 k x0 x3 x4 = some r → ∀ m, k ≤ m → spec_l01New.c3 m x0 x3 x4 = some (r.1, r.2.1, r.2.2)) := by
  induction k using Nat.strongRecOn with
  | _ k ih =>
  have il0 := fun k' hk' => (ih k' hk')
  clear ih
  intro x0 x3 x4 r h m hm
  cases k with
  | zero => simp only [PK.spec_l01New.l0] at h; cases h
  | succ k =>
    obtain ⟨m, rfl⟩ : ∃ m', m = m' + 1 := ⟨m - 1, by omega⟩
    rw [PK.spec_l01New.l0] at h
    rw [spec_l01New.c3]
    try simp only [w64_eq, wu8_eq, gt_iff_lt, ge_iff_le, int_beq, fdiv33, fdiv45] at h
    try simp only [w64_eq, wu8_eq, gt_iff_lt, ge_iff_le, int_beq, fdiv33, fdiv45, rdT5_eq, rdT3_eq, seq, maxI, minI, emp_eq, rdn5, rdn101, rdn83, rdn3, rdn56]
    refine (itE h (fun q h => (itE h (fun q h => (itE h (fun q h => ((fun h => ?_) (il0 _ (by omega) _ _ _ _ h m (by omega)))) (fun q h => (noE h)))) (fun q h => ?_))) (fun q h => ?_))
    all_goals clear il0
    all_goals (try cases h)
    all_goals (try simp only [*, if_true, if_false, ↓reduceIte, Option.bind_some, List.length_cons, List.length_nil, List.length_append, Bool.not_true, Bool.not_false, Bool.true_eq_false, Bool.false_eq_true])
    all_goals (repeat first | rw [if_pos (by omega)] | rw [if_neg (by omega)])
    all_goals first | exact h | exact h _ | exact h _ _ | exact h _ _ _ | exact h _ _ _ _ | exact h _ _ _ _ _ | exact h _ _ _ _ _ _ | exact h _ _ _ _ _ _ _ | exact h _ _ _ _ _ _ _ _ | rfl | (simp_all [-Bool.forall_bool]; done) | (simp_all [-Bool.forall_bool]; first | exact h | exact h _ | exact h _ _ | exact h _ _ _ | exact h _ _ _ _ | exact h _ _ _ _ _ | exact h _ _ _ _ _ _ | exact h _ _ _ _ _ _ _ | exact h _ _ _ _ _ _ _ _) | (simp_all [-Bool.forall_bool, emp_eq, int_beq]; done) | (simp_all [-Bool.forall_bool]; (intros; simp_all; done)) | (simp_all [-Bool.forall_bool, rdset5, rdset101, rdset83, rdset3, rdset56]; done) | grind
theorem spec_l01New.rel (k : Nat) (l0 : List Int) (r) (h : PK.spec_l01New.f k l0 = some r) (m : Nat) (hm : k ≤ m) : spec_l01New.f m l0 = some (r.1, r.2.1, r.2.2) := by
  have il0 := fun k' (_ : k' < k + 1) => (spec_l01New.rel_l k')
  rw [PK.spec_l01New.f] at h
  rw [spec_l01New.f]
  try simp only [w64_eq, wu8_eq, gt_iff_lt, ge_iff_le, int_beq, fdiv33, fdiv45] at h
  try simp only [w64_eq, wu8_eq, gt_iff_lt, ge_iff_le, int_beq, fdiv33, fdiv45, rdT5_eq, rdT3_eq, seq, maxI, minI, emp_eq, rdn5, rdn101, rdn83, rdn3, rdn56]
  refine ((fun h => ?_) (il0 _ (by omega) _ _ _ _ h m (by omega)))
  all_goals clear il0
  all_goals (try cases h)
  all_goals (try simp only [*, if_true, if_false, ↓reduceIte, Option.bind_some, List.length_cons, List.length_nil, List.length_append, Bool.not_true, Bool.not_false, Bool.true_eq_false, Bool.false_eq_true])
  all_goals (repeat first | rw [if_pos (by omega)] | rw [if_neg (by omega)])
  all_goals first | exact h | exact h _ | exact h _ _ | exact h _ _ _ | exact h _ _ _ _ | exact h _ _ _ _ _ | exact h _ _ _ _ _ _ | exact h _ _ _ _ _ _ _ | exact h _ _ _ _ _ _ _ _ | rfl | (simp_all [-Bool.forall_bool]; done) | (simp_all [-Bool.forall_bool]; first | exact h | exact h _ | exact h _ _ | exact h _ _ _ | exact h _ _ _ _ | exact h _ _ _ _ _ | exact h _ _ _ _ _ _ | exact h _ _ _ _ _ _ _ | exact h _ _ _ _ _ _ _ _) | (simp_all [-Bool.forall_bool, emp_eq, int_beq]; done) | (simp_all [-Bool.forall_bool]; (intros; simp_all; done)) | (simp_all [-Bool.forall_bool, rdset5, rdset101, rdset83, rdset3, rdset56]; done) | grind
end Go.Proofs.Ytklkhnomnanpoaa.M2

/- What the print's plain functions answer, the own ones answer. Written by a program of this session. -/
namespace Go.Proofs.Ytklkhnomnanpoaa.M2
open Go Go.RowKit Go.Proofs.YtklkhnomnanpoaaW.PrintWords Go.Proofs.Ytklkhnomnanpoaa.PK
set_option linter.unusedVariables false
set_option linter.unusedSimpArgs false
theorem spec_DrawPlaces.rel_l (k : Nat) : (∀ x4 x5 x1048000 x1048001 x1048002 r, PK.spec_DrawPlaces.l0 k x4 x5 x1048000 x1048001 x1048002 = some r → ∀ m, k ≤ m → spec_DrawPlaces.c5 m x5 x1048000 x1048001 x1048002 x4 = some r) := by
  induction k using Nat.strongRecOn with
  | _ k ih =>
  have il0 := fun k' hk' => (ih k' hk')
  clear ih
  intro x4 x5 x1048000 x1048001 x1048002 r h m hm
  cases k with
  | zero => simp only [PK.spec_DrawPlaces.l0] at h; cases h
  | succ k =>
    obtain ⟨m, rfl⟩ : ∃ m', m = m' + 1 := ⟨m - 1, by omega⟩
    rw [PK.spec_DrawPlaces.l0] at h
    rw [spec_DrawPlaces.c5]
    try simp only [w64_eq, wu8_eq, gt_iff_lt, ge_iff_le, int_beq, fdiv33, fdiv45] at h
    try simp only [w64_eq, wu8_eq, gt_iff_lt, ge_iff_le, int_beq, fdiv33, fdiv45, rdT5_eq, rdT3_eq, seq, maxI, minI, emp_eq, rdn5, rdn101, rdn83, rdn3, rdn56]
    refine (itE h (fun q h => (bnE h (fun _ g h => (fun g => (itE h (fun q h => ((fun h => ?_) (il0 _ (by omega) _ _ _ _ _ _ h m (by omega)))) (fun q h => (noE h)))) (spec_l01Below.rel m _ _ _ _ _ g m (by omega))))) (fun q h => ?_))
    all_goals clear il0
    all_goals (try cases h)
    all_goals (try simp only [*, if_true, if_false, ↓reduceIte, Option.bind_some, List.length_cons, List.length_nil, List.length_append, Bool.not_true, Bool.not_false, Bool.true_eq_false, Bool.false_eq_true])
    all_goals (repeat first | rw [if_pos (by omega)] | rw [if_neg (by omega)])
    all_goals first | exact h | exact h _ | exact h _ _ | exact h _ _ _ | exact h _ _ _ _ | exact h _ _ _ _ _ | exact h _ _ _ _ _ _ | exact h _ _ _ _ _ _ _ | exact h _ _ _ _ _ _ _ _ | rfl | (simp_all [-Bool.forall_bool]; done) | (simp_all [-Bool.forall_bool]; first | exact h | exact h _ | exact h _ _ | exact h _ _ _ | exact h _ _ _ _ | exact h _ _ _ _ _ | exact h _ _ _ _ _ _ | exact h _ _ _ _ _ _ _ | exact h _ _ _ _ _ _ _ _) | (simp_all [-Bool.forall_bool, emp_eq, int_beq]; done) | (simp_all [-Bool.forall_bool]; (intros; simp_all; done)) | (simp_all [-Bool.forall_bool, rdset5, rdset101, rdset83, rdset3, rdset56]; done) | grind
theorem spec_DrawPlaces.rel (k : Nat) (l0 : List Int) (r) (h : PK.spec_DrawPlaces.f k l0 = some r) (m : Nat) (hm : k ≤ m) : spec_DrawPlaces.f m l0 = some r := by
  have il0 := fun k' (_ : k' < k + 1) => (spec_DrawPlaces.rel_l k')
  rw [PK.spec_DrawPlaces.f] at h
  rw [spec_DrawPlaces.f]
  try simp only [w64_eq, wu8_eq, gt_iff_lt, ge_iff_le, int_beq, fdiv33, fdiv45] at h
  try simp only [w64_eq, wu8_eq, gt_iff_lt, ge_iff_le, int_beq, fdiv33, fdiv45, rdT5_eq, rdT3_eq, seq, maxI, minI, emp_eq, rdn5, rdn101, rdn83, rdn3, rdn56]
  refine (bnE h (fun _ g h => (fun g => (bnE h (fun _ g h => (fun g => ((fun h => ?_) (il0 _ (by omega) _ _ _ _ _ _ h m (by omega)))) (spec_l01Byte.rel m _ _ _ _ g m (by omega))))) (spec_l01New.rel _ _ _ g m (by omega))))
  all_goals clear il0
  all_goals (try cases h)
  all_goals (try simp only [*, if_true, if_false, ↓reduceIte, Option.bind_some, List.length_cons, List.length_nil, List.length_append, Bool.not_true, Bool.not_false, Bool.true_eq_false, Bool.false_eq_true])
  all_goals (repeat first | rw [if_pos (by omega)] | rw [if_neg (by omega)])
  all_goals first | exact h | exact h _ | exact h _ _ | exact h _ _ _ | exact h _ _ _ _ | exact h _ _ _ _ _ | exact h _ _ _ _ _ _ | exact h _ _ _ _ _ _ _ | exact h _ _ _ _ _ _ _ _ | rfl | (simp_all [-Bool.forall_bool]; done) | (simp_all [-Bool.forall_bool]; first | exact h | exact h _ | exact h _ _ | exact h _ _ _ | exact h _ _ _ _ | exact h _ _ _ _ _ | exact h _ _ _ _ _ _ | exact h _ _ _ _ _ _ _ | exact h _ _ _ _ _ _ _ _) | (simp_all [-Bool.forall_bool, emp_eq, int_beq]; done) | (simp_all [-Bool.forall_bool]; (intros; simp_all; done)) | (simp_all [-Bool.forall_bool, rdset5, rdset101, rdset83, rdset3, rdset56]; done) | grind

theorem spec_l01PickInt.rel (k : Nat) (s0_0 : List Int) (s0_1 : Int) (s0_2 : Int) (l1 : List Int) (r) (h : PK.spec_l01PickInt.f s0_0 s0_1 s0_2 l1 = some r) (m : Nat) (hm : k ≤ m) : spec_l01PickInt.f m l1 s0_0 s0_1 s0_2 = some (r.1, s0_0, r.2.1, r.2.2) := by
  rw [PK.spec_l01PickInt.f] at h
  rw [spec_l01PickInt.f]
  try simp only [w64_eq, wu8_eq, gt_iff_lt, ge_iff_le, int_beq, fdiv33, fdiv45] at h
  try simp only [w64_eq, wu8_eq, gt_iff_lt, ge_iff_le, int_beq, fdiv33, fdiv45, rdT5_eq, rdT3_eq, seq, maxI, minI, emp_eq, rdn5, rdn101, rdn83, rdn3, rdn56]
  refine (bnE h (fun _ g h => (fun g => (itE h (fun q h => (itE h (fun q h => ?_) (fun q h => (noE h)))) (fun q h => (noE h)))) (spec_l01Below.rel m _ _ _ _ _ g m (by omega))))
  all_goals (try cases h)
  all_goals (try simp only [*, if_true, if_false, ↓reduceIte, Option.bind_some, List.length_cons, List.length_nil, List.length_append, Bool.not_true, Bool.not_false, Bool.true_eq_false, Bool.false_eq_true])
  all_goals (repeat first | rw [if_pos (by omega)] | rw [if_neg (by omega)])
  all_goals first | exact h | exact h _ | exact h _ _ | exact h _ _ _ | exact h _ _ _ _ | exact h _ _ _ _ _ | exact h _ _ _ _ _ _ | exact h _ _ _ _ _ _ _ | exact h _ _ _ _ _ _ _ _ | rfl | (simp_all [-Bool.forall_bool]; done) | (simp_all [-Bool.forall_bool]; first | exact h | exact h _ | exact h _ _ | exact h _ _ _ | exact h _ _ _ _ | exact h _ _ _ _ _ | exact h _ _ _ _ _ _ | exact h _ _ _ _ _ _ _ | exact h _ _ _ _ _ _ _ _) | (simp_all [-Bool.forall_bool, emp_eq, int_beq]; done) | (simp_all [-Bool.forall_bool]; (intros; simp_all; done)) | (simp_all [-Bool.forall_bool, rdset5, rdset101, rdset83, rdset3, rdset56]; done) | grind

theorem spec_l01Once.rel (k : Nat) (s0_0 : List Int) (s0_1 : Int) (s0_2 : Int) (a1 : Int) (r) (h : PK.spec_l01Once.f s0_0 s0_1 s0_2 a1 = some r) (m : Nat) (hm : k ≤ m) : spec_l01Once.f m a1 s0_0 s0_1 s0_2 = some (r.1, s0_0, r.2.1, r.2.2) := by
  rw [PK.spec_l01Once.f] at h
  rw [spec_l01Once.f]
  try simp only [w64_eq, wu8_eq, gt_iff_lt, ge_iff_le, int_beq, fdiv33, fdiv45] at h
  try simp only [w64_eq, wu8_eq, gt_iff_lt, ge_iff_le, int_beq, fdiv33, fdiv45, rdT5_eq, rdT3_eq, seq, maxI, minI, emp_eq, rdn5, rdn101, rdn83, rdn3, rdn56]
  refine (bnE h (fun _ g h => (fun g => ?_) (spec_l01Below.rel m _ _ _ _ _ g m (by omega))))
  all_goals (try cases h)
  all_goals (try simp only [*, if_true, if_false, ↓reduceIte, Option.bind_some, List.length_cons, List.length_nil, List.length_append, Bool.not_true, Bool.not_false, Bool.true_eq_false, Bool.false_eq_true])
  all_goals (repeat first | rw [if_pos (by omega)] | rw [if_neg (by omega)])
  all_goals first | exact h | exact h _ | exact h _ _ | exact h _ _ _ | exact h _ _ _ _ | exact h _ _ _ _ _ | exact h _ _ _ _ _ _ | exact h _ _ _ _ _ _ _ | exact h _ _ _ _ _ _ _ _ | rfl | (simp_all [-Bool.forall_bool]; done) | (simp_all [-Bool.forall_bool]; first | exact h | exact h _ | exact h _ _ | exact h _ _ _ | exact h _ _ _ _ | exact h _ _ _ _ _ | exact h _ _ _ _ _ _ | exact h _ _ _ _ _ _ _ | exact h _ _ _ _ _ _ _ _) | (simp_all [-Bool.forall_bool, emp_eq, int_beq]; done) | (simp_all [-Bool.forall_bool]; (intros; simp_all; done)) | (simp_all [-Bool.forall_bool, rdset5, rdset101, rdset83, rdset3, rdset56]; done) | grind
end Go.Proofs.Ytklkhnomnanpoaa.M2

/- What the print's plain functions answer, the own ones answer. Written by a program of this session. -/
namespace Go.Proofs.Ytklkhnomnanpoaa.M2
open Go Go.RowKit Go.Proofs.YtklkhnomnanpoaaW.PrintWords Go.Proofs.Ytklkhnomnanpoaa.PK
set_option linter.unusedVariables false
set_option linter.unusedSimpArgs false
theorem spec_l01Place.rel (k : Nat) (s0_0 : List Int) (s0_1 : Int) (s0_2 : Int) (a1 : Int) (r) (h : PK.spec_l01Place.f s0_0 s0_1 s0_2 a1 = some r) (m : Nat) (hm : k ≤ m) : spec_l01Place.f m a1 s0_0 s0_1 s0_2 = some (r.1, s0_0, r.2.1, r.2.2) := by
  rw [PK.spec_l01Place.f] at h
  rw [spec_l01Place.f]
  try simp only [w64_eq, wu8_eq, gt_iff_lt, ge_iff_le, int_beq, fdiv33, fdiv45] at h
  try simp only [w64_eq, wu8_eq, gt_iff_lt, ge_iff_le, int_beq, fdiv33, fdiv45, rdT5_eq, rdT3_eq, seq, maxI, minI, emp_eq, rdn5, rdn101, rdn83, rdn3, rdn56]
  refine (bnE h (fun _ g h => (fun g => (itE h (fun q h => (bnE h (fun _ g h => (fun g => ?_) (spec_l01PickInt.rel m _ _ _ _ _ g m (by omega))))) (fun q h => (bnE h (fun _ g h => (fun g => ?_) (spec_l01Below.rel m _ _ _ _ _ g m (by omega))))))) (spec_l01Once.rel m _ _ _ _ _ g m (by omega))))
  all_goals (try cases h)
  all_goals (try simp only [*, if_true, if_false, ↓reduceIte, Option.bind_some, List.length_cons, List.length_nil, List.length_append, Bool.not_true, Bool.not_false, Bool.true_eq_false, Bool.false_eq_true])
  all_goals (repeat first | rw [if_pos (by omega)] | rw [if_neg (by omega)])
  all_goals first | exact h | exact h _ | exact h _ _ | exact h _ _ _ | exact h _ _ _ _ | exact h _ _ _ _ _ | exact h _ _ _ _ _ _ | exact h _ _ _ _ _ _ _ | exact h _ _ _ _ _ _ _ _ | rfl | (simp_all [-Bool.forall_bool]; done) | (simp_all [-Bool.forall_bool]; first | exact h | exact h _ | exact h _ _ | exact h _ _ _ | exact h _ _ _ _ | exact h _ _ _ _ _ | exact h _ _ _ _ _ _ | exact h _ _ _ _ _ _ _ | exact h _ _ _ _ _ _ _ _) | (simp_all [-Bool.forall_bool, emp_eq, int_beq]; done) | (simp_all [-Bool.forall_bool]; (intros; simp_all; done)) | (simp_all [-Bool.forall_bool, rdset5, rdset101, rdset83, rdset3, rdset56]; done) | grind

theorem laws_sameFlash.rel_l (k : Nat) : (∀ x5 x1037000 x1038000 r, PK.laws_sameFlash.l0 k x5 x1037000 x1038000 = some r → ∀ m, k ≤ m → laws_sameFlash.c4 m x5 x1037000 x1038000 = some r) ∧ (∀ x5 x8 x1037000 x1038000 x1040000 x1040001 x1040002 x1042000 x1042001 x1042002 r, PK.laws_sameFlash.l1 k x5 x8 x1037000 x1038000 x1040000 x1040001 x1040002 x1042000 x1042001 x1042002 = some r → ∀ m, k ≤ m → ∀ (x40 : Int), ∀ (x42 : Int), ∀ (x43 : Bool), ∀ (x47 : List S101), ∀ (x48 : Int), ∀ (x50 : List S101), ∀ (x51 : Int), ∀ (x52 : Bool), laws_sameFlash.c11 m x5 x8 x40 x42 x43 x47 x48 x50 x51 x52 x1037000 x1038000 x1040000 x1040001 x1040002 x1042000 x1042001 x1042002 = some r) := by
  induction k using Nat.strongRecOn with
  | _ k ih =>
  have il0 := fun k' hk' => (ih k' hk').1
  have il1 := fun k' hk' => (ih k' hk').2
  clear ih
  refine ⟨?_, ?_⟩
  · intro x5 x1037000 x1038000 r h m hm
    cases k with
    | zero => simp only [PK.laws_sameFlash.l0] at h; cases h
    | succ k =>
      obtain ⟨m, rfl⟩ : ∃ m', m = m' + 1 := ⟨m - 1, by omega⟩
      rw [PK.laws_sameFlash.l0] at h
      rw [laws_sameFlash.c4]
      try simp only [w64_eq, wu8_eq, gt_iff_lt, ge_iff_le, int_beq, fdiv33, fdiv45] at h
      try simp only [w64_eq, wu8_eq, gt_iff_lt, ge_iff_le, int_beq, fdiv33, fdiv45, rdT5_eq, rdT3_eq, seq, maxI, minI, emp_eq, rdn5, rdn101, rdn83, rdn3, rdn56]
      refine (itE h (fun q h => (itE h (fun q h => (itE h (fun q h => (itE h (fun q h => (by cases k with | zero => (simp only [PK.laws_sameFlash.j1] at h; cases h) | succ k => (rw [PK.laws_sameFlash.j1] at h; (try simp only [w64_eq, wu8_eq, gt_iff_lt, ge_iff_le, int_beq, fdiv33, fdiv45] at h); refine (itE h (fun q h => ?_) (fun q h => ((fun h => ?_) (il1 _ (by omega) _ _ _ _ _ _ _ _ _ _ _ h m (by omega))))) <;> ((try cases h); (try simp only [*, if_true, if_false, ↓reduceIte, Option.bind_some, List.length_cons, List.length_nil, List.length_append, Bool.not_true, Bool.not_false, Bool.true_eq_false, Bool.false_eq_true]); all_goals (repeat first | rw [if_pos (by omega)] | rw [if_neg (by omega)]); all_goals (first | exact h | exact h _ | exact h _ _ | exact h _ _ _ | exact h _ _ _ _ | exact h _ _ _ _ _ | exact h _ _ _ _ _ _ | exact h _ _ _ _ _ _ _ | exact h _ _ _ _ _ _ _ _ | rfl | (simp_all [-Bool.forall_bool]; done) | (simp_all [-Bool.forall_bool]; first | exact h | exact h _ | exact h _ _ | exact h _ _ _ | exact h _ _ _ _ | exact h _ _ _ _ _ | exact h _ _ _ _ _ _ | exact h _ _ _ _ _ _ _ | exact h _ _ _ _ _ _ _ _) | (simp_all [-Bool.forall_bool, emp_eq, int_beq]; done) | (simp_all [-Bool.forall_bool]; (intros; simp_all; done)) | (simp_all [-Bool.forall_bool, rdset5, rdset101, rdset83, rdset3, rdset56]; done) | grind))))) (fun q h => (itE h (fun q h => (by cases k with | zero => (simp only [PK.laws_sameFlash.j1] at h; cases h) | succ k => (rw [PK.laws_sameFlash.j1] at h; (try simp only [w64_eq, wu8_eq, gt_iff_lt, ge_iff_le, int_beq, fdiv33, fdiv45] at h); refine (itE h (fun q h => ?_) (fun q h => ((fun h => ?_) (il1 _ (by omega) _ _ _ _ _ _ _ _ _ _ _ h m (by omega))))) <;> ((try cases h); (try simp only [*, if_true, if_false, ↓reduceIte, Option.bind_some, List.length_cons, List.length_nil, List.length_append, Bool.not_true, Bool.not_false, Bool.true_eq_false, Bool.false_eq_true]); all_goals (repeat first | rw [if_pos (by omega)] | rw [if_neg (by omega)]); all_goals (first | exact h | exact h _ | exact h _ _ | exact h _ _ _ | exact h _ _ _ _ | exact h _ _ _ _ _ | exact h _ _ _ _ _ _ | exact h _ _ _ _ _ _ _ | exact h _ _ _ _ _ _ _ _ | rfl | (simp_all [-Bool.forall_bool]; done) | (simp_all [-Bool.forall_bool]; first | exact h | exact h _ | exact h _ _ | exact h _ _ _ | exact h _ _ _ _ | exact h _ _ _ _ _ | exact h _ _ _ _ _ _ | exact h _ _ _ _ _ _ _ | exact h _ _ _ _ _ _ _ _) | (simp_all [-Bool.forall_bool, emp_eq, int_beq]; done) | (simp_all [-Bool.forall_bool]; (intros; simp_all; done)) | (simp_all [-Bool.forall_bool, rdset5, rdset101, rdset83, rdset3, rdset56]; done) | grind))))) (fun q h => (by cases k with | zero => (simp only [PK.laws_sameFlash.j1] at h; cases h) | succ k => (rw [PK.laws_sameFlash.j1] at h; (try simp only [w64_eq, wu8_eq, gt_iff_lt, ge_iff_le, int_beq, fdiv33, fdiv45] at h); refine (itE h (fun q h => ?_) (fun q h => ((fun h => ?_) (il1 _ (by omega) _ _ _ _ _ _ _ _ _ _ _ h m (by omega))))) <;> ((try cases h); (try simp only [*, if_true, if_false, ↓reduceIte, Option.bind_some, List.length_cons, List.length_nil, List.length_append, Bool.not_true, Bool.not_false, Bool.true_eq_false, Bool.false_eq_true]); all_goals (repeat first | rw [if_pos (by omega)] | rw [if_neg (by omega)]); all_goals (first | exact h | exact h _ | exact h _ _ | exact h _ _ _ | exact h _ _ _ _ | exact h _ _ _ _ _ | exact h _ _ _ _ _ _ | exact h _ _ _ _ _ _ _ | exact h _ _ _ _ _ _ _ _ | rfl | (simp_all [-Bool.forall_bool]; done) | (simp_all [-Bool.forall_bool]; first | exact h | exact h _ | exact h _ _ | exact h _ _ _ | exact h _ _ _ _ | exact h _ _ _ _ _ | exact h _ _ _ _ _ _ | exact h _ _ _ _ _ _ _ | exact h _ _ _ _ _ _ _ _) | (simp_all [-Bool.forall_bool, emp_eq, int_beq]; done) | (simp_all [-Bool.forall_bool]; (intros; simp_all; done)) | (simp_all [-Bool.forall_bool, rdset5, rdset101, rdset83, rdset3, rdset56]; done) | grind))))))))) (fun q h => (noE h)))) (fun q h => (noE h)))) (fun q h => ?_))
      all_goals clear il0 il1
      all_goals (try cases h)
      all_goals (try simp only [*, if_true, if_false, ↓reduceIte, Option.bind_some, List.length_cons, List.length_nil, List.length_append, Bool.not_true, Bool.not_false, Bool.true_eq_false, Bool.false_eq_true])
      all_goals (repeat first | rw [if_pos (by omega)] | rw [if_neg (by omega)])
      all_goals first | exact h | exact h _ | exact h _ _ | exact h _ _ _ | exact h _ _ _ _ | exact h _ _ _ _ _ | exact h _ _ _ _ _ _ | exact h _ _ _ _ _ _ _ | exact h _ _ _ _ _ _ _ _ | rfl | (simp_all [-Bool.forall_bool]; done) | (simp_all [-Bool.forall_bool]; first | exact h | exact h _ | exact h _ _ | exact h _ _ _ | exact h _ _ _ _ | exact h _ _ _ _ _ | exact h _ _ _ _ _ _ | exact h _ _ _ _ _ _ _ | exact h _ _ _ _ _ _ _ _) | (simp_all [-Bool.forall_bool, emp_eq, int_beq]; done) | (simp_all [-Bool.forall_bool]; (intros; simp_all; done)) | (simp_all [-Bool.forall_bool, rdset5, rdset101, rdset83, rdset3, rdset56]; done) | grind
  · intro x5 x8 x1037000 x1038000 x1040000 x1040001 x1040002 x1042000 x1042001 x1042002 r h m hm x40 x42 x43 x47 x48 x50 x51 x52
    cases k with
    | zero => simp only [PK.laws_sameFlash.l1] at h; cases h
    | succ k =>
      obtain ⟨m, rfl⟩ : ∃ m', m = m' + 1 := ⟨m - 1, by omega⟩
      rw [PK.laws_sameFlash.l1] at h
      rw [laws_sameFlash.c11]
      try simp only [w64_eq, wu8_eq, gt_iff_lt, ge_iff_le, int_beq, fdiv33, fdiv45] at h
      try simp only [w64_eq, wu8_eq, gt_iff_lt, ge_iff_le, int_beq, fdiv33, fdiv45, rdT5_eq, rdT3_eq, seq, maxI, minI, emp_eq, rdn5, rdn101, rdn83, rdn3, rdn56]
      refine (itE h (fun q h => (itE h (fun q h => (itE h (fun q h => (itE h (fun q h => ?_) (fun q h => ((fun h => ?_) (il1 _ (by omega) _ _ _ _ _ _ _ _ _ _ _ h m (by omega)))))) (fun q h => (noE h)))) (fun q h => (noE h)))) (fun q h => ((fun h => ?_) (il0 _ (by omega) _ _ _ _ h m (by omega)))))
      all_goals clear il0 il1
      all_goals (try cases h)
      all_goals (try simp only [*, if_true, if_false, ↓reduceIte, Option.bind_some, List.length_cons, List.length_nil, List.length_append, Bool.not_true, Bool.not_false, Bool.true_eq_false, Bool.false_eq_true])
      all_goals (repeat first | rw [if_pos (by omega)] | rw [if_neg (by omega)])
      all_goals first | exact h | exact h _ | exact h _ _ | exact h _ _ _ | exact h _ _ _ _ | exact h _ _ _ _ _ | exact h _ _ _ _ _ _ | exact h _ _ _ _ _ _ _ | exact h _ _ _ _ _ _ _ _ | rfl | (simp_all [-Bool.forall_bool]; done) | (simp_all [-Bool.forall_bool]; first | exact h | exact h _ | exact h _ _ | exact h _ _ _ | exact h _ _ _ _ | exact h _ _ _ _ _ | exact h _ _ _ _ _ _ | exact h _ _ _ _ _ _ _ | exact h _ _ _ _ _ _ _ _) | (simp_all [-Bool.forall_bool, emp_eq, int_beq]; done) | (simp_all [-Bool.forall_bool]; (intros; simp_all; done)) | (simp_all [-Bool.forall_bool, rdset5, rdset101, rdset83, rdset3, rdset56]; done) | grind
theorem laws_sameFlash.rel (k : Nat) (l0_0 : List (S83)) (l1_0 : List (S83)) (r) (h : PK.laws_sameFlash.f k l0_0 l1_0 = some r) (m : Nat) (hm : k ≤ m) : laws_sameFlash.f m l0_0 l1_0 = some r := by
  have il0 := fun k' (_ : k' < k + 1) => (laws_sameFlash.rel_l k').1
  have il1 := fun k' (_ : k' < k + 1) => (laws_sameFlash.rel_l k').2
  rw [PK.laws_sameFlash.f] at h
  rw [laws_sameFlash.f]
  try simp only [w64_eq, wu8_eq, gt_iff_lt, ge_iff_le, int_beq, fdiv33, fdiv45] at h
  try simp only [w64_eq, wu8_eq, gt_iff_lt, ge_iff_le, int_beq, fdiv33, fdiv45, rdT5_eq, rdT3_eq, seq, maxI, minI, emp_eq, rdn5, rdn101, rdn83, rdn3, rdn56]
  refine (itE h (fun q h => ((fun h => ?_) (il0 _ (by omega) _ _ _ _ h m (by omega)))) (fun q h => ?_))
  all_goals clear il0 il1
  all_goals (try cases h)
  all_goals (try simp only [*, if_true, if_false, ↓reduceIte, Option.bind_some, List.length_cons, List.length_nil, List.length_append, Bool.not_true, Bool.not_false, Bool.true_eq_false, Bool.false_eq_true])
  all_goals (repeat first | rw [if_pos (by omega)] | rw [if_neg (by omega)])
  all_goals first | exact h | exact h _ | exact h _ _ | exact h _ _ _ | exact h _ _ _ _ | exact h _ _ _ _ _ | exact h _ _ _ _ _ _ | exact h _ _ _ _ _ _ _ | exact h _ _ _ _ _ _ _ _ | rfl | (simp_all [-Bool.forall_bool]; done) | (simp_all [-Bool.forall_bool]; first | exact h | exact h _ | exact h _ _ | exact h _ _ _ | exact h _ _ _ _ | exact h _ _ _ _ _ | exact h _ _ _ _ _ _ | exact h _ _ _ _ _ _ _ | exact h _ _ _ _ _ _ _ _) | (simp_all [-Bool.forall_bool, emp_eq, int_beq]; done) | (simp_all [-Bool.forall_bool]; (intros; simp_all; done)) | (simp_all [-Bool.forall_bool, rdset5, rdset101, rdset83, rdset3, rdset56]; done) | grind
end Go.Proofs.Ytklkhnomnanpoaa.M2

/- What the print's plain functions answer, the own ones answer. Written by a program of this session. -/
namespace Go.Proofs.Ytklkhnomnanpoaa.M2
open Go Go.RowKit Go.Proofs.YtklkhnomnanpoaaW.PrintWords Go.Proofs.Ytklkhnomnanpoaa.PK
set_option linter.unusedVariables false
set_option linter.unusedSimpArgs false
theorem laws_big.rel (k : Nat) (l0 : List Int) (r) (h : PK.laws_big.f l0 = some r) (m : Nat) (hm : k ≤ m) : laws_big.f m l0 = some r := by
  rw [PK.laws_big.f] at h
  rw [laws_big.f]
  try simp only [w64_eq, wu8_eq, gt_iff_lt, ge_iff_le, int_beq, fdiv33, fdiv45] at h
  try simp only [w64_eq, wu8_eq, gt_iff_lt, ge_iff_le, int_beq, fdiv33, fdiv45, rdT5_eq, rdT3_eq, seq, maxI, minI, emp_eq, rdn5, rdn101, rdn83, rdn3, rdn56]
  refine ?_
  all_goals (try cases h)
  all_goals (try simp only [*, if_true, if_false, ↓reduceIte, Option.bind_some, List.length_cons, List.length_nil, List.length_append, Bool.not_true, Bool.not_false, Bool.true_eq_false, Bool.false_eq_true])
  all_goals (repeat first | rw [if_pos (by omega)] | rw [if_neg (by omega)])
  all_goals first | exact h | exact h _ | exact h _ _ | exact h _ _ _ | exact h _ _ _ _ | exact h _ _ _ _ _ | exact h _ _ _ _ _ _ | exact h _ _ _ _ _ _ _ | exact h _ _ _ _ _ _ _ _ | rfl | (simp_all [-Bool.forall_bool]; done) | (simp_all [-Bool.forall_bool]; first | exact h | exact h _ | exact h _ _ | exact h _ _ _ | exact h _ _ _ _ | exact h _ _ _ _ _ | exact h _ _ _ _ _ _ | exact h _ _ _ _ _ _ _ | exact h _ _ _ _ _ _ _ _) | (simp_all [-Bool.forall_bool, emp_eq, int_beq]; done) | (simp_all [-Bool.forall_bool]; (intros; simp_all; done)) | (simp_all [-Bool.forall_bool, rdset5, rdset101, rdset83, rdset3, rdset56]; done) | grind

theorem spec_OpenBlock.rel_l (k : Nat) : (∀ x3 x959000 r, PK.spec_OpenBlock.l0 k x3 x959000 = some r → ∀ m, k ≤ m → spec_OpenBlock.c2 m x3 x959000 = some r) ∧ (∀ x3 x4 x5 x6 x959000 r, PK.spec_OpenBlock.l1 k x3 x4 x5 x6 x959000 = some r → ∀ m, k ≤ m → spec_OpenBlock.c7 m x3 x4 x5 x6 x959000 = some r) := by
  induction k using Nat.strongRecOn with
  | _ k ih =>
  have il0 := fun k' hk' => (ih k' hk').1
  have il1 := fun k' hk' => (ih k' hk').2
  clear ih
  refine ⟨?_, ?_⟩
  · intro x3 x959000 r h m hm
    cases k with
    | zero => simp only [PK.spec_OpenBlock.l0] at h; cases h
    | succ k =>
      obtain ⟨m, rfl⟩ : ∃ m', m = m' + 1 := ⟨m - 1, by omega⟩
      rw [PK.spec_OpenBlock.l0] at h
      rw [spec_OpenBlock.c2]
      try simp only [w64_eq, wu8_eq, gt_iff_lt, ge_iff_le, int_beq, fdiv33, fdiv45] at h
      try simp only [w64_eq, wu8_eq, gt_iff_lt, ge_iff_le, int_beq, fdiv33, fdiv45, rdT5_eq, rdT3_eq, seq, maxI, minI, emp_eq, rdn5, rdn101, rdn83, rdn3, rdn56]
      refine (itE h (fun q h => ((fun h => ?_) (il1 _ (by omega) _ _ _ _ _ _ h m (by omega)))) (fun q h => ?_))
      all_goals clear il0 il1
      all_goals (try cases h)
      all_goals (try simp only [*, if_true, if_false, ↓reduceIte, Option.bind_some, List.length_cons, List.length_nil, List.length_append, Bool.not_true, Bool.not_false, Bool.true_eq_false, Bool.false_eq_true])
      all_goals (repeat first | rw [if_pos (by omega)] | rw [if_neg (by omega)])
      all_goals first | exact h | exact h _ | exact h _ _ | exact h _ _ _ | exact h _ _ _ _ | exact h _ _ _ _ _ | exact h _ _ _ _ _ _ | exact h _ _ _ _ _ _ _ | exact h _ _ _ _ _ _ _ _ | rfl | (simp_all [-Bool.forall_bool]; done) | (simp_all [-Bool.forall_bool]; first | exact h | exact h _ | exact h _ _ | exact h _ _ _ | exact h _ _ _ _ | exact h _ _ _ _ _ | exact h _ _ _ _ _ _ | exact h _ _ _ _ _ _ _ | exact h _ _ _ _ _ _ _ _) | (simp_all [-Bool.forall_bool, emp_eq, int_beq]; done) | (simp_all [-Bool.forall_bool]; (intros; simp_all; done)) | (simp_all [-Bool.forall_bool, rdset5, rdset101, rdset83, rdset3, rdset56]; done) | grind
  · intro x3 x4 x5 x6 x959000 r h m hm
    cases k with
    | zero => simp only [PK.spec_OpenBlock.l1] at h; cases h
    | succ k =>
      obtain ⟨m, rfl⟩ : ∃ m', m = m' + 1 := ⟨m - 1, by omega⟩
      rw [PK.spec_OpenBlock.l1] at h
      rw [spec_OpenBlock.c7]
      try simp only [w64_eq, wu8_eq, gt_iff_lt, ge_iff_le, int_beq, fdiv33, fdiv45] at h
      try simp only [w64_eq, wu8_eq, gt_iff_lt, ge_iff_le, int_beq, fdiv33, fdiv45, rdT5_eq, rdT3_eq, seq, maxI, minI, emp_eq, rdn5, rdn101, rdn83, rdn3, rdn56]
      refine (itE h (fun q h => (itE h (fun q h => (itE h (fun q h => (itE h (fun q h => (itE h (fun q h => ((fun h => ?_) (il1 _ (by omega) _ _ _ _ _ _ h m (by omega)))) (fun q h => ((fun h => ?_) (il1 _ (by omega) _ _ _ _ _ _ h m (by omega)))))) (fun q h => (noE h)))) (fun q h => (itE h (fun q h => ((fun h => ?_) (il0 _ (by omega) _ _ _ h m (by omega)))) (fun q h => (itE h (fun q h => (itE h (fun q h => ?_) (fun q h => ((fun h => ?_) (il0 _ (by omega) _ _ _ h m (by omega)))))) (fun q h => ((fun h => ?_) (il0 _ (by omega) _ _ _ h m (by omega)))))))))) (fun q h => (noE h)))) (fun q h => (noE h)))
      all_goals clear il0 il1
      all_goals (try cases h)
      all_goals (try simp only [*, if_true, if_false, ↓reduceIte, Option.bind_some, List.length_cons, List.length_nil, List.length_append, Bool.not_true, Bool.not_false, Bool.true_eq_false, Bool.false_eq_true])
      all_goals (repeat first | rw [if_pos (by omega)] | rw [if_neg (by omega)])
      all_goals first | exact h | exact h _ | exact h _ _ | exact h _ _ _ | exact h _ _ _ _ | exact h _ _ _ _ _ | exact h _ _ _ _ _ _ | exact h _ _ _ _ _ _ _ | exact h _ _ _ _ _ _ _ _ | rfl | (simp_all [-Bool.forall_bool]; done) | (simp_all [-Bool.forall_bool]; first | exact h | exact h _ | exact h _ _ | exact h _ _ _ | exact h _ _ _ _ | exact h _ _ _ _ _ | exact h _ _ _ _ _ _ | exact h _ _ _ _ _ _ _ | exact h _ _ _ _ _ _ _ _) | (simp_all [-Bool.forall_bool, emp_eq, int_beq]; done) | (simp_all [-Bool.forall_bool]; (intros; simp_all; done)) | (simp_all [-Bool.forall_bool, rdset5, rdset101, rdset83, rdset3, rdset56]; done) | grind
theorem spec_OpenBlock.rel (k : Nat) (l0_0 : List (S83)) (r) (h : PK.spec_OpenBlock.f k l0_0 = some r) (m : Nat) (hm : k ≤ m) : spec_OpenBlock.f m l0_0 = some r := by
  have il0 := fun k' (_ : k' < k + 1) => (spec_OpenBlock.rel_l k').1
  have il1 := fun k' (_ : k' < k + 1) => (spec_OpenBlock.rel_l k').2
  rw [PK.spec_OpenBlock.f] at h
  rw [spec_OpenBlock.f]
  try simp only [w64_eq, wu8_eq, gt_iff_lt, ge_iff_le, int_beq, fdiv33, fdiv45] at h
  try simp only [w64_eq, wu8_eq, gt_iff_lt, ge_iff_le, int_beq, fdiv33, fdiv45, rdT5_eq, rdT3_eq, seq, maxI, minI, emp_eq, rdn5, rdn101, rdn83, rdn3, rdn56]
  refine ((fun h => ?_) (il0 _ (by omega) _ _ _ h m (by omega)))
  all_goals clear il0 il1
  all_goals (try cases h)
  all_goals (try simp only [*, if_true, if_false, ↓reduceIte, Option.bind_some, List.length_cons, List.length_nil, List.length_append, Bool.not_true, Bool.not_false, Bool.true_eq_false, Bool.false_eq_true])
  all_goals (repeat first | rw [if_pos (by omega)] | rw [if_neg (by omega)])
  all_goals first | exact h | exact h _ | exact h _ _ | exact h _ _ _ | exact h _ _ _ _ | exact h _ _ _ _ _ | exact h _ _ _ _ _ _ | exact h _ _ _ _ _ _ _ | exact h _ _ _ _ _ _ _ _ | rfl | (simp_all [-Bool.forall_bool]; done) | (simp_all [-Bool.forall_bool]; first | exact h | exact h _ | exact h _ _ | exact h _ _ _ | exact h _ _ _ _ | exact h _ _ _ _ _ | exact h _ _ _ _ _ _ | exact h _ _ _ _ _ _ _ | exact h _ _ _ _ _ _ _ _) | (simp_all [-Bool.forall_bool, emp_eq, int_beq]; done) | (simp_all [-Bool.forall_bool]; (intros; simp_all; done)) | (simp_all [-Bool.forall_bool, rdset5, rdset101, rdset83, rdset3, rdset56]; done) | grind
end Go.Proofs.Ytklkhnomnanpoaa.M2

/- What the print's plain functions answer, the own ones answer. Written by a program of this session. -/
namespace Go.Proofs.Ytklkhnomnanpoaa.M2
open Go Go.RowKit Go.Proofs.YtklkhnomnanpoaaW.PrintWords Go.Proofs.Ytklkhnomnanpoaa.PK
set_option linter.unusedVariables false
set_option linter.unusedSimpArgs false
theorem spec_NextBlank.rel_l (k : Nat) : (∀ x3 x454000 x454001 x454002 r, PK.spec_NextBlank.l0 k x3 x454000 x454001 x454002 = some r → ∀ m, k ≤ m → spec_NextBlank.c2 m x3 x454000 x454001 x454002 = some r) := by
  induction k using Nat.strongRecOn with
  | _ k ih =>
  have il0 := fun k' hk' => (ih k' hk')
  clear ih
  intro x3 x454000 x454001 x454002 r h m hm
  cases k with
  | zero => simp only [PK.spec_NextBlank.l0] at h; cases h
  | succ k =>
    obtain ⟨m, rfl⟩ : ∃ m', m = m' + 1 := ⟨m - 1, by omega⟩
    rw [PK.spec_NextBlank.l0] at h
    rw [spec_NextBlank.c2]
    try simp only [w64_eq, wu8_eq, gt_iff_lt, ge_iff_le, int_beq, fdiv33, fdiv45] at h
    try simp only [w64_eq, wu8_eq, gt_iff_lt, ge_iff_le, int_beq, fdiv33, fdiv45, rdT5_eq, rdT3_eq, seq, maxI, minI, emp_eq, rdn5, rdn101, rdn83, rdn3, rdn56]
    refine (itE h (fun q h => (itE h (fun q h => (itE h (fun q h => ?_) (fun q h => ((fun h => ?_) (il0 _ (by omega) _ _ _ _ _ h m (by omega)))))) (fun q h => (noE h)))) (fun q h => ?_))
    all_goals clear il0
    all_goals (try cases h)
    all_goals (try simp only [*, if_true, if_false, ↓reduceIte, Option.bind_some, List.length_cons, List.length_nil, List.length_append, Bool.not_true, Bool.not_false, Bool.true_eq_false, Bool.false_eq_true])
    all_goals (repeat first | rw [if_pos (by omega)] | rw [if_neg (by omega)])
    all_goals first | exact h | exact h _ | exact h _ _ | exact h _ _ _ | exact h _ _ _ _ | exact h _ _ _ _ _ | exact h _ _ _ _ _ _ | exact h _ _ _ _ _ _ _ | exact h _ _ _ _ _ _ _ _ | rfl | (simp_all [-Bool.forall_bool]; done) | (simp_all [-Bool.forall_bool]; first | exact h | exact h _ | exact h _ _ | exact h _ _ _ | exact h _ _ _ _ | exact h _ _ _ _ _ | exact h _ _ _ _ _ _ | exact h _ _ _ _ _ _ _ | exact h _ _ _ _ _ _ _ _) | (simp_all [-Bool.forall_bool, emp_eq, int_beq]; done) | (simp_all [-Bool.forall_bool]; (intros; simp_all; done)) | (simp_all [-Bool.forall_bool, rdset5, rdset101, rdset83, rdset3, rdset56]; done) | grind
theorem spec_NextBlank.rel (k : Nat) (a0_0 : Bool) (a0_1 : Int) (l0_2 : List (S101)) (r) (h : PK.spec_NextBlank.f k a0_0 a0_1 l0_2 = some r) (m : Nat) (hm : k ≤ m) : spec_NextBlank.f m a0_0 a0_1 l0_2 = some r := by
  have il0 := fun k' (_ : k' < k + 1) => (spec_NextBlank.rel_l k')
  rw [PK.spec_NextBlank.f] at h
  rw [spec_NextBlank.f]
  try simp only [w64_eq, wu8_eq, gt_iff_lt, ge_iff_le, int_beq, fdiv33, fdiv45] at h
  try simp only [w64_eq, wu8_eq, gt_iff_lt, ge_iff_le, int_beq, fdiv33, fdiv45, rdT5_eq, rdT3_eq, seq, maxI, minI, emp_eq, rdn5, rdn101, rdn83, rdn3, rdn56]
  refine ((fun h => ?_) (il0 _ (by omega) _ _ _ _ _ h m (by omega)))
  all_goals clear il0
  all_goals (try cases h)
  all_goals (try simp only [*, if_true, if_false, ↓reduceIte, Option.bind_some, List.length_cons, List.length_nil, List.length_append, Bool.not_true, Bool.not_false, Bool.true_eq_false, Bool.false_eq_true])
  all_goals (repeat first | rw [if_pos (by omega)] | rw [if_neg (by omega)])
  all_goals first | exact h | exact h _ | exact h _ _ | exact h _ _ _ | exact h _ _ _ _ | exact h _ _ _ _ _ | exact h _ _ _ _ _ _ | exact h _ _ _ _ _ _ _ | exact h _ _ _ _ _ _ _ _ | rfl | (simp_all [-Bool.forall_bool]; done) | (simp_all [-Bool.forall_bool]; first | exact h | exact h _ | exact h _ _ | exact h _ _ _ | exact h _ _ _ _ | exact h _ _ _ _ _ | exact h _ _ _ _ _ _ | exact h _ _ _ _ _ _ _ | exact h _ _ _ _ _ _ _ _) | (simp_all [-Bool.forall_bool, emp_eq, int_beq]; done) | (simp_all [-Bool.forall_bool]; (intros; simp_all; done)) | (simp_all [-Bool.forall_bool, rdset5, rdset101, rdset83, rdset3, rdset56]; done) | grind

theorem spec_l05May.rel (k : Nat) (l0_0 : List (S83)) (a1 : Int) (a2 : Int) (a3 : ByteArray) (r) (h : PK.spec_l05May.f k l0_0 a1 a2 a3 = some r) (m : Nat) (hm : k ≤ m) : spec_l05May.f m l0_0 a1 a2 a3 = some r := by
  rw [PK.spec_l05May.f] at h
  rw [spec_l05May.f]
  try simp only [w64_eq, wu8_eq, gt_iff_lt, ge_iff_le, int_beq, fdiv33, fdiv45] at h
  try simp only [w64_eq, wu8_eq, gt_iff_lt, ge_iff_le, int_beq, fdiv33, fdiv45, rdT5_eq, rdT3_eq, seq, maxI, minI, emp_eq, rdn5, rdn101, rdn83, rdn3, rdn56]
  refine (bnE h (fun _ g h => (fun g => (itE h (fun q h => (itE h (fun q h => (itE h (fun q h => (itE h (fun q h => ?_) (fun q h => (itE h (fun q h => (bnE h (fun _ g h => (fun g => (itE h (fun q h => (bnE h (fun _ g h => (fun g => ?_) (spec_l01In.rel m _ _ _ _ g m (by omega))))) (fun q h => ?_))) (spec_NextBlank.rel _ _ _ _ _ g m (by omega))))) (fun q h => ?_))))) (fun q h => (noE h)))) (fun q h => (noE h)))) (fun q h => ?_))) (spec_l01In.rel m _ _ _ _ g m (by omega))))
  all_goals (try cases h)
  all_goals (try simp only [*, if_true, if_false, ↓reduceIte, Option.bind_some, List.length_cons, List.length_nil, List.length_append, Bool.not_true, Bool.not_false, Bool.true_eq_false, Bool.false_eq_true])
  all_goals (repeat first | rw [if_pos (by omega)] | rw [if_neg (by omega)])
  all_goals first | exact h | exact h _ | exact h _ _ | exact h _ _ _ | exact h _ _ _ _ | exact h _ _ _ _ _ | exact h _ _ _ _ _ _ | exact h _ _ _ _ _ _ _ | exact h _ _ _ _ _ _ _ _ | rfl | (simp_all [-Bool.forall_bool]; done) | (simp_all [-Bool.forall_bool]; first | exact h | exact h _ | exact h _ _ | exact h _ _ _ | exact h _ _ _ _ | exact h _ _ _ _ _ | exact h _ _ _ _ _ _ | exact h _ _ _ _ _ _ _ | exact h _ _ _ _ _ _ _ _) | (simp_all [-Bool.forall_bool, emp_eq, int_beq]; done) | (simp_all [-Bool.forall_bool]; (intros; simp_all; done)) | (simp_all [-Bool.forall_bool, rdset5, rdset101, rdset83, rdset3, rdset56]; done) | grind

theorem spec_Program.rel (k : Nat) (l0_0 : List (S83)) (a1 : Int) (a2 : Int) (a3 : ByteArray) (r) (h : PK.spec_Program.f k l0_0 a1 a2 a3 = some r) (m : Nat) (hm : k ≤ m) : spec_Program.f m l0_0 a1 a2 a3 = some (r.1, r.2) := by
  rw [PK.spec_Program.f] at h
  rw [spec_Program.f]
  try simp only [w64_eq, wu8_eq, gt_iff_lt, ge_iff_le, int_beq, fdiv33, fdiv45] at h
  try simp only [w64_eq, wu8_eq, gt_iff_lt, ge_iff_le, int_beq, fdiv33, fdiv45, rdT5_eq, rdT3_eq, seq, maxI, minI, emp_eq, rdn5, rdn101, rdn83, rdn3, rdn56]
  refine (bnE h (fun _ g h => (fun g => (bnE h (fun _ g h => (fun g => (itE h (fun q h => (bnE h (fun _ g h => (fun g => (itE h (fun q h => (itE h (fun q h => (itE h (fun q h => (itE h (fun q h => (itE h (fun q h => ?_) (fun q h => (noE h)))) (fun q h => (noE h)))) (fun q h => (noE h)))) (fun q h => (noE h)))) (fun q h => ?_))) (spec_l05May.rel _ _ _ _ _ _ g m (by omega))))) (fun q h => ?_))) (spec_FlashOk.rel _ _ _ g m (by omega))))) (spec_l05Copy.rel _ _ _ g m (by omega))))
  all_goals (try cases h)
  all_goals (try simp only [*, if_true, if_false, ↓reduceIte, Option.bind_some, List.length_cons, List.length_nil, List.length_append, Bool.not_true, Bool.not_false, Bool.true_eq_false, Bool.false_eq_true])
  all_goals (repeat first | rw [if_pos (by omega)] | rw [if_neg (by omega)])
  all_goals first | exact h | exact h _ | exact h _ _ | exact h _ _ _ | exact h _ _ _ _ | exact h _ _ _ _ _ | exact h _ _ _ _ _ _ | exact h _ _ _ _ _ _ _ | exact h _ _ _ _ _ _ _ _ | rfl | (simp_all [-Bool.forall_bool]; done) | (simp_all [-Bool.forall_bool]; first | exact h | exact h _ | exact h _ _ | exact h _ _ _ | exact h _ _ _ _ | exact h _ _ _ _ _ | exact h _ _ _ _ _ _ | exact h _ _ _ _ _ _ _ | exact h _ _ _ _ _ _ _ _) | (simp_all [-Bool.forall_bool, emp_eq, int_beq]; done) | (simp_all [-Bool.forall_bool]; (intros; simp_all; done)) | (simp_all [-Bool.forall_bool, rdset5, rdset101, rdset83, rdset3, rdset56]; done) | grind
end Go.Proofs.Ytklkhnomnanpoaa.M2

/- What the print's plain functions answer, the own ones answer. Written by a program of this session. -/
namespace Go.Proofs.Ytklkhnomnanpoaa.M2
open Go Go.RowKit Go.Proofs.YtklkhnomnanpoaaW.PrintWords Go.Proofs.Ytklkhnomnanpoaa.PK
set_option linter.unusedVariables false
set_option linter.unusedSimpArgs false
theorem spec_FreeBlocks.rel_l (k : Nat) : (∀ x3 x4 x964000 r, PK.spec_FreeBlocks.l0 k x3 x4 x964000 = some r → ∀ m, k ≤ m → spec_FreeBlocks.c3 m x4 x964000 x3 = some r) ∧ (∀ x3 x4 x5 x6 x964000 r, PK.spec_FreeBlocks.l1 k x3 x4 x5 x6 x964000 = some r → ∀ m, k ≤ m → spec_FreeBlocks.c7 m x4 x5 x6 x964000 x3 = some r) := by
  induction k using Nat.strongRecOn with
  | _ k ih =>
  have il0 := fun k' hk' => (ih k' hk').1
  have il1 := fun k' hk' => (ih k' hk').2
  clear ih
  refine ⟨?_, ?_⟩
  · intro x3 x4 x964000 r h m hm
    cases k with
    | zero => simp only [PK.spec_FreeBlocks.l0] at h; cases h
    | succ k =>
      obtain ⟨m, rfl⟩ : ∃ m', m = m' + 1 := ⟨m - 1, by omega⟩
      rw [PK.spec_FreeBlocks.l0] at h
      rw [spec_FreeBlocks.c3]
      try simp only [w64_eq, wu8_eq, gt_iff_lt, ge_iff_le, int_beq, fdiv33, fdiv45] at h
      try simp only [w64_eq, wu8_eq, gt_iff_lt, ge_iff_le, int_beq, fdiv33, fdiv45, rdT5_eq, rdT3_eq, seq, maxI, minI, emp_eq, rdn5, rdn101, rdn83, rdn3, rdn56]
      refine (itE h (fun q h => (itE h (fun q h => ((fun h => ?_) (il1 _ (by omega) _ _ _ _ _ _ h m (by omega)))) (fun q h => (noE h)))) (fun q h => ?_))
      all_goals clear il0 il1
      all_goals (try cases h)
      all_goals (try simp only [*, if_true, if_false, ↓reduceIte, Option.bind_some, List.length_cons, List.length_nil, List.length_append, Bool.not_true, Bool.not_false, Bool.true_eq_false, Bool.false_eq_true])
      all_goals (repeat first | rw [if_pos (by omega)] | rw [if_neg (by omega)])
      all_goals first | exact h | exact h _ | exact h _ _ | exact h _ _ _ | exact h _ _ _ _ | exact h _ _ _ _ _ | exact h _ _ _ _ _ _ | exact h _ _ _ _ _ _ _ | exact h _ _ _ _ _ _ _ _ | rfl | (simp_all [-Bool.forall_bool]; done) | (simp_all [-Bool.forall_bool]; first | exact h | exact h _ | exact h _ _ | exact h _ _ _ | exact h _ _ _ _ | exact h _ _ _ _ _ | exact h _ _ _ _ _ _ | exact h _ _ _ _ _ _ _ | exact h _ _ _ _ _ _ _ _) | (simp_all [-Bool.forall_bool, emp_eq, int_beq]; done) | (simp_all [-Bool.forall_bool]; (intros; simp_all; done)) | (simp_all [-Bool.forall_bool, rdset5, rdset101, rdset83, rdset3, rdset56]; done) | grind
  · intro x3 x4 x5 x6 x964000 r h m hm
    cases k with
    | zero => simp only [PK.spec_FreeBlocks.l1] at h; cases h
    | succ k =>
      obtain ⟨m, rfl⟩ : ∃ m', m = m' + 1 := ⟨m - 1, by omega⟩
      rw [PK.spec_FreeBlocks.l1] at h
      rw [spec_FreeBlocks.c7]
      try simp only [w64_eq, wu8_eq, gt_iff_lt, ge_iff_le, int_beq, fdiv33, fdiv45] at h
      try simp only [w64_eq, wu8_eq, gt_iff_lt, ge_iff_le, int_beq, fdiv33, fdiv45, rdT5_eq, rdT3_eq, seq, maxI, minI, emp_eq, rdn5, rdn101, rdn83, rdn3, rdn56]
      refine (itE h (fun q h => (itE h (fun q h => (itE h (fun q h => (itE h (fun q h => (itE h (fun q h => ((fun h => ?_) (il1 _ (by omega) _ _ _ _ _ _ h m (by omega)))) (fun q h => (noE h)))) (fun q h => ((fun h => ?_) (il1 _ (by omega) _ _ _ _ _ _ h m (by omega)))))) (fun q h => (itE h (fun q h => (itE h (fun q h => ((fun h => ?_) (il0 _ (by omega) _ _ _ _ h m (by omega)))) (fun q h => (noE h)))) (fun q h => ((fun h => ?_) (il0 _ (by omega) _ _ _ _ h m (by omega)))))))) (fun q h => (noE h)))) (fun q h => (noE h)))
      all_goals clear il0 il1
      all_goals (try cases h)
      all_goals (try simp only [*, if_true, if_false, ↓reduceIte, Option.bind_some, List.length_cons, List.length_nil, List.length_append, Bool.not_true, Bool.not_false, Bool.true_eq_false, Bool.false_eq_true])
      all_goals (repeat first | rw [if_pos (by omega)] | rw [if_neg (by omega)])
      all_goals first | exact h | exact h _ | exact h _ _ | exact h _ _ _ | exact h _ _ _ _ | exact h _ _ _ _ _ | exact h _ _ _ _ _ _ | exact h _ _ _ _ _ _ _ | exact h _ _ _ _ _ _ _ _ | rfl | (simp_all [-Bool.forall_bool]; done) | (simp_all [-Bool.forall_bool]; first | exact h | exact h _ | exact h _ _ | exact h _ _ _ | exact h _ _ _ _ | exact h _ _ _ _ _ | exact h _ _ _ _ _ _ | exact h _ _ _ _ _ _ _ | exact h _ _ _ _ _ _ _ _) | (simp_all [-Bool.forall_bool, emp_eq, int_beq]; done) | (simp_all [-Bool.forall_bool]; (intros; simp_all; done)) | (simp_all [-Bool.forall_bool, rdset5, rdset101, rdset83, rdset3, rdset56]; done) | grind
theorem spec_FreeBlocks.rel (k : Nat) (l0_0 : List (S83)) (r) (h : PK.spec_FreeBlocks.f k l0_0 = some r) (m : Nat) (hm : k ≤ m) : spec_FreeBlocks.f m l0_0 = some r := by
  have il0 := fun k' (_ : k' < k + 1) => (spec_FreeBlocks.rel_l k').1
  have il1 := fun k' (_ : k' < k + 1) => (spec_FreeBlocks.rel_l k').2
  rw [PK.spec_FreeBlocks.f] at h
  rw [spec_FreeBlocks.f]
  try simp only [w64_eq, wu8_eq, gt_iff_lt, ge_iff_le, int_beq, fdiv33, fdiv45] at h
  try simp only [w64_eq, wu8_eq, gt_iff_lt, ge_iff_le, int_beq, fdiv33, fdiv45, rdT5_eq, rdT3_eq, seq, maxI, minI, emp_eq, rdn5, rdn101, rdn83, rdn3, rdn56]
  refine ((fun h => ?_) (il0 _ (by omega) _ _ _ _ h m (by omega)))
  all_goals clear il0 il1
  all_goals (try cases h)
  all_goals (try simp only [*, if_true, if_false, ↓reduceIte, Option.bind_some, List.length_cons, List.length_nil, List.length_append, Bool.not_true, Bool.not_false, Bool.true_eq_false, Bool.false_eq_true])
  all_goals (repeat first | rw [if_pos (by omega)] | rw [if_neg (by omega)])
  all_goals first | exact h | exact h _ | exact h _ _ | exact h _ _ _ | exact h _ _ _ _ | exact h _ _ _ _ _ | exact h _ _ _ _ _ _ | exact h _ _ _ _ _ _ _ | exact h _ _ _ _ _ _ _ _ | rfl | (simp_all [-Bool.forall_bool]; done) | (simp_all [-Bool.forall_bool]; first | exact h | exact h _ | exact h _ _ | exact h _ _ _ | exact h _ _ _ _ | exact h _ _ _ _ _ | exact h _ _ _ _ _ _ | exact h _ _ _ _ _ _ _ | exact h _ _ _ _ _ _ _ _) | (simp_all [-Bool.forall_bool, emp_eq, int_beq]; done) | (simp_all [-Bool.forall_bool]; (intros; simp_all; done)) | (simp_all [-Bool.forall_bool, rdset5, rdset101, rdset83, rdset3, rdset56]; done) | grind

theorem spec_PlaceOf.rel_l (k : Nat) : (∀ x6 x7 x8 x975000 r, PK.spec_PlaceOf.l0 k x6 x7 x8 x975000 = some r → ∀ m, k ≤ m → spec_PlaceOf.c11 m x7 x8 x975000 x6 = some (r.1, r.2.1, r.2.2)) := by
  induction k using Nat.strongRecOn with
  | _ k ih =>
  have il0 := fun k' hk' => (ih k' hk')
  clear ih
  intro x6 x7 x8 x975000 r h m hm
  cases k with
  | zero => simp only [PK.spec_PlaceOf.l0] at h; cases h
  | succ k =>
    obtain ⟨m, rfl⟩ : ∃ m', m = m' + 1 := ⟨m - 1, by omega⟩
    rw [PK.spec_PlaceOf.l0] at h
    rw [spec_PlaceOf.c11]
    try simp only [w64_eq, wu8_eq, gt_iff_lt, ge_iff_le, int_beq, fdiv33, fdiv45] at h
    try simp only [w64_eq, wu8_eq, gt_iff_lt, ge_iff_le, int_beq, fdiv33, fdiv45, rdT5_eq, rdT3_eq, seq, maxI, minI, emp_eq, rdn5, rdn101, rdn83, rdn3, rdn56]
    refine (itE h (fun q h => (itE h (fun q h => (itE h (fun q h => (itE h (fun q h => (itE h (fun q h => (itE h (fun q h => (itE h (fun q h => ((fun h => ?_) (il0 _ (by omega) _ _ _ _ _ h m (by omega)))) (fun q h => ((fun h => ?_) (il0 _ (by omega) _ _ _ _ _ h m (by omega)))))) (fun q h => (noE h)))) (fun q h => (noE h)))) (fun q h => (noE h)))) (fun q h => (noE h)))) (fun q h => (noE h)))) (fun q h => ?_))
    all_goals clear il0
    all_goals (try cases h)
    all_goals (try simp only [*, if_true, if_false, ↓reduceIte, Option.bind_some, List.length_cons, List.length_nil, List.length_append, Bool.not_true, Bool.not_false, Bool.true_eq_false, Bool.false_eq_true])
    all_goals (repeat first | rw [if_pos (by omega)] | rw [if_neg (by omega)])
    all_goals first | exact h | exact h _ | exact h _ _ | exact h _ _ _ | exact h _ _ _ _ | exact h _ _ _ _ _ | exact h _ _ _ _ _ _ | exact h _ _ _ _ _ _ _ | exact h _ _ _ _ _ _ _ _ | rfl | (simp_all [-Bool.forall_bool]; done) | (simp_all [-Bool.forall_bool]; first | exact h | exact h _ | exact h _ _ | exact h _ _ _ | exact h _ _ _ _ | exact h _ _ _ _ _ | exact h _ _ _ _ _ _ | exact h _ _ _ _ _ _ _ | exact h _ _ _ _ _ _ _ _) | (simp_all [-Bool.forall_bool, emp_eq, int_beq]; done) | (simp_all [-Bool.forall_bool]; (intros; simp_all; done)) | (simp_all [-Bool.forall_bool, rdset5, rdset101, rdset83, rdset3, rdset56]; done) | grind
theorem spec_PlaceOf.rel (k : Nat) (l0_0 : List (S83)) (r) (h : PK.spec_PlaceOf.f k l0_0 = some r) (m : Nat) (hm : k ≤ m) : spec_PlaceOf.f m l0_0 = some (r.1, r.2.1, r.2.2) := by
  have il0 := fun k' (_ : k' < k + 1) => (spec_PlaceOf.rel_l k')
  rw [PK.spec_PlaceOf.f] at h
  rw [spec_PlaceOf.f]
  try simp only [w64_eq, wu8_eq, gt_iff_lt, ge_iff_le, int_beq, fdiv33, fdiv45] at h
  try simp only [w64_eq, wu8_eq, gt_iff_lt, ge_iff_le, int_beq, fdiv33, fdiv45, rdT5_eq, rdT3_eq, seq, maxI, minI, emp_eq, rdn5, rdn101, rdn83, rdn3, rdn56]
  refine (bnE h (fun _ g h => (fun g => (itE h (fun q h => (bnE h (fun _ g h => (fun g => (itE h (fun q h => (itE h (fun q h => (itE h (fun q h => (bnE h (fun _ g h => (fun g => ?_) (spec_NextBlank.rel _ _ _ _ _ g m (by omega))))) (fun q h => (noE h)))) (fun q h => (noE h)))) (fun q h => (bnE h (fun _ g h => (fun g => (itE h (fun q h => ?_) (fun q h => (itE h (fun q h => ((fun h => ?_) (il0 _ (by omega) _ _ _ _ _ h m (by omega)))) (fun q h => (noE h)))))) (spec_FreeBlocks.rel _ _ _ g m (by omega))))))) (spec_OpenBlock.rel _ _ _ g m (by omega))))) (fun q h => ?_))) (spec_FlashOk.rel _ _ _ g m (by omega))))
  all_goals clear il0
  all_goals (try cases h)
  all_goals (try simp only [*, if_true, if_false, ↓reduceIte, Option.bind_some, List.length_cons, List.length_nil, List.length_append, Bool.not_true, Bool.not_false, Bool.true_eq_false, Bool.false_eq_true])
  all_goals (repeat first | rw [if_pos (by omega)] | rw [if_neg (by omega)])
  all_goals first | exact h | exact h _ | exact h _ _ | exact h _ _ _ | exact h _ _ _ _ | exact h _ _ _ _ _ | exact h _ _ _ _ _ _ | exact h _ _ _ _ _ _ _ | exact h _ _ _ _ _ _ _ _ | rfl | (simp_all [-Bool.forall_bool]; done) | (simp_all [-Bool.forall_bool]; first | exact h | exact h _ | exact h _ _ | exact h _ _ _ | exact h _ _ _ _ | exact h _ _ _ _ _ | exact h _ _ _ _ _ _ | exact h _ _ _ _ _ _ _ | exact h _ _ _ _ _ _ _ _) | (simp_all [-Bool.forall_bool, emp_eq, int_beq]; done) | (simp_all [-Bool.forall_bool]; (intros; simp_all; done)) | (simp_all [-Bool.forall_bool, rdset5, rdset101, rdset83, rdset3, rdset56]; done) | grind
end Go.Proofs.Ytklkhnomnanpoaa.M2

/- What the print's plain functions answer, the own ones answer. Written by a program of this session. -/
namespace Go.Proofs.Ytklkhnomnanpoaa.M2
open Go Go.RowKit Go.Proofs.YtklkhnomnanpoaaW.PrintWords Go.Proofs.Ytklkhnomnanpoaa.PK
set_option linter.unusedVariables false
set_option linter.unusedSimpArgs false
theorem impl_copyFlash.rel_l (k : Nat) : (∀ x7 x8 x9 x548000 r, PK.impl_copyFlash.l0 k x7 x8 x9 x548000 = some r → ∀ m, k ≤ m → ∀ (h65 : List S83), impl_copyFlash.c3 m x7 x8 x9 h65 x548000 = some r) := by
  induction k using Nat.strongRecOn with
  | _ k ih =>
  have il0 := fun k' hk' => (ih k' hk')
  clear ih
  intro x7 x8 x9 x548000 r h m hm h65
  cases k with
  | zero => simp only [PK.impl_copyFlash.l0] at h; cases h
  | succ k =>
    obtain ⟨m, rfl⟩ : ∃ m', m = m' + 1 := ⟨m - 1, by omega⟩
    rw [PK.impl_copyFlash.l0] at h
    rw [impl_copyFlash.c3]
    try simp only [w64_eq, wu8_eq, gt_iff_lt, ge_iff_le, int_beq, fdiv33, fdiv45] at h
    try simp only [w64_eq, wu8_eq, gt_iff_lt, ge_iff_le, int_beq, fdiv33, fdiv45, rdT5_eq, rdT3_eq, seq, maxI, minI, emp_eq, rdn5, rdn101, rdn83, rdn3, rdn56]
    refine (itE h (fun q h => (itE h (fun q h => (itE h (fun q h => (itE h (fun q h => (itE h (fun q h => ((fun h => ?_) (il0 _ (by omega) _ _ _ _ _ h m (by omega)))) (fun q h => (noE h)))) (fun q h => (noE h)))) (fun q h => (noE h)))) (fun q h => (noE h)))) (fun q h => ?_))
    all_goals clear il0
    all_goals (try cases h)
    all_goals (try simp only [*, if_true, if_false, ↓reduceIte, Option.bind_some, List.length_cons, List.length_nil, List.length_append, Bool.not_true, Bool.not_false, Bool.true_eq_false, Bool.false_eq_true])
    all_goals (repeat first | rw [if_pos (by omega)] | rw [if_neg (by omega)])
    all_goals first | exact h | exact h _ | exact h _ _ | exact h _ _ _ | exact h _ _ _ _ | exact h _ _ _ _ _ | exact h _ _ _ _ _ _ | exact h _ _ _ _ _ _ _ | exact h _ _ _ _ _ _ _ _ | rfl | (simp_all [-Bool.forall_bool]; done) | (simp_all [-Bool.forall_bool]; first | exact h | exact h _ | exact h _ _ | exact h _ _ _ | exact h _ _ _ _ | exact h _ _ _ _ _ | exact h _ _ _ _ _ _ | exact h _ _ _ _ _ _ _ | exact h _ _ _ _ _ _ _ _) | (simp_all [-Bool.forall_bool, emp_eq, int_beq]; done) | (simp_all [-Bool.forall_bool]; (intros; simp_all; done)) | (simp_all [-Bool.forall_bool, rdset5, rdset101, rdset83, rdset3, rdset56]; done) | grind
theorem impl_copyFlash.rel (k : Nat) (l0_0 : List (S83)) (r) (h : PK.impl_copyFlash.f k l0_0 = some r) (m : Nat) (hm : k ≤ m) : impl_copyFlash.f m l0_0 = some r := by
  have il0 := fun k' (_ : k' < k + 1) => (impl_copyFlash.rel_l k')
  rw [PK.impl_copyFlash.f] at h
  rw [impl_copyFlash.f]
  try simp only [w64_eq, wu8_eq, gt_iff_lt, ge_iff_le, int_beq, fdiv33, fdiv45] at h
  try simp only [w64_eq, wu8_eq, gt_iff_lt, ge_iff_le, int_beq, fdiv33, fdiv45, rdT5_eq, rdT3_eq, seq, maxI, minI, emp_eq, rdn5, rdn101, rdn83, rdn3, rdn56]
  refine ((fun h => ?_) (il0 _ (by omega) _ _ _ _ _ h m (by omega)))
  all_goals clear il0
  all_goals (try cases h)
  all_goals (try simp only [*, if_true, if_false, ↓reduceIte, Option.bind_some, List.length_cons, List.length_nil, List.length_append, Bool.not_true, Bool.not_false, Bool.true_eq_false, Bool.false_eq_true])
  all_goals (repeat first | rw [if_pos (by omega)] | rw [if_neg (by omega)])
  all_goals first | exact h | exact h _ | exact h _ _ | exact h _ _ _ | exact h _ _ _ _ | exact h _ _ _ _ _ | exact h _ _ _ _ _ _ | exact h _ _ _ _ _ _ _ | exact h _ _ _ _ _ _ _ _ | rfl | (simp_all [-Bool.forall_bool]; done) | (simp_all [-Bool.forall_bool]; first | exact h | exact h _ | exact h _ _ | exact h _ _ _ | exact h _ _ _ _ | exact h _ _ _ _ _ | exact h _ _ _ _ _ _ | exact h _ _ _ _ _ _ _ | exact h _ _ _ _ _ _ _ _) | (simp_all [-Bool.forall_bool, emp_eq, int_beq]; done) | (simp_all [-Bool.forall_bool]; (intros; simp_all; done)) | (simp_all [-Bool.forall_bool, rdset5, rdset101, rdset83, rdset3, rdset56]; done) | grind

theorem impl_in.rel (k : Nat) (a0 : Int) (a1 : Int) (a2 : Int) (r) (h : PK.impl_in.f a0 a1 a2 = some r) (m : Nat) (hm : k ≤ m) : impl_in.f m a0 a1 a2 = some r := by
  rw [PK.impl_in.f] at h
  rw [impl_in.f]
  try simp only [w64_eq, wu8_eq, gt_iff_lt, ge_iff_le, int_beq, fdiv33, fdiv45] at h
  try simp only [w64_eq, wu8_eq, gt_iff_lt, ge_iff_le, int_beq, fdiv33, fdiv45, rdT5_eq, rdT3_eq, seq, maxI, minI, emp_eq, rdn5, rdn101, rdn83, rdn3, rdn56]
  refine (itE h (fun q h => ?_) (fun q h => ?_))
  all_goals (try cases h)
  all_goals (try simp only [*, if_true, if_false, ↓reduceIte, Option.bind_some, List.length_cons, List.length_nil, List.length_append, Bool.not_true, Bool.not_false, Bool.true_eq_false, Bool.false_eq_true])
  all_goals (repeat first | rw [if_pos (by omega)] | rw [if_neg (by omega)])
  all_goals first | exact h | exact h _ | exact h _ _ | exact h _ _ _ | exact h _ _ _ _ | exact h _ _ _ _ _ | exact h _ _ _ _ _ _ | exact h _ _ _ _ _ _ _ | exact h _ _ _ _ _ _ _ _ | rfl | (simp_all [-Bool.forall_bool]; done) | (simp_all [-Bool.forall_bool]; first | exact h | exact h _ | exact h _ _ | exact h _ _ _ | exact h _ _ _ _ | exact h _ _ _ _ _ | exact h _ _ _ _ _ _ | exact h _ _ _ _ _ _ _ | exact h _ _ _ _ _ _ _ _) | (simp_all [-Bool.forall_bool, emp_eq, int_beq]; done) | (simp_all [-Bool.forall_bool]; (intros; simp_all; done)) | (simp_all [-Bool.forall_bool, rdset5, rdset101, rdset83, rdset3, rdset56]; done) | grind

theorem impl_leafOk.rel (k : Nat) (a0_0 : Int) (a0_1 : ByteArray) (r) (h : PK.impl_leafOk.f a0_0 a0_1 = some r) (m : Nat) (hm : k ≤ m) : impl_leafOk.f m a0_0 a0_1 = some r := by
  rw [PK.impl_leafOk.f] at h
  rw [impl_leafOk.f]
  try simp only [w64_eq, wu8_eq, gt_iff_lt, ge_iff_le, int_beq, fdiv33, fdiv45] at h
  try simp only [w64_eq, wu8_eq, gt_iff_lt, ge_iff_le, int_beq, fdiv33, fdiv45, rdT5_eq, rdT3_eq, seq, maxI, minI, emp_eq, rdn5, rdn101, rdn83, rdn3, rdn56]
  refine (itE h (fun q h => ?_) (fun q h => (itE h (fun q h => (bnE h (fun _ g h => (fun g => ?_) (impl_in.rel m _ _ _ _ g m (by omega))))) (fun q h => (itE h (fun q h => ?_) (fun q h => ?_))))))
  all_goals (try cases h)
  all_goals (try simp only [*, if_true, if_false, ↓reduceIte, Option.bind_some, List.length_cons, List.length_nil, List.length_append, Bool.not_true, Bool.not_false, Bool.true_eq_false, Bool.false_eq_true])
  all_goals (repeat first | rw [if_pos (by omega)] | rw [if_neg (by omega)])
  all_goals first | exact h | exact h _ | exact h _ _ | exact h _ _ _ | exact h _ _ _ _ | exact h _ _ _ _ _ | exact h _ _ _ _ _ _ | exact h _ _ _ _ _ _ _ | exact h _ _ _ _ _ _ _ _ | rfl | (simp_all [-Bool.forall_bool]; done) | (simp_all [-Bool.forall_bool]; first | exact h | exact h _ | exact h _ _ | exact h _ _ _ | exact h _ _ _ _ | exact h _ _ _ _ _ | exact h _ _ _ _ _ _ | exact h _ _ _ _ _ _ _ | exact h _ _ _ _ _ _ _ _) | (simp_all [-Bool.forall_bool, emp_eq, int_beq]; done) | (simp_all [-Bool.forall_bool]; (intros; simp_all; done)) | (simp_all [-Bool.forall_bool, rdset5, rdset101, rdset83, rdset3, rdset56]; done) | grind
end Go.Proofs.Ytklkhnomnanpoaa.M2

/- What the print's plain functions answer, the own ones answer. Written by a program of this session. -/
namespace Go.Proofs.Ytklkhnomnanpoaa.M2
open Go Go.RowKit Go.Proofs.YtklkhnomnanpoaaW.PrintWords Go.Proofs.Ytklkhnomnanpoaa.PK
set_option linter.unusedVariables false
set_option linter.unusedSimpArgs false
theorem spec_FlashNew.rel_l (k : Nat) : (∀ x0 x5 x866000 r, PK.spec_FlashNew.l0 k x0 x5 x866000 = some r → ∀ m, k ≤ m → ∀ (h65 : List S83), spec_FlashNew.c5 m x0 x5 h65 x866000 = some (r.1, r.2)) := by
  induction k using Nat.strongRecOn with
  | _ k ih =>
  have il0 := fun k' hk' => (ih k' hk')
  clear ih
  intro x0 x5 x866000 r h m hm h65
  cases k with
  | zero => simp only [PK.spec_FlashNew.l0] at h; cases h
  | succ k =>
    obtain ⟨m, rfl⟩ : ∃ m', m = m' + 1 := ⟨m - 1, by omega⟩
    rw [PK.spec_FlashNew.l0] at h
    rw [spec_FlashNew.c5]
    try simp only [w64_eq, wu8_eq, gt_iff_lt, ge_iff_le, int_beq, fdiv33, fdiv45] at h
    try simp only [w64_eq, wu8_eq, gt_iff_lt, ge_iff_le, int_beq, fdiv33, fdiv45, rdT5_eq, rdT3_eq, seq, maxI, minI, emp_eq, rdn5, rdn101, rdn83, rdn3, rdn56]
    refine (itE h (fun q h => (itE h (fun q h => (itE h (fun q h => ((fun h => ?_) (il0 _ (by omega) _ _ _ _ h m (by omega)))) (fun q h => (noE h)))) (fun q h => (noE h)))) (fun q h => ?_))
    all_goals clear il0
    all_goals (try cases h)
    all_goals (try simp only [*, if_true, if_false, ↓reduceIte, Option.bind_some, List.length_cons, List.length_nil, List.length_append, Bool.not_true, Bool.not_false, Bool.true_eq_false, Bool.false_eq_true])
    all_goals (repeat first | rw [if_pos (by omega)] | rw [if_neg (by omega)])
    all_goals first | exact h | exact h _ | exact h _ _ | exact h _ _ _ | exact h _ _ _ _ | exact h _ _ _ _ _ | exact h _ _ _ _ _ _ | exact h _ _ _ _ _ _ _ | exact h _ _ _ _ _ _ _ _ | rfl | (simp_all [-Bool.forall_bool]; done) | (simp_all [-Bool.forall_bool]; first | exact h | exact h _ | exact h _ _ | exact h _ _ _ | exact h _ _ _ _ | exact h _ _ _ _ _ | exact h _ _ _ _ _ _ | exact h _ _ _ _ _ _ _ | exact h _ _ _ _ _ _ _ _) | (simp_all [-Bool.forall_bool, emp_eq, int_beq]; done) | (simp_all [-Bool.forall_bool]; (intros; simp_all; done)) | (simp_all [-Bool.forall_bool, rdset5, rdset101, rdset83, rdset3, rdset56]; done) | grind
theorem spec_FlashNew.rel (k : Nat) (a0 : Int) (r) (h : PK.spec_FlashNew.f k a0 = some r) (m : Nat) (hm : k ≤ m) : spec_FlashNew.f m a0 = some (r.1, r.2) := by
  have il0 := fun k' (_ : k' < k + 1) => (spec_FlashNew.rel_l k')
  rw [PK.spec_FlashNew.f] at h
  rw [spec_FlashNew.f]
  try simp only [w64_eq, wu8_eq, gt_iff_lt, ge_iff_le, int_beq, fdiv33, fdiv45] at h
  try simp only [w64_eq, wu8_eq, gt_iff_lt, ge_iff_le, int_beq, fdiv33, fdiv45, rdT5_eq, rdT3_eq, seq, maxI, minI, emp_eq, rdn5, rdn101, rdn83, rdn3, rdn56]
  refine (bnE h (fun _ g h => (fun g => (itE h (fun q h => ((fun h => ?_) (il0 _ (by omega) _ _ _ _ h m (by omega)))) (fun q h => ?_))) (spec_l01In.rel m _ _ _ _ g m (by omega))))
  all_goals clear il0
  all_goals (try cases h)
  all_goals (try simp only [*, if_true, if_false, ↓reduceIte, Option.bind_some, List.length_cons, List.length_nil, List.length_append, Bool.not_true, Bool.not_false, Bool.true_eq_false, Bool.false_eq_true])
  all_goals (repeat first | rw [if_pos (by omega)] | rw [if_neg (by omega)])
  all_goals first | exact h | exact h _ | exact h _ _ | exact h _ _ _ | exact h _ _ _ _ | exact h _ _ _ _ _ | exact h _ _ _ _ _ _ | exact h _ _ _ _ _ _ _ | exact h _ _ _ _ _ _ _ _ | rfl | (simp_all [-Bool.forall_bool]; done) | (simp_all [-Bool.forall_bool]; first | exact h | exact h _ | exact h _ _ | exact h _ _ _ | exact h _ _ _ _ | exact h _ _ _ _ _ | exact h _ _ _ _ _ _ | exact h _ _ _ _ _ _ _ | exact h _ _ _ _ _ _ _ _) | (simp_all [-Bool.forall_bool, emp_eq, int_beq]; done) | (simp_all [-Bool.forall_bool]; (intros; simp_all; done)) | (simp_all [-Bool.forall_bool, rdset5, rdset101, rdset83, rdset3, rdset56]; done) | grind

theorem spec_MarkBad.rel (k : Nat) (l0_0 : List (S83)) (a1 : Int) (r) (h : PK.spec_MarkBad.f k l0_0 a1 = some r) (m : Nat) (hm : k ≤ m) : spec_MarkBad.f m l0_0 a1 = some r := by
  rw [PK.spec_MarkBad.f] at h
  rw [spec_MarkBad.f]
  try simp only [w64_eq, wu8_eq, gt_iff_lt, ge_iff_le, int_beq, fdiv33, fdiv45] at h
  try simp only [w64_eq, wu8_eq, gt_iff_lt, ge_iff_le, int_beq, fdiv33, fdiv45, rdT5_eq, rdT3_eq, seq, maxI, minI, emp_eq, rdn5, rdn101, rdn83, rdn3, rdn56]
  refine (bnE h (fun _ g h => (fun g => (bnE h (fun _ g h => (fun g => (itE h (fun q h => (itE h (fun q h => (itE h (fun q h => ?_) (fun q h => (noE h)))) (fun q h => (noE h)))) (fun q h => ?_))) (spec_l01In.rel m _ _ _ _ g m (by omega))))) (spec_l05Copy.rel _ _ _ g m (by omega))))
  all_goals (try cases h)
  all_goals (try simp only [*, if_true, if_false, ↓reduceIte, Option.bind_some, List.length_cons, List.length_nil, List.length_append, Bool.not_true, Bool.not_false, Bool.true_eq_false, Bool.false_eq_true])
  all_goals (repeat first | rw [if_pos (by omega)] | rw [if_neg (by omega)])
  all_goals first | exact h | exact h _ | exact h _ _ | exact h _ _ _ | exact h _ _ _ _ | exact h _ _ _ _ _ | exact h _ _ _ _ _ _ | exact h _ _ _ _ _ _ _ | exact h _ _ _ _ _ _ _ _ | rfl | (simp_all [-Bool.forall_bool]; done) | (simp_all [-Bool.forall_bool]; first | exact h | exact h _ | exact h _ _ | exact h _ _ _ | exact h _ _ _ _ | exact h _ _ _ _ _ | exact h _ _ _ _ _ _ | exact h _ _ _ _ _ _ _ | exact h _ _ _ _ _ _ _ _) | (simp_all [-Bool.forall_bool, emp_eq, int_beq]; done) | (simp_all [-Bool.forall_bool]; (intros; simp_all; done)) | (simp_all [-Bool.forall_bool, rdset5, rdset101, rdset83, rdset3, rdset56]; done) | grind

theorem impl_ReadLeaf.rel (k : Nat) (l0_0 : List (S83)) (a1 : Int) (a2 : Int) (r) (h : PK.impl_ReadLeaf.f l0_0 a1 a2 = some r) (m : Nat) (hm : k ≤ m) : impl_ReadLeaf.f m l0_0 a1 a2 = some (r.1, r.2) := by
  rw [PK.impl_ReadLeaf.f] at h
  rw [impl_ReadLeaf.f]
  try simp only [w64_eq, wu8_eq, gt_iff_lt, ge_iff_le, int_beq, fdiv33, fdiv45] at h
  try simp only [w64_eq, wu8_eq, gt_iff_lt, ge_iff_le, int_beq, fdiv33, fdiv45, rdT5_eq, rdT3_eq, seq, maxI, minI, emp_eq, rdn5, rdn101, rdn83, rdn3, rdn56]
  refine (bnE h (fun _ g h => (fun g => (itE h (fun q h => (itE h (fun q h => (itE h (fun q h => (bnE h (fun _ g h => (fun g => (itE h (fun q h => (itE h (fun q h => (itE h (fun q h => (itE h (fun q h => ?_) (fun q h => ?_))) (fun q h => (noE h)))) (fun q h => (noE h)))) (fun q h => ?_))) (impl_in.rel m _ _ _ _ g m (by omega))))) (fun q h => (noE h)))) (fun q h => (noE h)))) (fun q h => ?_))) (impl_in.rel m _ _ _ _ g m (by omega))))
  all_goals (try cases h)
  all_goals (try simp only [*, if_true, if_false, ↓reduceIte, Option.bind_some, List.length_cons, List.length_nil, List.length_append, Bool.not_true, Bool.not_false, Bool.true_eq_false, Bool.false_eq_true])
  all_goals (repeat first | rw [if_pos (by omega)] | rw [if_neg (by omega)])
  all_goals first | exact h | exact h _ | exact h _ _ | exact h _ _ _ | exact h _ _ _ _ | exact h _ _ _ _ _ | exact h _ _ _ _ _ _ | exact h _ _ _ _ _ _ _ | exact h _ _ _ _ _ _ _ _ | rfl | (simp_all [-Bool.forall_bool]; done) | (simp_all [-Bool.forall_bool]; first | exact h | exact h _ | exact h _ _ | exact h _ _ _ | exact h _ _ _ _ | exact h _ _ _ _ _ | exact h _ _ _ _ _ _ | exact h _ _ _ _ _ _ _ | exact h _ _ _ _ _ _ _ _) | (simp_all [-Bool.forall_bool, emp_eq, int_beq]; done) | (simp_all [-Bool.forall_bool]; (intros; simp_all; done)) | (simp_all [-Bool.forall_bool, rdset5, rdset101, rdset83, rdset3, rdset56]; done) | grind
end Go.Proofs.Ytklkhnomnanpoaa.M2

/- What the print's plain functions answer, the own ones answer. Written by a program of this session. -/
namespace Go.Proofs.Ytklkhnomnanpoaa.M2
open Go Go.RowKit Go.Proofs.YtklkhnomnanpoaaW.PrintWords Go.Proofs.Ytklkhnomnanpoaa.PK
set_option linter.unusedVariables false
set_option linter.unusedSimpArgs false
theorem spec_l01Text.rel_l (k : Nat) : (∀ x1 x5 x6 x1000 x1001 x1002 r, PK.spec_l01Text.l0 k x1 x5 x6 x1000 x1001 x1002 = some r → ∀ m, k ≤ m → spec_l01Text.c5 m x1 x6 x1000 x1001 x1002 x5 = some (r.1, x1000, r.2.1, r.2.2)) := by
  induction k using Nat.strongRecOn with
  | _ k ih =>
  have il0 := fun k' hk' => (ih k' hk')
  clear ih
  intro x1 x5 x6 x1000 x1001 x1002 r h m hm
  cases k with
  | zero => simp only [PK.spec_l01Text.l0] at h; cases h
  | succ k =>
    obtain ⟨m, rfl⟩ : ∃ m', m = m' + 1 := ⟨m - 1, by omega⟩
    rw [PK.spec_l01Text.l0] at h
    rw [spec_l01Text.c5]
    try simp only [w64_eq, wu8_eq, gt_iff_lt, ge_iff_le, int_beq, fdiv33, fdiv45] at h
    try simp only [w64_eq, wu8_eq, gt_iff_lt, ge_iff_le, int_beq, fdiv33, fdiv45, rdT5_eq, rdT3_eq, seq, maxI, minI, emp_eq, rdn5, rdn101, rdn83, rdn3, rdn56]
    refine (itE h (fun q h => (bnE h (fun _ g h => (fun g => (itE h (fun q h => ((fun h => ?_) (il0 _ (by omega) _ _ _ _ _ _ _ h m (by omega)))) (fun q h => (noE h)))) (spec_l01Byte.rel m _ _ _ _ g m (by omega))))) (fun q h => ?_))
    all_goals clear il0
    all_goals (try cases h)
    all_goals (try simp only [*, if_true, if_false, ↓reduceIte, Option.bind_some, List.length_cons, List.length_nil, List.length_append, Bool.not_true, Bool.not_false, Bool.true_eq_false, Bool.false_eq_true])
    all_goals (repeat first | rw [if_pos (by omega)] | rw [if_neg (by omega)])
    all_goals first | exact h | exact h _ | exact h _ _ | exact h _ _ _ | exact h _ _ _ _ | exact h _ _ _ _ _ | exact h _ _ _ _ _ _ | exact h _ _ _ _ _ _ _ | exact h _ _ _ _ _ _ _ _ | rfl | (simp_all [-Bool.forall_bool]; done) | (simp_all [-Bool.forall_bool]; first | exact h | exact h _ | exact h _ _ | exact h _ _ _ | exact h _ _ _ _ | exact h _ _ _ _ _ | exact h _ _ _ _ _ _ | exact h _ _ _ _ _ _ _ | exact h _ _ _ _ _ _ _ _) | (simp_all [-Bool.forall_bool, emp_eq, int_beq]; done) | (simp_all [-Bool.forall_bool]; (intros; simp_all; done)) | (simp_all [-Bool.forall_bool, rdset5, rdset101, rdset83, rdset3, rdset56]; done) | grind
theorem spec_l01Text.rel (k : Nat) (s0_0 : List Int) (s0_1 : Int) (s0_2 : Int) (a1 : Int) (r) (h : PK.spec_l01Text.f k s0_0 s0_1 s0_2 a1 = some r) (m : Nat) (hm : k ≤ m) : spec_l01Text.f m a1 s0_0 s0_1 s0_2 = some (r.1, s0_0, r.2.1, r.2.2) := by
  have il0 := fun k' (_ : k' < k + 1) => (spec_l01Text.rel_l k')
  rw [PK.spec_l01Text.f] at h
  rw [spec_l01Text.f]
  try simp only [w64_eq, wu8_eq, gt_iff_lt, ge_iff_le, int_beq, fdiv33, fdiv45] at h
  try simp only [w64_eq, wu8_eq, gt_iff_lt, ge_iff_le, int_beq, fdiv33, fdiv45, rdT5_eq, rdT3_eq, seq, maxI, minI, emp_eq, rdn5, rdn101, rdn83, rdn3, rdn56]
  refine (itE h (fun q h => (by cases k with | zero => (simp only [PK.spec_l01Text.j0] at h; cases h) | succ k => (rw [PK.spec_l01Text.j0] at h; (try simp only [w64_eq, wu8_eq, gt_iff_lt, ge_iff_le, int_beq, fdiv33, fdiv45] at h); refine ((fun h => ?_) (il0 _ (by omega) _ _ _ _ _ _ _ h m (by omega))) <;> ((try cases h); (try simp only [*, if_true, if_false, ↓reduceIte, Option.bind_some, List.length_cons, List.length_nil, List.length_append, Bool.not_true, Bool.not_false, Bool.true_eq_false, Bool.false_eq_true]); all_goals (repeat first | rw [if_pos (by omega)] | rw [if_neg (by omega)]); all_goals (first | exact h | exact h _ | exact h _ _ | exact h _ _ _ | exact h _ _ _ _ | exact h _ _ _ _ _ | exact h _ _ _ _ _ _ | exact h _ _ _ _ _ _ _ | exact h _ _ _ _ _ _ _ _ | rfl | (simp_all [-Bool.forall_bool]; done) | (simp_all [-Bool.forall_bool]; first | exact h | exact h _ | exact h _ _ | exact h _ _ _ | exact h _ _ _ _ | exact h _ _ _ _ _ | exact h _ _ _ _ _ _ | exact h _ _ _ _ _ _ _ | exact h _ _ _ _ _ _ _ _) | (simp_all [-Bool.forall_bool, emp_eq, int_beq]; done) | (simp_all [-Bool.forall_bool]; (intros; simp_all; done)) | (simp_all [-Bool.forall_bool, rdset5, rdset101, rdset83, rdset3, rdset56]; done) | grind))))) (fun q h => (by cases k with | zero => (simp only [PK.spec_l01Text.j0] at h; cases h) | succ k => (rw [PK.spec_l01Text.j0] at h; (try simp only [w64_eq, wu8_eq, gt_iff_lt, ge_iff_le, int_beq, fdiv33, fdiv45] at h); refine ((fun h => ?_) (il0 _ (by omega) _ _ _ _ _ _ _ h m (by omega))) <;> ((try cases h); (try simp only [*, if_true, if_false, ↓reduceIte, Option.bind_some, List.length_cons, List.length_nil, List.length_append, Bool.not_true, Bool.not_false, Bool.true_eq_false, Bool.false_eq_true]); all_goals (repeat first | rw [if_pos (by omega)] | rw [if_neg (by omega)]); all_goals (first | exact h | exact h _ | exact h _ _ | exact h _ _ _ | exact h _ _ _ _ | exact h _ _ _ _ _ | exact h _ _ _ _ _ _ | exact h _ _ _ _ _ _ _ | exact h _ _ _ _ _ _ _ _ | rfl | (simp_all [-Bool.forall_bool]; done) | (simp_all [-Bool.forall_bool]; first | exact h | exact h _ | exact h _ _ | exact h _ _ _ | exact h _ _ _ _ | exact h _ _ _ _ _ | exact h _ _ _ _ _ _ | exact h _ _ _ _ _ _ _ | exact h _ _ _ _ _ _ _ _) | (simp_all [-Bool.forall_bool, emp_eq, int_beq]; done) | (simp_all [-Bool.forall_bool]; (intros; simp_all; done)) | (simp_all [-Bool.forall_bool, rdset5, rdset101, rdset83, rdset3, rdset56]; done) | grind))))))
  all_goals clear il0
  all_goals (try cases h)
  all_goals (try simp only [*, if_true, if_false, ↓reduceIte, Option.bind_some, List.length_cons, List.length_nil, List.length_append, Bool.not_true, Bool.not_false, Bool.true_eq_false, Bool.false_eq_true])
  all_goals (repeat first | rw [if_pos (by omega)] | rw [if_neg (by omega)])
  all_goals first | exact h | exact h _ | exact h _ _ | exact h _ _ _ | exact h _ _ _ _ | exact h _ _ _ _ _ | exact h _ _ _ _ _ _ | exact h _ _ _ _ _ _ _ | exact h _ _ _ _ _ _ _ _ | rfl | (simp_all [-Bool.forall_bool]; done) | (simp_all [-Bool.forall_bool]; first | exact h | exact h _ | exact h _ _ | exact h _ _ _ | exact h _ _ _ _ | exact h _ _ _ _ _ | exact h _ _ _ _ _ _ | exact h _ _ _ _ _ _ _ | exact h _ _ _ _ _ _ _ _) | (simp_all [-Bool.forall_bool, emp_eq, int_beq]; done) | (simp_all [-Bool.forall_bool]; (intros; simp_all; done)) | (simp_all [-Bool.forall_bool, rdset5, rdset101, rdset83, rdset3, rdset56]; done) | grind
end Go.Proofs.Ytklkhnomnanpoaa.M2

/- What the print's plain functions answer, the own ones answer. Written by a program of this session. -/
namespace Go.Proofs.Ytklkhnomnanpoaa.M2
open Go Go.RowKit Go.Proofs.YtklkhnomnanpoaaW.PrintWords Go.Proofs.Ytklkhnomnanpoaa.PK
set_option linter.unusedVariables false
set_option linter.unusedSimpArgs false
theorem spec_Wipe.rel (k : Nat) (l0_0 : List (S83)) (a1 : Int) (r) (h : PK.spec_Wipe.f k l0_0 a1 = some r) (m : Nat) (hm : k ≤ m) : spec_Wipe.f m l0_0 a1 = some (r.1, r.2) := by
  rw [PK.spec_Wipe.f] at h
  rw [spec_Wipe.f]
  try simp only [w64_eq, wu8_eq, gt_iff_lt, ge_iff_le, int_beq, fdiv33, fdiv45] at h
  try simp only [w64_eq, wu8_eq, gt_iff_lt, ge_iff_le, int_beq, fdiv33, fdiv45, rdT5_eq, rdT3_eq, seq, maxI, minI, emp_eq, rdn5, rdn101, rdn83, rdn3, rdn56]
  refine (bnE h (fun _ g h => (fun g => (bnE h (fun _ g h => (fun g => (itE h (fun q h => (bnE h (fun _ g h => (fun g => (itE h (fun q h => (itE h (fun q h => (itE h (fun q h => (itE h (fun q h => ?_) (fun q h => (itE h (fun q h => ?_) (fun q h => (itE h (fun q h => (itE h (fun q h => ?_) (fun q h => (noE h)))) (fun q h => (noE h)))))))) (fun q h => (noE h)))) (fun q h => (noE h)))) (fun q h => ?_))) (spec_l01In.rel m _ _ _ _ g m (by omega))))) (fun q h => ?_))) (spec_FlashOk.rel _ _ _ g m (by omega))))) (spec_l05Copy.rel _ _ _ g m (by omega))))
  all_goals (try cases h)
  all_goals (try simp only [*, if_true, if_false, ↓reduceIte, Option.bind_some, List.length_cons, List.length_nil, List.length_append, Bool.not_true, Bool.not_false, Bool.true_eq_false, Bool.false_eq_true])
  all_goals (repeat first | rw [if_pos (by omega)] | rw [if_neg (by omega)])
  all_goals first | exact h | exact h _ | exact h _ _ | exact h _ _ _ | exact h _ _ _ _ | exact h _ _ _ _ _ | exact h _ _ _ _ _ _ | exact h _ _ _ _ _ _ _ | exact h _ _ _ _ _ _ _ _ | rfl | (simp_all [-Bool.forall_bool]; done) | (simp_all [-Bool.forall_bool]; first | exact h | exact h _ | exact h _ _ | exact h _ _ _ | exact h _ _ _ _ | exact h _ _ _ _ _ | exact h _ _ _ _ _ _ | exact h _ _ _ _ _ _ _ | exact h _ _ _ _ _ _ _ _) | (simp_all [-Bool.forall_bool, emp_eq, int_beq]; done) | (simp_all [-Bool.forall_bool]; (intros; simp_all; done)) | (simp_all [-Bool.forall_bool, rdset5, rdset101, rdset83, rdset3, rdset56]; done) | grind

theorem spec_DoStep.rel (k : Nat) (l0_0 : List (S83)) (a1_0 : Int) (a1_1 : Int) (a1_2 : Int) (a1_3 : ByteArray) (r) (h : PK.spec_DoStep.f k l0_0 a1_0 a1_1 a1_2 a1_3 = some r) (m : Nat) (hm : k ≤ m) : spec_DoStep.f m l0_0 a1_0 a1_1 a1_2 a1_3 = some (r.1, r.2) := by
  rw [PK.spec_DoStep.f] at h
  rw [spec_DoStep.f]
  try simp only [w64_eq, wu8_eq, gt_iff_lt, ge_iff_le, int_beq, fdiv33, fdiv45] at h
  try simp only [w64_eq, wu8_eq, gt_iff_lt, ge_iff_le, int_beq, fdiv33, fdiv45, rdT5_eq, rdT3_eq, seq, maxI, minI, emp_eq, rdn5, rdn101, rdn83, rdn3, rdn56]
  refine (itE h (fun q h => (bnE h (fun _ g h => (fun g => ?_) (spec_Program.rel _ _ _ _ _ _ g m (by omega))))) (fun q h => (itE h (fun q h => (bnE h (fun _ g h => (fun g => ?_) (spec_Wipe.rel _ _ _ _ g m (by omega))))) (fun q h => (bnE h (fun _ g h => (fun g => ?_) (spec_l05Copy.rel _ _ _ g m (by omega))))))))
  all_goals (try cases h)
  all_goals (try simp only [*, if_true, if_false, ↓reduceIte, Option.bind_some, List.length_cons, List.length_nil, List.length_append, Bool.not_true, Bool.not_false, Bool.true_eq_false, Bool.false_eq_true])
  all_goals (repeat first | rw [if_pos (by omega)] | rw [if_neg (by omega)])
  all_goals first | exact h | exact h _ | exact h _ _ | exact h _ _ _ | exact h _ _ _ _ | exact h _ _ _ _ _ | exact h _ _ _ _ _ _ | exact h _ _ _ _ _ _ _ | exact h _ _ _ _ _ _ _ _ | rfl | (simp_all [-Bool.forall_bool]; done) | (simp_all [-Bool.forall_bool]; first | exact h | exact h _ | exact h _ _ | exact h _ _ _ | exact h _ _ _ _ | exact h _ _ _ _ _ | exact h _ _ _ _ _ _ | exact h _ _ _ _ _ _ _ | exact h _ _ _ _ _ _ _ _) | (simp_all [-Bool.forall_bool, emp_eq, int_beq]; done) | (simp_all [-Bool.forall_bool]; (intros; simp_all; done)) | (simp_all [-Bool.forall_bool, rdset5, rdset101, rdset83, rdset3, rdset56]; done) | grind

theorem spec_DoSteps.rel_l (k : Nat) : (∀ x1 x7 x705000 r, PK.spec_DoSteps.l0 k x1 x7 x705000 = some r → ∀ m, k ≤ m → ∀ (h65 : List S83), spec_DoSteps.c3 m x1 x7 h65 x705000 = some (r.1, r.2)) := by
  induction k using Nat.strongRecOn with
  | _ k ih =>
  have il0 := fun k' hk' => (ih k' hk')
  clear ih
  intro x1 x7 x705000 r h m hm h65
  cases k with
  | zero => simp only [PK.spec_DoSteps.l0] at h; cases h
  | succ k =>
    obtain ⟨m, rfl⟩ : ∃ m', m = m' + 1 := ⟨m - 1, by omega⟩
    rw [PK.spec_DoSteps.l0] at h
    rw [spec_DoSteps.c3]
    try simp only [w64_eq, wu8_eq, gt_iff_lt, ge_iff_le, int_beq, fdiv33, fdiv45] at h
    try simp only [w64_eq, wu8_eq, gt_iff_lt, ge_iff_le, int_beq, fdiv33, fdiv45, rdT5_eq, rdT3_eq, seq, maxI, minI, emp_eq, rdn5, rdn101, rdn83, rdn3, rdn56]
    refine (itE h (fun q h => (itE h (fun q h => (bnE h (fun _ g h => (fun g => (itE h (fun q h => ((fun h => ?_) (il0 _ (by omega) _ _ _ _ h m (by omega)))) (fun q h => ?_))) (spec_DoStep.rel _ _ _ _ _ _ _ g m (by omega))))) (fun q h => (noE h)))) (fun q h => ?_))
    all_goals clear il0
    all_goals (try cases h)
    all_goals (try simp only [*, if_true, if_false, ↓reduceIte, Option.bind_some, List.length_cons, List.length_nil, List.length_append, Bool.not_true, Bool.not_false, Bool.true_eq_false, Bool.false_eq_true])
    all_goals (repeat first | rw [if_pos (by omega)] | rw [if_neg (by omega)])
    all_goals first | exact h | exact h _ | exact h _ _ | exact h _ _ _ | exact h _ _ _ _ | exact h _ _ _ _ _ | exact h _ _ _ _ _ _ | exact h _ _ _ _ _ _ _ | exact h _ _ _ _ _ _ _ _ | rfl | (simp_all [-Bool.forall_bool]; done) | (simp_all [-Bool.forall_bool]; first | exact h | exact h _ | exact h _ _ | exact h _ _ _ | exact h _ _ _ _ | exact h _ _ _ _ _ | exact h _ _ _ _ _ _ | exact h _ _ _ _ _ _ _ | exact h _ _ _ _ _ _ _ _) | (simp_all [-Bool.forall_bool, emp_eq, int_beq]; done) | (simp_all [-Bool.forall_bool]; (intros; simp_all; done)) | (simp_all [-Bool.forall_bool, rdset5, rdset101, rdset83, rdset3, rdset56]; done) | grind
theorem spec_DoSteps.rel (k : Nat) (l0_0 : List (S83)) (l1 : List (S56)) (r) (h : PK.spec_DoSteps.f k l0_0 l1 = some r) (m : Nat) (hm : k ≤ m) : spec_DoSteps.f m l0_0 l1 = some (r.1, r.2) := by
  have il0 := fun k' (_ : k' < k + 1) => (spec_DoSteps.rel_l k')
  rw [PK.spec_DoSteps.f] at h
  rw [spec_DoSteps.f]
  try simp only [w64_eq, wu8_eq, gt_iff_lt, ge_iff_le, int_beq, fdiv33, fdiv45] at h
  try simp only [w64_eq, wu8_eq, gt_iff_lt, ge_iff_le, int_beq, fdiv33, fdiv45, rdT5_eq, rdT3_eq, seq, maxI, minI, emp_eq, rdn5, rdn101, rdn83, rdn3, rdn56]
  refine (bnE h (fun _ g h => (fun g => ((fun h => ?_) (il0 _ (by omega) _ _ _ _ h m (by omega)))) (spec_l05Copy.rel _ _ _ g m (by omega))))
  all_goals clear il0
  all_goals (try cases h)
  all_goals (try simp only [*, if_true, if_false, ↓reduceIte, Option.bind_some, List.length_cons, List.length_nil, List.length_append, Bool.not_true, Bool.not_false, Bool.true_eq_false, Bool.false_eq_true])
  all_goals (repeat first | rw [if_pos (by omega)] | rw [if_neg (by omega)])
  all_goals first | exact h | exact h _ | exact h _ _ | exact h _ _ _ | exact h _ _ _ _ | exact h _ _ _ _ _ | exact h _ _ _ _ _ _ | exact h _ _ _ _ _ _ _ | exact h _ _ _ _ _ _ _ _ | rfl | (simp_all [-Bool.forall_bool]; done) | (simp_all [-Bool.forall_bool]; first | exact h | exact h _ | exact h _ _ | exact h _ _ _ | exact h _ _ _ _ | exact h _ _ _ _ _ | exact h _ _ _ _ _ _ | exact h _ _ _ _ _ _ _ | exact h _ _ _ _ _ _ _ _) | (simp_all [-Bool.forall_bool, emp_eq, int_beq]; done) | (simp_all [-Bool.forall_bool]; (intros; simp_all; done)) | (simp_all [-Bool.forall_bool, rdset5, rdset101, rdset83, rdset3, rdset56]; done) | grind
end Go.Proofs.Ytklkhnomnanpoaa.M2

/- What the print's plain functions answer, the own ones answer. Written by a program of this session. -/
namespace Go.Proofs.Ytklkhnomnanpoaa.M2
open Go Go.RowKit Go.Proofs.YtklkhnomnanpoaaW.PrintWords Go.Proofs.Ytklkhnomnanpoaa.PK
set_option linter.unusedVariables false
set_option linter.unusedSimpArgs false
theorem spec_l05Flash.rel_l (k : Nat) : (∀ x5 x1000 x1001 x1002 x889000 r, PK.spec_l05Flash.l0 k x5 x1000 x1001 x1002 x889000 = some r → ∀ m, k ≤ m → ∀ (h65 : List S83), spec_l05Flash.c3 m x5 x1000 x1001 x1002 h65 x889000 = some (r.1, x1000, r.2.1, r.2.2)) := by
  induction k using Nat.strongRecOn with
  | _ k ih =>
  have il0 := fun k' hk' => (ih k' hk')
  clear ih
  intro x5 x1000 x1001 x1002 x889000 r h m hm h65
  cases k with
  | zero => simp only [PK.spec_l05Flash.l0] at h; cases h
  | succ k =>
    obtain ⟨m, rfl⟩ : ∃ m', m = m' + 1 := ⟨m - 1, by omega⟩
    rw [PK.spec_l05Flash.l0] at h
    rw [spec_l05Flash.c3]
    try simp only [w64_eq, wu8_eq, gt_iff_lt, ge_iff_le, int_beq, fdiv33, fdiv45] at h
    try simp only [w64_eq, wu8_eq, gt_iff_lt, ge_iff_le, int_beq, fdiv33, fdiv45, rdT5_eq, rdT3_eq, seq, maxI, minI, emp_eq, rdn5, rdn101, rdn83, rdn3, rdn56]
    refine (bnE h (fun _ g h => (fun g => (itE h (fun q h => (bnE h (fun _ g h => (fun g => (bnE h (fun _ g h => (fun g => (itE h (fun q h => (bnE h (fun _ g h => (fun g => ((fun h => ?_) (il0 _ (by omega) _ _ _ _ _ _ h m (by omega)))) (spec_Wipe.rel _ _ _ _ g m (by omega))))) (fun q h => (itE h (fun q h => (itE h (fun q h => (itE h (fun q h => (bnE h (fun _ g h => (fun g => (itE h (fun q h => (bnE h (fun _ g h => (fun g => (itE h (fun q h => (itE h (fun q h => ((fun h => ?_) (il0 _ (by omega) _ _ _ _ _ _ h m (by omega)))) (fun q h => (noE h)))) (fun q h => (noE h)))) (spec_NextBlank.rel _ _ _ _ _ g m (by omega))))) (fun q h => ((fun h => ?_) (il0 _ (by omega) _ _ _ _ _ _ h m (by omega)))))) (spec_NextBlank.rel _ _ _ _ _ g m (by omega))))) (fun q h => (noE h)))) (fun q h => (noE h)))) (fun q h => (itE h (fun q h => (itE h (fun q h => (bnE h (fun _ g h => (fun g => (bnE h (fun _ g h => (fun g => (bnE h (fun _ g h => (fun g => (bnE h (fun _ g h => (fun g => ((fun h => ?_) (il0 _ (by omega) _ _ _ _ _ _ h m (by omega)))) (spec_Program.rel _ _ _ _ _ _ g m (by omega))))) (spec_l01Text.rel _ _ _ _ _ _ g m (by omega))))) (spec_l01Below.rel m _ _ _ _ _ g m (by omega))))) (spec_NextBlank.rel _ _ _ _ _ g m (by omega))))) (fun q h => (noE h)))) (fun q h => (noE h)))))))) (spec_l01Below.rel m _ _ _ _ _ g m (by omega))))) (spec_l01Below.rel m _ _ _ _ _ g m (by omega))))) (fun q h => (bnE h (fun _ g h => (fun g => (itE h (fun q h => (bnE h (fun _ g h => (fun g => (bnE h (fun _ g h => (fun g => ?_) (spec_MarkBad.rel _ _ _ _ g m (by omega))))) (spec_l01Below.rel m _ _ _ _ _ g m (by omega))))) (fun q h => ?_))) (spec_l01Once.rel m _ _ _ _ _ g m (by omega))))))) (spec_l01Below.rel m _ _ _ _ _ g m (by omega))))
    all_goals clear il0
    all_goals (try cases h)
    all_goals (try simp only [*, if_true, if_false, ↓reduceIte, Option.bind_some, List.length_cons, List.length_nil, List.length_append, Bool.not_true, Bool.not_false, Bool.true_eq_false, Bool.false_eq_true])
    all_goals (repeat first | rw [if_pos (by omega)] | rw [if_neg (by omega)])
    all_goals first | exact h | exact h _ | exact h _ _ | exact h _ _ _ | exact h _ _ _ _ | exact h _ _ _ _ _ | exact h _ _ _ _ _ _ | exact h _ _ _ _ _ _ _ | exact h _ _ _ _ _ _ _ _ | rfl | (simp_all [-Bool.forall_bool]; done) | (simp_all [-Bool.forall_bool]; first | exact h | exact h _ | exact h _ _ | exact h _ _ _ | exact h _ _ _ _ | exact h _ _ _ _ _ | exact h _ _ _ _ _ _ | exact h _ _ _ _ _ _ _ | exact h _ _ _ _ _ _ _ _) | (simp_all [-Bool.forall_bool, emp_eq, int_beq]; done) | (simp_all [-Bool.forall_bool]; (intros; simp_all; done)) | (simp_all [-Bool.forall_bool, rdset5, rdset101, rdset83, rdset3, rdset56]; done) | grind
theorem spec_l05Flash.rel (k : Nat) (s0_0 : List Int) (s0_1 : Int) (s0_2 : Int) (r) (h : PK.spec_l05Flash.f k s0_0 s0_1 s0_2 = some r) (m : Nat) (hm : k ≤ m) : spec_l05Flash.f m s0_0 s0_1 s0_2 = some (r.1, s0_0, r.2.1, r.2.2) := by
  have il0 := fun k' (_ : k' < k + 1) => (spec_l05Flash.rel_l k')
  rw [PK.spec_l05Flash.f] at h
  rw [spec_l05Flash.f]
  try simp only [w64_eq, wu8_eq, gt_iff_lt, ge_iff_le, int_beq, fdiv33, fdiv45] at h
  try simp only [w64_eq, wu8_eq, gt_iff_lt, ge_iff_le, int_beq, fdiv33, fdiv45, rdT5_eq, rdT3_eq, seq, maxI, minI, emp_eq, rdn5, rdn101, rdn83, rdn3, rdn56]
  refine (bnE h (fun _ g h => (fun g => (bnE h (fun _ g h => (fun g => ((fun h => ?_) (il0 _ (by omega) _ _ _ _ _ _ h m (by omega)))) (spec_FlashNew.rel _ _ _ g m (by omega))))) (spec_l01Below.rel m _ _ _ _ _ g m (by omega))))
  all_goals clear il0
  all_goals (try cases h)
  all_goals (try simp only [*, if_true, if_false, ↓reduceIte, Option.bind_some, List.length_cons, List.length_nil, List.length_append, Bool.not_true, Bool.not_false, Bool.true_eq_false, Bool.false_eq_true])
  all_goals (repeat first | rw [if_pos (by omega)] | rw [if_neg (by omega)])
  all_goals first | exact h | exact h _ | exact h _ _ | exact h _ _ _ | exact h _ _ _ _ | exact h _ _ _ _ _ | exact h _ _ _ _ _ _ | exact h _ _ _ _ _ _ _ | exact h _ _ _ _ _ _ _ _ | rfl | (simp_all [-Bool.forall_bool]; done) | (simp_all [-Bool.forall_bool]; first | exact h | exact h _ | exact h _ _ | exact h _ _ _ | exact h _ _ _ _ | exact h _ _ _ _ _ | exact h _ _ _ _ _ _ | exact h _ _ _ _ _ _ _ | exact h _ _ _ _ _ _ _ _) | (simp_all [-Bool.forall_bool, emp_eq, int_beq]; done) | (simp_all [-Bool.forall_bool]; (intros; simp_all; done)) | (simp_all [-Bool.forall_bool, rdset5, rdset101, rdset83, rdset3, rdset56]; done) | grind

theorem spec_l08Steps.rel_l (k : Nat) : (∀ x5 x7 x1000 x1001 x1002 x992000 r, PK.spec_l08Steps.l0 k x5 x7 x1000 x1001 x1002 x992000 = some r → ∀ m, k ≤ m → spec_l08Steps.c4 m x7 x1000 x1001 x1002 x5 x992000 = some (r.1, x1000, r.2.1, r.2.2)) := by
  induction k using Nat.strongRecOn with
  | _ k ih =>
  have il0 := fun k' hk' => (ih k' hk')
  clear ih
  intro x5 x7 x1000 x1001 x1002 x992000 r h m hm
  cases k with
  | zero => simp only [PK.spec_l08Steps.l0] at h; cases h
  | succ k =>
    obtain ⟨m, rfl⟩ : ∃ m', m = m' + 1 := ⟨m - 1, by omega⟩
    rw [PK.spec_l08Steps.l0] at h
    rw [spec_l08Steps.c4]
    try simp only [w64_eq, wu8_eq, gt_iff_lt, ge_iff_le, int_beq, fdiv33, fdiv45] at h
    try simp only [w64_eq, wu8_eq, gt_iff_lt, ge_iff_le, int_beq, fdiv33, fdiv45, rdT5_eq, rdT3_eq, seq, maxI, minI, emp_eq, rdn5, rdn101, rdn83, rdn3, rdn56]
    refine (bnE h (fun _ g h => (fun g => (itE h (fun q h => (bnE h (fun _ g h => (fun g => (bnE h (fun _ g h => (fun g => (bnE h (fun _ g h => (fun g => (itE h (fun q h => (bnE h (fun _ g h => (fun g => (by cases k with | zero => (simp only [PK.spec_l08Steps.j1] at h; cases h) | succ k => (rw [PK.spec_l08Steps.j1] at h; (try simp only [w64_eq, wu8_eq, gt_iff_lt, ge_iff_le, int_beq, fdiv33, fdiv45] at h); refine (itE h (fun q h => (bnE h (fun _ g h => (fun g => (by cases k with | zero => (simp only [PK.spec_l08Steps.j2] at h; cases h) | succ k => (rw [PK.spec_l08Steps.j2] at h; (try simp only [w64_eq, wu8_eq, gt_iff_lt, ge_iff_le, int_beq, fdiv33, fdiv45] at h); refine (bnE h (fun _ g h => (fun g => (itE h (fun q h => (bnE h (fun _ g h => (fun g => (bnE h (fun _ g h => (fun g => (itE h (fun q h => ((fun h => ?_) (il0 _ (by omega) _ _ _ _ _ _ _ h m (by omega)))) (fun q h => (noE h)))) (spec_DoStep.rel _ _ _ _ _ _ _ g m (by omega))))) (spec_l01Below.rel m _ _ _ _ _ g m (by omega))))) (fun q h => (bnE h (fun _ g h => (fun g => (itE h (fun q h => ((fun h => ?_) (il0 _ (by omega) _ _ _ _ _ _ _ h m (by omega)))) (fun q h => (noE h)))) (spec_DoStep.rel _ _ _ _ _ _ _ g m (by omega))))))) (spec_l01Once.rel m _ _ _ _ _ g m (by omega)))) <;> ((try cases h); (try simp only [*, if_true, if_false, ↓reduceIte, Option.bind_some, List.length_cons, List.length_nil, List.length_append, Bool.not_true, Bool.not_false, Bool.true_eq_false, Bool.false_eq_true]); all_goals (repeat first | rw [if_pos (by omega)] | rw [if_neg (by omega)]); all_goals (first | exact h | exact h _ | exact h _ _ | exact h _ _ _ | exact h _ _ _ _ | exact h _ _ _ _ _ | exact h _ _ _ _ _ _ | exact h _ _ _ _ _ _ _ | exact h _ _ _ _ _ _ _ _ | rfl | (simp_all [-Bool.forall_bool]; done) | (simp_all [-Bool.forall_bool]; first | exact h | exact h _ | exact h _ _ | exact h _ _ _ | exact h _ _ _ _ | exact h _ _ _ _ _ | exact h _ _ _ _ _ _ | exact h _ _ _ _ _ _ _ | exact h _ _ _ _ _ _ _ _) | (simp_all [-Bool.forall_bool, emp_eq, int_beq]; done) | (simp_all [-Bool.forall_bool]; (intros; simp_all; done)) | (simp_all [-Bool.forall_bool, rdset5, rdset101, rdset83, rdset3, rdset56]; done) | grind))))) (spec_l01Below.rel m _ _ _ _ _ g m (by omega))))) (fun q h => (by cases k with | zero => (simp only [PK.spec_l08Steps.j2] at h; cases h) | succ k => (rw [PK.spec_l08Steps.j2] at h; (try simp only [w64_eq, wu8_eq, gt_iff_lt, ge_iff_le, int_beq, fdiv33, fdiv45] at h); refine (bnE h (fun _ g h => (fun g => (itE h (fun q h => (bnE h (fun _ g h => (fun g => (bnE h (fun _ g h => (fun g => (itE h (fun q h => ((fun h => ?_) (il0 _ (by omega) _ _ _ _ _ _ _ h m (by omega)))) (fun q h => (noE h)))) (spec_DoStep.rel _ _ _ _ _ _ _ g m (by omega))))) (spec_l01Below.rel m _ _ _ _ _ g m (by omega))))) (fun q h => (bnE h (fun _ g h => (fun g => (itE h (fun q h => ((fun h => ?_) (il0 _ (by omega) _ _ _ _ _ _ _ h m (by omega)))) (fun q h => (noE h)))) (spec_DoStep.rel _ _ _ _ _ _ _ g m (by omega))))))) (spec_l01Once.rel m _ _ _ _ _ g m (by omega)))) <;> ((try cases h); (try simp only [*, if_true, if_false, ↓reduceIte, Option.bind_some, List.length_cons, List.length_nil, List.length_append, Bool.not_true, Bool.not_false, Bool.true_eq_false, Bool.false_eq_true]); all_goals (repeat first | rw [if_pos (by omega)] | rw [if_neg (by omega)]); all_goals (first | exact h | exact h _ | exact h _ _ | exact h _ _ _ | exact h _ _ _ _ | exact h _ _ _ _ _ | exact h _ _ _ _ _ _ | exact h _ _ _ _ _ _ _ | exact h _ _ _ _ _ _ _ _ | rfl | (simp_all [-Bool.forall_bool]; done) | (simp_all [-Bool.forall_bool]; first | exact h | exact h _ | exact h _ _ | exact h _ _ _ | exact h _ _ _ _ | exact h _ _ _ _ _ | exact h _ _ _ _ _ _ | exact h _ _ _ _ _ _ _ | exact h _ _ _ _ _ _ _ _) | (simp_all [-Bool.forall_bool, emp_eq, int_beq]; done) | (simp_all [-Bool.forall_bool]; (intros; simp_all; done)) | (simp_all [-Bool.forall_bool, rdset5, rdset101, rdset83, rdset3, rdset56]; done) | grind)))))) <;> ((try cases h); (try simp only [*, if_true, if_false, ↓reduceIte, Option.bind_some, List.length_cons, List.length_nil, List.length_append, Bool.not_true, Bool.not_false, Bool.true_eq_false, Bool.false_eq_true]); all_goals (repeat first | rw [if_pos (by omega)] | rw [if_neg (by omega)]); all_goals (first | exact h | exact h _ | exact h _ _ | exact h _ _ _ | exact h _ _ _ _ | exact h _ _ _ _ _ | exact h _ _ _ _ _ _ | exact h _ _ _ _ _ _ _ | exact h _ _ _ _ _ _ _ _ | rfl | (simp_all [-Bool.forall_bool]; done) | (simp_all [-Bool.forall_bool]; first | exact h | exact h _ | exact h _ _ | exact h _ _ _ | exact h _ _ _ _ | exact h _ _ _ _ _ | exact h _ _ _ _ _ _ | exact h _ _ _ _ _ _ _ | exact h _ _ _ _ _ _ _ _) | (simp_all [-Bool.forall_bool, emp_eq, int_beq]; done) | (simp_all [-Bool.forall_bool]; (intros; simp_all; done)) | (simp_all [-Bool.forall_bool, rdset5, rdset101, rdset83, rdset3, rdset56]; done) | grind))))) (spec_l01Once.rel m _ _ _ _ _ g m (by omega))))) (fun q h => (by cases k with | zero => (simp only [PK.spec_l08Steps.j1] at h; cases h) | succ k => (rw [PK.spec_l08Steps.j1] at h; (try simp only [w64_eq, wu8_eq, gt_iff_lt, ge_iff_le, int_beq, fdiv33, fdiv45] at h); refine (itE h (fun q h => (bnE h (fun _ g h => (fun g => (by cases k with | zero => (simp only [PK.spec_l08Steps.j2] at h; cases h) | succ k => (rw [PK.spec_l08Steps.j2] at h; (try simp only [w64_eq, wu8_eq, gt_iff_lt, ge_iff_le, int_beq, fdiv33, fdiv45] at h); refine (bnE h (fun _ g h => (fun g => (itE h (fun q h => (bnE h (fun _ g h => (fun g => (bnE h (fun _ g h => (fun g => (itE h (fun q h => ((fun h => ?_) (il0 _ (by omega) _ _ _ _ _ _ _ h m (by omega)))) (fun q h => (noE h)))) (spec_DoStep.rel _ _ _ _ _ _ _ g m (by omega))))) (spec_l01Below.rel m _ _ _ _ _ g m (by omega))))) (fun q h => (bnE h (fun _ g h => (fun g => (itE h (fun q h => ((fun h => ?_) (il0 _ (by omega) _ _ _ _ _ _ _ h m (by omega)))) (fun q h => (noE h)))) (spec_DoStep.rel _ _ _ _ _ _ _ g m (by omega))))))) (spec_l01Once.rel m _ _ _ _ _ g m (by omega)))) <;> ((try cases h); (try simp only [*, if_true, if_false, ↓reduceIte, Option.bind_some, List.length_cons, List.length_nil, List.length_append, Bool.not_true, Bool.not_false, Bool.true_eq_false, Bool.false_eq_true]); all_goals (repeat first | rw [if_pos (by omega)] | rw [if_neg (by omega)]); all_goals (first | exact h | exact h _ | exact h _ _ | exact h _ _ _ | exact h _ _ _ _ | exact h _ _ _ _ _ | exact h _ _ _ _ _ _ | exact h _ _ _ _ _ _ _ | exact h _ _ _ _ _ _ _ _ | rfl | (simp_all [-Bool.forall_bool]; done) | (simp_all [-Bool.forall_bool]; first | exact h | exact h _ | exact h _ _ | exact h _ _ _ | exact h _ _ _ _ | exact h _ _ _ _ _ | exact h _ _ _ _ _ _ | exact h _ _ _ _ _ _ _ | exact h _ _ _ _ _ _ _ _) | (simp_all [-Bool.forall_bool, emp_eq, int_beq]; done) | (simp_all [-Bool.forall_bool]; (intros; simp_all; done)) | (simp_all [-Bool.forall_bool, rdset5, rdset101, rdset83, rdset3, rdset56]; done) | grind))))) (spec_l01Below.rel m _ _ _ _ _ g m (by omega))))) (fun q h => (by cases k with | zero => (simp only [PK.spec_l08Steps.j2] at h; cases h) | succ k => (rw [PK.spec_l08Steps.j2] at h; (try simp only [w64_eq, wu8_eq, gt_iff_lt, ge_iff_le, int_beq, fdiv33, fdiv45] at h); refine (bnE h (fun _ g h => (fun g => (itE h (fun q h => (bnE h (fun _ g h => (fun g => (bnE h (fun _ g h => (fun g => (itE h (fun q h => ((fun h => ?_) (il0 _ (by omega) _ _ _ _ _ _ _ h m (by omega)))) (fun q h => (noE h)))) (spec_DoStep.rel _ _ _ _ _ _ _ g m (by omega))))) (spec_l01Below.rel m _ _ _ _ _ g m (by omega))))) (fun q h => (bnE h (fun _ g h => (fun g => (itE h (fun q h => ((fun h => ?_) (il0 _ (by omega) _ _ _ _ _ _ _ h m (by omega)))) (fun q h => (noE h)))) (spec_DoStep.rel _ _ _ _ _ _ _ g m (by omega))))))) (spec_l01Once.rel m _ _ _ _ _ g m (by omega)))) <;> ((try cases h); (try simp only [*, if_true, if_false, ↓reduceIte, Option.bind_some, List.length_cons, List.length_nil, List.length_append, Bool.not_true, Bool.not_false, Bool.true_eq_false, Bool.false_eq_true]); all_goals (repeat first | rw [if_pos (by omega)] | rw [if_neg (by omega)]); all_goals (first | exact h | exact h _ | exact h _ _ | exact h _ _ _ | exact h _ _ _ _ | exact h _ _ _ _ _ | exact h _ _ _ _ _ _ | exact h _ _ _ _ _ _ _ | exact h _ _ _ _ _ _ _ _ | rfl | (simp_all [-Bool.forall_bool]; done) | (simp_all [-Bool.forall_bool]; first | exact h | exact h _ | exact h _ _ | exact h _ _ _ | exact h _ _ _ _ | exact h _ _ _ _ _ | exact h _ _ _ _ _ _ | exact h _ _ _ _ _ _ _ | exact h _ _ _ _ _ _ _ _) | (simp_all [-Bool.forall_bool, emp_eq, int_beq]; done) | (simp_all [-Bool.forall_bool]; (intros; simp_all; done)) | (simp_all [-Bool.forall_bool, rdset5, rdset101, rdset83, rdset3, rdset56]; done) | grind)))))) <;> ((try cases h); (try simp only [*, if_true, if_false, ↓reduceIte, Option.bind_some, List.length_cons, List.length_nil, List.length_append, Bool.not_true, Bool.not_false, Bool.true_eq_false, Bool.false_eq_true]); all_goals (repeat first | rw [if_pos (by omega)] | rw [if_neg (by omega)]); all_goals (first | exact h | exact h _ | exact h _ _ | exact h _ _ _ | exact h _ _ _ _ | exact h _ _ _ _ _ | exact h _ _ _ _ _ _ | exact h _ _ _ _ _ _ _ | exact h _ _ _ _ _ _ _ _ | rfl | (simp_all [-Bool.forall_bool]; done) | (simp_all [-Bool.forall_bool]; first | exact h | exact h _ | exact h _ _ | exact h _ _ _ | exact h _ _ _ _ | exact h _ _ _ _ _ | exact h _ _ _ _ _ _ | exact h _ _ _ _ _ _ _ | exact h _ _ _ _ _ _ _ _) | (simp_all [-Bool.forall_bool, emp_eq, int_beq]; done) | (simp_all [-Bool.forall_bool]; (intros; simp_all; done)) | (simp_all [-Bool.forall_bool, rdset5, rdset101, rdset83, rdset3, rdset56]; done) | grind))))))) (spec_PlaceOf.rel _ _ _ g m (by omega))))) (spec_l01Text.rel _ _ _ _ _ _ g m (by omega))))) (spec_l01Below.rel m _ _ _ _ _ g m (by omega))))) (fun q h => ?_))) (spec_l01Below.rel m _ _ _ _ _ g m (by omega))))
    all_goals clear il0
    all_goals (try cases h)
    all_goals (try simp only [*, if_true, if_false, ↓reduceIte, Option.bind_some, List.length_cons, List.length_nil, List.length_append, Bool.not_true, Bool.not_false, Bool.true_eq_false, Bool.false_eq_true])
    all_goals (repeat first | rw [if_pos (by omega)] | rw [if_neg (by omega)])
    all_goals first | exact h | exact h _ | exact h _ _ | exact h _ _ _ | exact h _ _ _ _ | exact h _ _ _ _ _ | exact h _ _ _ _ _ _ | exact h _ _ _ _ _ _ _ | exact h _ _ _ _ _ _ _ _ | rfl | (simp_all [-Bool.forall_bool]; done) | (simp_all [-Bool.forall_bool]; first | exact h | exact h _ | exact h _ _ | exact h _ _ _ | exact h _ _ _ _ | exact h _ _ _ _ _ | exact h _ _ _ _ _ _ | exact h _ _ _ _ _ _ _ | exact h _ _ _ _ _ _ _ _) | (simp_all [-Bool.forall_bool, emp_eq, int_beq]; done) | (simp_all [-Bool.forall_bool]; (intros; simp_all; done)) | (simp_all [-Bool.forall_bool, rdset5, rdset101, rdset83, rdset3, rdset56]; done) | grind
theorem spec_l08Steps.rel (k : Nat) (s0_0 : List Int) (s0_1 : Int) (s0_2 : Int) (l1_0 : List (S83)) (r) (h : PK.spec_l08Steps.f k s0_0 s0_1 s0_2 l1_0 = some r) (m : Nat) (hm : k ≤ m) : spec_l08Steps.f m l1_0 s0_0 s0_1 s0_2 = some (r.1, s0_0, r.2.1, r.2.2) := by
  have il0 := fun k' (_ : k' < k + 1) => (spec_l08Steps.rel_l k')
  rw [PK.spec_l08Steps.f] at h
  rw [spec_l08Steps.f]
  try simp only [w64_eq, wu8_eq, gt_iff_lt, ge_iff_le, int_beq, fdiv33, fdiv45] at h
  try simp only [w64_eq, wu8_eq, gt_iff_lt, ge_iff_le, int_beq, fdiv33, fdiv45, rdT5_eq, rdT3_eq, seq, maxI, minI, emp_eq, rdn5, rdn101, rdn83, rdn3, rdn56]
  refine ((fun h => ?_) (il0 _ (by omega) _ _ _ _ _ _ _ h m (by omega)))
  all_goals clear il0
  all_goals (try cases h)
  all_goals (try simp only [*, if_true, if_false, ↓reduceIte, Option.bind_some, List.length_cons, List.length_nil, List.length_append, Bool.not_true, Bool.not_false, Bool.true_eq_false, Bool.false_eq_true])
  all_goals (repeat first | rw [if_pos (by omega)] | rw [if_neg (by omega)])
  all_goals first | exact h | exact h _ | exact h _ _ | exact h _ _ _ | exact h _ _ _ _ | exact h _ _ _ _ _ | exact h _ _ _ _ _ _ | exact h _ _ _ _ _ _ _ | exact h _ _ _ _ _ _ _ _ | rfl | (simp_all [-Bool.forall_bool]; done) | (simp_all [-Bool.forall_bool]; first | exact h | exact h _ | exact h _ _ | exact h _ _ _ | exact h _ _ _ _ | exact h _ _ _ _ _ | exact h _ _ _ _ _ _ | exact h _ _ _ _ _ _ _ | exact h _ _ _ _ _ _ _ _) | (simp_all [-Bool.forall_bool, emp_eq, int_beq]; done) | (simp_all [-Bool.forall_bool]; (intros; simp_all; done)) | (simp_all [-Bool.forall_bool, rdset5, rdset101, rdset83, rdset3, rdset56]; done) | grind
end Go.Proofs.Ytklkhnomnanpoaa.M2

/- What the print's plain functions answer, the own ones answer. Written by a program of this session. -/
namespace Go.Proofs.Ytklkhnomnanpoaa.M2
open Go Go.RowKit Go.Proofs.YtklkhnomnanpoaaW.PrintWords Go.Proofs.Ytklkhnomnanpoaa.PK
set_option linter.unusedVariables false
set_option linter.unusedSimpArgs false
theorem impl_FlashOk.rel_l (k : Nat) : (∀ x8 x9 x10 x559000 r, PK.impl_FlashOk.l0 k x8 x9 x10 x559000 = some r → ∀ m, k ≤ m → impl_FlashOk.c2 m x8 x9 x10 x559000 = some r) ∧ (∀ x8 x9 x10 x25 x26 x27 x559000 x562000 x562001 x562002 r, PK.impl_FlashOk.l1 k x8 x9 x10 x25 x26 x27 x559000 x562000 x562001 x562002 = some r → ∀ m, k ≤ m → ∀ (x20 : Int), ∀ (x21 : Bool), ∀ (x22 : Bool), impl_FlashOk.c7 m x8 x9 x10 x20 x21 x22 x25 x26 x27 x559000 x562000 x562001 x562002 = some r) := by
  induction k using Nat.strongRecOn with
  | _ k ih =>
  have il0 := fun k' hk' => (ih k' hk').1
  have il1 := fun k' hk' => (ih k' hk').2
  clear ih
  refine ⟨?_, ?_⟩
  · intro x8 x9 x10 x559000 r h m hm
    cases k with
    | zero => simp only [PK.impl_FlashOk.l0] at h; cases h
    | succ k =>
      obtain ⟨m, rfl⟩ : ∃ m', m = m' + 1 := ⟨m - 1, by omega⟩
      rw [PK.impl_FlashOk.l0] at h
      rw [impl_FlashOk.c2]
      try simp only [w64_eq, wu8_eq, gt_iff_lt, ge_iff_le, int_beq, fdiv33, fdiv45] at h
      try simp only [w64_eq, wu8_eq, gt_iff_lt, ge_iff_le, int_beq, fdiv33, fdiv45, rdT5_eq, rdT3_eq, seq, maxI, minI, emp_eq, rdn5, rdn101, rdn83, rdn3, rdn56]
      refine (itE h (fun q h => (itE h (fun q h => (itE h (fun q h => (itE h (fun q h => (bnE h (fun _ g h => (fun g => (by cases k with | zero => (simp only [PK.impl_FlashOk.j1] at h; cases h) | succ k => (rw [PK.impl_FlashOk.j1] at h; (try simp only [w64_eq, wu8_eq, gt_iff_lt, ge_iff_le, int_beq, fdiv33, fdiv45] at h); refine (itE h (fun q h => ?_) (fun q h => ((fun h => ?_) (il1 _ (by omega) _ _ _ _ _ _ _ _ _ _ _ h m (by omega))))) <;> ((try cases h); (try simp only [*, if_true, if_false, ↓reduceIte, Option.bind_some, List.length_cons, List.length_nil, List.length_append, Bool.not_true, Bool.not_false, Bool.true_eq_false, Bool.false_eq_true]); all_goals (repeat first | rw [if_pos (by omega)] | rw [if_neg (by omega)]); all_goals (first | exact h | exact h _ | exact h _ _ | exact h _ _ _ | exact h _ _ _ _ | exact h _ _ _ _ _ | exact h _ _ _ _ _ _ | exact h _ _ _ _ _ _ _ | exact h _ _ _ _ _ _ _ _ | rfl | (simp_all [-Bool.forall_bool]; done) | (simp_all [-Bool.forall_bool]; first | exact h | exact h _ | exact h _ _ | exact h _ _ _ | exact h _ _ _ _ | exact h _ _ _ _ _ | exact h _ _ _ _ _ _ | exact h _ _ _ _ _ _ _ | exact h _ _ _ _ _ _ _ _) | (simp_all [-Bool.forall_bool, emp_eq, int_beq]; done) | (simp_all [-Bool.forall_bool]; (intros; simp_all; done)) | (simp_all [-Bool.forall_bool, rdset5, rdset101, rdset83, rdset3, rdset56]; done) | grind))))) (impl_in.rel m _ _ _ _ g m (by omega))))) (fun q h => (by cases k with | zero => (simp only [PK.impl_FlashOk.j1] at h; cases h) | succ k => (rw [PK.impl_FlashOk.j1] at h; (try simp only [w64_eq, wu8_eq, gt_iff_lt, ge_iff_le, int_beq, fdiv33, fdiv45] at h); refine (itE h (fun q h => ?_) (fun q h => ((fun h => ?_) (il1 _ (by omega) _ _ _ _ _ _ _ _ _ _ _ h m (by omega))))) <;> ((try cases h); (try simp only [*, if_true, if_false, ↓reduceIte, Option.bind_some, List.length_cons, List.length_nil, List.length_append, Bool.not_true, Bool.not_false, Bool.true_eq_false, Bool.false_eq_true]); all_goals (repeat first | rw [if_pos (by omega)] | rw [if_neg (by omega)]); all_goals (first | exact h | exact h _ | exact h _ _ | exact h _ _ _ | exact h _ _ _ _ | exact h _ _ _ _ _ | exact h _ _ _ _ _ _ | exact h _ _ _ _ _ _ _ | exact h _ _ _ _ _ _ _ _ | rfl | (simp_all [-Bool.forall_bool]; done) | (simp_all [-Bool.forall_bool]; first | exact h | exact h _ | exact h _ _ | exact h _ _ _ | exact h _ _ _ _ | exact h _ _ _ _ _ | exact h _ _ _ _ _ _ | exact h _ _ _ _ _ _ _ | exact h _ _ _ _ _ _ _ _) | (simp_all [-Bool.forall_bool, emp_eq, int_beq]; done) | (simp_all [-Bool.forall_bool]; (intros; simp_all; done)) | (simp_all [-Bool.forall_bool, rdset5, rdset101, rdset83, rdset3, rdset56]; done) | grind))))))) (fun q h => (noE h)))) (fun q h => (noE h)))) (fun q h => (bnE h (fun _ g h => (fun g => ?_) (impl_in.rel m _ _ _ _ g m (by omega))))))
      all_goals clear il0 il1
      all_goals (try cases h)
      all_goals (try simp only [*, if_true, if_false, ↓reduceIte, Option.bind_some, List.length_cons, List.length_nil, List.length_append, Bool.not_true, Bool.not_false, Bool.true_eq_false, Bool.false_eq_true])
      all_goals (repeat first | rw [if_pos (by omega)] | rw [if_neg (by omega)])
      all_goals first | exact h | exact h _ | exact h _ _ | exact h _ _ _ | exact h _ _ _ _ | exact h _ _ _ _ _ | exact h _ _ _ _ _ _ | exact h _ _ _ _ _ _ _ | exact h _ _ _ _ _ _ _ _ | rfl | (simp_all [-Bool.forall_bool]; done) | (simp_all [-Bool.forall_bool]; first | exact h | exact h _ | exact h _ _ | exact h _ _ _ | exact h _ _ _ _ | exact h _ _ _ _ _ | exact h _ _ _ _ _ _ | exact h _ _ _ _ _ _ _ | exact h _ _ _ _ _ _ _ _) | (simp_all [-Bool.forall_bool, emp_eq, int_beq]; done) | (simp_all [-Bool.forall_bool]; (intros; simp_all; done)) | (simp_all [-Bool.forall_bool, rdset5, rdset101, rdset83, rdset3, rdset56]; done) | grind
  · intro x8 x9 x10 x25 x26 x27 x559000 x562000 x562001 x562002 r h m hm x20 x21 x22
    cases k with
    | zero => simp only [PK.impl_FlashOk.l1] at h; cases h
    | succ k =>
      obtain ⟨m, rfl⟩ : ∃ m', m = m' + 1 := ⟨m - 1, by omega⟩
      rw [PK.impl_FlashOk.l1] at h
      rw [impl_FlashOk.c7]
      try simp only [w64_eq, wu8_eq, gt_iff_lt, ge_iff_le, int_beq, fdiv33, fdiv45] at h
      try simp only [w64_eq, wu8_eq, gt_iff_lt, ge_iff_le, int_beq, fdiv33, fdiv45, rdT5_eq, rdT3_eq, seq, maxI, minI, emp_eq, rdn5, rdn101, rdn83, rdn3, rdn56]
      refine (itE h (fun q h => (itE h (fun q h => (itE h (fun q h => (bnE h (fun _ g h => (fun g => (itE h (fun q h => (itE h (fun q h => (itE h (fun q h => (itE h (fun q h => (itE h (fun q h => (itE h (fun q h => ((fun h => ?_) (il1 _ (by omega) _ _ _ _ _ _ _ _ _ _ _ h m (by omega)))) (fun q h => ?_))) (fun q h => ((fun h => ?_) (il1 _ (by omega) _ _ _ _ _ _ _ _ _ _ _ h m (by omega)))))) (fun q h => (noE h)))) (fun q h => (noE h)))) (fun q h => ((fun h => ?_) (il1 _ (by omega) _ _ _ _ _ _ _ _ _ _ _ h m (by omega)))))) (fun q h => ?_))) (impl_leafOk.rel m _ _ _ g m (by omega))))) (fun q h => (noE h)))) (fun q h => (noE h)))) (fun q h => ((fun h => ?_) (il0 _ (by omega) _ _ _ _ _ h m (by omega)))))
      all_goals clear il0 il1
      all_goals (try cases h)
      all_goals (try simp only [*, if_true, if_false, ↓reduceIte, Option.bind_some, List.length_cons, List.length_nil, List.length_append, Bool.not_true, Bool.not_false, Bool.true_eq_false, Bool.false_eq_true])
      all_goals (repeat first | rw [if_pos (by omega)] | rw [if_neg (by omega)])
      all_goals first | exact h | exact h _ | exact h _ _ | exact h _ _ _ | exact h _ _ _ _ | exact h _ _ _ _ _ | exact h _ _ _ _ _ _ | exact h _ _ _ _ _ _ _ | exact h _ _ _ _ _ _ _ _ | rfl | (simp_all [-Bool.forall_bool]; done) | (simp_all [-Bool.forall_bool]; first | exact h | exact h _ | exact h _ _ | exact h _ _ _ | exact h _ _ _ _ | exact h _ _ _ _ _ | exact h _ _ _ _ _ _ | exact h _ _ _ _ _ _ _ | exact h _ _ _ _ _ _ _ _) | (simp_all [-Bool.forall_bool, emp_eq, int_beq]; done) | (simp_all [-Bool.forall_bool]; (intros; simp_all; done)) | (simp_all [-Bool.forall_bool, rdset5, rdset101, rdset83, rdset3, rdset56]; done) | grind
theorem impl_FlashOk.rel (k : Nat) (l0_0 : List (S83)) (r) (h : PK.impl_FlashOk.f k l0_0 = some r) (m : Nat) (hm : k ≤ m) : impl_FlashOk.f m l0_0 = some r := by
  have il0 := fun k' (_ : k' < k + 1) => (impl_FlashOk.rel_l k').1
  have il1 := fun k' (_ : k' < k + 1) => (impl_FlashOk.rel_l k').2
  rw [PK.impl_FlashOk.f] at h
  rw [impl_FlashOk.f]
  try simp only [w64_eq, wu8_eq, gt_iff_lt, ge_iff_le, int_beq, fdiv33, fdiv45] at h
  try simp only [w64_eq, wu8_eq, gt_iff_lt, ge_iff_le, int_beq, fdiv33, fdiv45, rdT5_eq, rdT3_eq, seq, maxI, minI, emp_eq, rdn5, rdn101, rdn83, rdn3, rdn56]
  refine ((fun h => ?_) (il0 _ (by omega) _ _ _ _ _ h m (by omega)))
  all_goals clear il0 il1
  all_goals (try cases h)
  all_goals (try simp only [*, if_true, if_false, ↓reduceIte, Option.bind_some, List.length_cons, List.length_nil, List.length_append, Bool.not_true, Bool.not_false, Bool.true_eq_false, Bool.false_eq_true])
  all_goals (repeat first | rw [if_pos (by omega)] | rw [if_neg (by omega)])
  all_goals first | exact h | exact h _ | exact h _ _ | exact h _ _ _ | exact h _ _ _ _ | exact h _ _ _ _ _ | exact h _ _ _ _ _ _ | exact h _ _ _ _ _ _ _ | exact h _ _ _ _ _ _ _ _ | rfl | (simp_all [-Bool.forall_bool]; done) | (simp_all [-Bool.forall_bool]; first | exact h | exact h _ | exact h _ _ | exact h _ _ _ | exact h _ _ _ _ | exact h _ _ _ _ _ | exact h _ _ _ _ _ _ | exact h _ _ _ _ _ _ _ | exact h _ _ _ _ _ _ _ _) | (simp_all [-Bool.forall_bool, emp_eq, int_beq]; done) | (simp_all [-Bool.forall_bool]; (intros; simp_all; done)) | (simp_all [-Bool.forall_bool, rdset5, rdset101, rdset83, rdset3, rdset56]; done) | grind
end Go.Proofs.Ytklkhnomnanpoaa.M2

/- What the print's plain functions answer, the own ones answer. Written by a program of this session. -/
namespace Go.Proofs.Ytklkhnomnanpoaa.M2
open Go Go.RowKit Go.Proofs.YtklkhnomnanpoaaW.PrintWords Go.Proofs.Ytklkhnomnanpoaa.PK
set_option linter.unusedVariables false
set_option linter.unusedSimpArgs false
theorem impl_usable.rel (k : Nat) (l0_0 : List (S83)) (a1 : Int) (r) (h : PK.impl_usable.f k l0_0 a1 = some r) (m : Nat) (hm : k ≤ m) : impl_usable.f m l0_0 a1 = some r := by
  rw [PK.impl_usable.f] at h
  rw [impl_usable.f]
  try simp only [w64_eq, wu8_eq, gt_iff_lt, ge_iff_le, int_beq, fdiv33, fdiv45] at h
  try simp only [w64_eq, wu8_eq, gt_iff_lt, ge_iff_le, int_beq, fdiv33, fdiv45, rdT5_eq, rdT3_eq, seq, maxI, minI, emp_eq, rdn5, rdn101, rdn83, rdn3, rdn56]
  refine (bnE h (fun _ g h => (fun g => (itE h (fun q h => (bnE h (fun _ g h => (fun g => (itE h (fun q h => (itE h (fun q h => (itE h (fun q h => ?_) (fun q h => (noE h)))) (fun q h => (noE h)))) (fun q h => ?_))) (impl_in.rel m _ _ _ _ g m (by omega))))) (fun q h => ?_))) (impl_FlashOk.rel _ _ _ g m (by omega))))
  all_goals (try cases h)
  all_goals (try simp only [*, if_true, if_false, ↓reduceIte, Option.bind_some, List.length_cons, List.length_nil, List.length_append, Bool.not_true, Bool.not_false, Bool.true_eq_false, Bool.false_eq_true])
  all_goals (repeat first | rw [if_pos (by omega)] | rw [if_neg (by omega)])
  all_goals first | exact h | exact h _ | exact h _ _ | exact h _ _ _ | exact h _ _ _ _ | exact h _ _ _ _ _ | exact h _ _ _ _ _ _ | exact h _ _ _ _ _ _ _ | exact h _ _ _ _ _ _ _ _ | rfl | (simp_all [-Bool.forall_bool]; done) | (simp_all [-Bool.forall_bool]; first | exact h | exact h _ | exact h _ _ | exact h _ _ _ | exact h _ _ _ _ | exact h _ _ _ _ _ | exact h _ _ _ _ _ _ | exact h _ _ _ _ _ _ _ | exact h _ _ _ _ _ _ _ _) | (simp_all [-Bool.forall_bool, emp_eq, int_beq]; done) | (simp_all [-Bool.forall_bool]; (intros; simp_all; done)) | (simp_all [-Bool.forall_bool, rdset5, rdset101, rdset83, rdset3, rdset56]; done) | grind

theorem impl_NextBlank.rel_l (k : Nat) : (∀ x6 x7 x8 r, PK.impl_NextBlank.l0 k x6 x7 x8 = some r → ∀ m, k ≤ m → impl_NextBlank.c2 m x6 x7 x8 = some r) := by
  induction k using Nat.strongRecOn with
  | _ k ih =>
  have il0 := fun k' hk' => (ih k' hk')
  clear ih
  intro x6 x7 x8 r h m hm
  cases k with
  | zero => simp only [PK.impl_NextBlank.l0] at h; cases h
  | succ k =>
    obtain ⟨m, rfl⟩ : ∃ m', m = m' + 1 := ⟨m - 1, by omega⟩
    rw [PK.impl_NextBlank.l0] at h
    rw [impl_NextBlank.c2]
    try simp only [w64_eq, wu8_eq, gt_iff_lt, ge_iff_le, int_beq, fdiv33, fdiv45] at h
    try simp only [w64_eq, wu8_eq, gt_iff_lt, ge_iff_le, int_beq, fdiv33, fdiv45, rdT5_eq, rdT3_eq, seq, maxI, minI, emp_eq, rdn5, rdn101, rdn83, rdn3, rdn56]
    refine (itE h (fun q h => (itE h (fun q h => (itE h (fun q h => (itE h (fun q h => ?_) (fun q h => ((fun h => ?_) (il0 _ (by omega) _ _ _ _ h m (by omega)))))) (fun q h => (noE h)))) (fun q h => (noE h)))) (fun q h => ?_))
    all_goals clear il0
    all_goals (try cases h)
    all_goals (try simp only [*, if_true, if_false, ↓reduceIte, Option.bind_some, List.length_cons, List.length_nil, List.length_append, Bool.not_true, Bool.not_false, Bool.true_eq_false, Bool.false_eq_true])
    all_goals (repeat first | rw [if_pos (by omega)] | rw [if_neg (by omega)])
    all_goals first | exact h | exact h _ | exact h _ _ | exact h _ _ _ | exact h _ _ _ _ | exact h _ _ _ _ _ | exact h _ _ _ _ _ _ | exact h _ _ _ _ _ _ _ | exact h _ _ _ _ _ _ _ _ | rfl | (simp_all [-Bool.forall_bool]; done) | (simp_all [-Bool.forall_bool]; first | exact h | exact h _ | exact h _ _ | exact h _ _ _ | exact h _ _ _ _ | exact h _ _ _ _ _ | exact h _ _ _ _ _ _ | exact h _ _ _ _ _ _ _ | exact h _ _ _ _ _ _ _ _) | (simp_all [-Bool.forall_bool, emp_eq, int_beq]; done) | (simp_all [-Bool.forall_bool]; (intros; simp_all; done)) | (simp_all [-Bool.forall_bool, rdset5, rdset101, rdset83, rdset3, rdset56]; done) | grind
theorem impl_NextBlank.rel (k : Nat) (a0_0 : Bool) (a0_1 : Int) (l0_2 : List (S101)) (r) (h : PK.impl_NextBlank.f k a0_0 a0_1 l0_2 = some r) (m : Nat) (hm : k ≤ m) : impl_NextBlank.f m a0_0 a0_1 l0_2 = some r := by
  have il0 := fun k' (_ : k' < k + 1) => (impl_NextBlank.rel_l k')
  rw [PK.impl_NextBlank.f] at h
  rw [impl_NextBlank.f]
  try simp only [w64_eq, wu8_eq, gt_iff_lt, ge_iff_le, int_beq, fdiv33, fdiv45] at h
  try simp only [w64_eq, wu8_eq, gt_iff_lt, ge_iff_le, int_beq, fdiv33, fdiv45, rdT5_eq, rdT3_eq, seq, maxI, minI, emp_eq, rdn5, rdn101, rdn83, rdn3, rdn56]
  refine ((fun h => ?_) (il0 _ (by omega) _ _ _ _ h m (by omega)))
  all_goals clear il0
  all_goals (try cases h)
  all_goals (try simp only [*, if_true, if_false, ↓reduceIte, Option.bind_some, List.length_cons, List.length_nil, List.length_append, Bool.not_true, Bool.not_false, Bool.true_eq_false, Bool.false_eq_true])
  all_goals (repeat first | rw [if_pos (by omega)] | rw [if_neg (by omega)])
  all_goals first | exact h | exact h _ | exact h _ _ | exact h _ _ _ | exact h _ _ _ _ | exact h _ _ _ _ _ | exact h _ _ _ _ _ _ | exact h _ _ _ _ _ _ _ | exact h _ _ _ _ _ _ _ _ | rfl | (simp_all [-Bool.forall_bool]; done) | (simp_all [-Bool.forall_bool]; first | exact h | exact h _ | exact h _ _ | exact h _ _ _ | exact h _ _ _ _ | exact h _ _ _ _ _ | exact h _ _ _ _ _ _ | exact h _ _ _ _ _ _ _ | exact h _ _ _ _ _ _ _ _) | (simp_all [-Bool.forall_bool, emp_eq, int_beq]; done) | (simp_all [-Bool.forall_bool]; (intros; simp_all; done)) | (simp_all [-Bool.forall_bool, rdset5, rdset101, rdset83, rdset3, rdset56]; done) | grind

theorem impl_Program.rel (k : Nat) (l0_0 : List (S83)) (a1 : Int) (a2 : Int) (a3 : ByteArray) (r) (h : PK.impl_Program.f k l0_0 a1 a2 a3 = some r) (m : Nat) (hm : k ≤ m) : impl_Program.f m l0_0 a1 a2 a3 = some (r.1, r.2) := by
  rw [PK.impl_Program.f] at h
  rw [impl_Program.f]
  try simp only [w64_eq, wu8_eq, gt_iff_lt, ge_iff_le, int_beq, fdiv33, fdiv45] at h
  try simp only [w64_eq, wu8_eq, gt_iff_lt, ge_iff_le, int_beq, fdiv33, fdiv45, rdT5_eq, rdT3_eq, seq, maxI, minI, emp_eq, rdn5, rdn101, rdn83, rdn3, rdn56]
  refine (bnE h (fun _ g h => (fun g => (bnE h (fun _ g h => (fun g => (itE h (fun q h => (bnE h (fun _ g h => (fun g => (itE h (fun q h => (itE h (fun q h => (itE h (fun q h => (bnE h (fun _ g h => (fun g => (itE h (fun q h => (bnE h (fun _ g h => (fun g => (itE h (fun q h => (itE h (fun q h => (itE h (fun q h => (itE h (fun q h => ?_) (fun q h => (noE h)))) (fun q h => (noE h)))) (fun q h => (noE h)))) (fun q h => ?_))) (impl_in.rel m _ _ _ _ g m (by omega))))) (fun q h => ?_))) (impl_NextBlank.rel _ _ _ _ _ g m (by omega))))) (fun q h => (noE h)))) (fun q h => (noE h)))) (fun q h => ?_))) (impl_in.rel m _ _ _ _ g m (by omega))))) (fun q h => ?_))) (impl_usable.rel _ _ _ _ g m (by omega))))) (impl_copyFlash.rel _ _ _ g m (by omega))))
  all_goals (try cases h)
  all_goals (try simp only [*, if_true, if_false, ↓reduceIte, Option.bind_some, List.length_cons, List.length_nil, List.length_append, Bool.not_true, Bool.not_false, Bool.true_eq_false, Bool.false_eq_true])
  all_goals (repeat first | rw [if_pos (by omega)] | rw [if_neg (by omega)])
  all_goals first | exact h | exact h _ | exact h _ _ | exact h _ _ _ | exact h _ _ _ _ | exact h _ _ _ _ _ | exact h _ _ _ _ _ _ | exact h _ _ _ _ _ _ _ | exact h _ _ _ _ _ _ _ _ | rfl | (simp_all [-Bool.forall_bool]; done) | (simp_all [-Bool.forall_bool]; first | exact h | exact h _ | exact h _ _ | exact h _ _ _ | exact h _ _ _ _ | exact h _ _ _ _ _ | exact h _ _ _ _ _ _ | exact h _ _ _ _ _ _ _ | exact h _ _ _ _ _ _ _ _) | (simp_all [-Bool.forall_bool, emp_eq, int_beq]; done) | (simp_all [-Bool.forall_bool]; (intros; simp_all; done)) | (simp_all [-Bool.forall_bool, rdset5, rdset101, rdset83, rdset3, rdset56]; done) | grind
end Go.Proofs.Ytklkhnomnanpoaa.M2

/- What the print's plain functions answer, the own ones answer. Written by a program of this session. -/
namespace Go.Proofs.Ytklkhnomnanpoaa.M2
open Go Go.RowKit Go.Proofs.YtklkhnomnanpoaaW.PrintWords Go.Proofs.Ytklkhnomnanpoaa.PK
set_option linter.unusedVariables false
set_option linter.unusedSimpArgs false
theorem impl_blankLeaves.rel (k : Nat) (r) (h : PK.impl_blankLeaves.f  = some r) (m : Nat) (hm : k ≤ m) : impl_blankLeaves.f m  = some r := by
  rw [PK.impl_blankLeaves.f] at h
  rw [impl_blankLeaves.f]
  try simp only [w64_eq, wu8_eq, gt_iff_lt, ge_iff_le, int_beq, fdiv33, fdiv45] at h
  try simp only [w64_eq, wu8_eq, gt_iff_lt, ge_iff_le, int_beq, fdiv33, fdiv45, rdT5_eq, rdT3_eq, seq, maxI, minI, emp_eq, rdn5, rdn101, rdn83, rdn3, rdn56]
  refine (itE h (fun q h => ?_) (fun q h => (noE h)))
  all_goals (try cases h)
  all_goals (try simp only [*, if_true, if_false, ↓reduceIte, Option.bind_some, List.length_cons, List.length_nil, List.length_append, Bool.not_true, Bool.not_false, Bool.true_eq_false, Bool.false_eq_true])
  all_goals (repeat first | rw [if_pos (by omega)] | rw [if_neg (by omega)])
  all_goals first | exact h | exact h _ | exact h _ _ | exact h _ _ _ | exact h _ _ _ _ | exact h _ _ _ _ _ | exact h _ _ _ _ _ _ | exact h _ _ _ _ _ _ _ | exact h _ _ _ _ _ _ _ _ | rfl | (simp_all [-Bool.forall_bool]; done) | (simp_all [-Bool.forall_bool]; first | exact h | exact h _ | exact h _ _ | exact h _ _ _ | exact h _ _ _ _ | exact h _ _ _ _ _ | exact h _ _ _ _ _ _ | exact h _ _ _ _ _ _ _ | exact h _ _ _ _ _ _ _ _) | (simp_all [-Bool.forall_bool, emp_eq, int_beq]; done) | (simp_all [-Bool.forall_bool]; (intros; simp_all; done)) | (simp_all [-Bool.forall_bool, rdset5, rdset101, rdset83, rdset3, rdset56]; done) | grind

theorem impl_Wipe.rel (k : Nat) (l0_0 : List (S83)) (a1 : Int) (r) (h : PK.impl_Wipe.f k l0_0 a1 = some r) (m : Nat) (hm : k ≤ m) : impl_Wipe.f m l0_0 a1 = some (r.1, r.2) := by
  rw [PK.impl_Wipe.f] at h
  rw [impl_Wipe.f]
  try simp only [w64_eq, wu8_eq, gt_iff_lt, ge_iff_le, int_beq, fdiv33, fdiv45] at h
  try simp only [w64_eq, wu8_eq, gt_iff_lt, ge_iff_le, int_beq, fdiv33, fdiv45, rdT5_eq, rdT3_eq, seq, maxI, minI, emp_eq, rdn5, rdn101, rdn83, rdn3, rdn56]
  refine (bnE h (fun _ g h => (fun g => (bnE h (fun _ g h => (fun g => (itE h (fun q h => (itE h (fun q h => (itE h (fun q h => (itE h (fun q h => ?_) (fun q h => (bnE h (fun _ g h => (fun g => (itE h (fun q h => (bsE h (fun h => ?_))) (fun q h => (noE h)))) (impl_blankLeaves.rel m _ g m (by omega))))))) (fun q h => (noE h)))) (fun q h => (noE h)))) (fun q h => ?_))) (impl_usable.rel _ _ _ _ g m (by omega))))) (impl_copyFlash.rel _ _ _ g m (by omega))))
  all_goals (try cases h)
  all_goals (try simp only [*, if_true, if_false, ↓reduceIte, Option.bind_some, List.length_cons, List.length_nil, List.length_append, Bool.not_true, Bool.not_false, Bool.true_eq_false, Bool.false_eq_true])
  all_goals (repeat first | rw [if_pos (by omega)] | rw [if_neg (by omega)])
  all_goals first | exact h | exact h _ | exact h _ _ | exact h _ _ _ | exact h _ _ _ _ | exact h _ _ _ _ _ | exact h _ _ _ _ _ _ | exact h _ _ _ _ _ _ _ | exact h _ _ _ _ _ _ _ _ | rfl | (simp_all [-Bool.forall_bool]; done) | (simp_all [-Bool.forall_bool]; first | exact h | exact h _ | exact h _ _ | exact h _ _ _ | exact h _ _ _ _ | exact h _ _ _ _ _ | exact h _ _ _ _ _ _ | exact h _ _ _ _ _ _ _ | exact h _ _ _ _ _ _ _ _) | (simp_all [-Bool.forall_bool, emp_eq, int_beq]; done) | (simp_all [-Bool.forall_bool]; (intros; simp_all; done)) | (simp_all [-Bool.forall_bool, rdset5, rdset101, rdset83, rdset3, rdset56]; done) | grind

theorem impl_DoStep.rel (k : Nat) (l0_0 : List (S83)) (a1_0 : Int) (a1_1 : Int) (a1_2 : Int) (a1_3 : ByteArray) (r) (h : PK.impl_DoStep.f k l0_0 a1_0 a1_1 a1_2 a1_3 = some r) (m : Nat) (hm : k ≤ m) : impl_DoStep.f m l0_0 a1_0 a1_1 a1_2 a1_3 = some (r.1, r.2) := by
  rw [PK.impl_DoStep.f] at h
  rw [impl_DoStep.f]
  try simp only [w64_eq, wu8_eq, gt_iff_lt, ge_iff_le, int_beq, fdiv33, fdiv45] at h
  try simp only [w64_eq, wu8_eq, gt_iff_lt, ge_iff_le, int_beq, fdiv33, fdiv45, rdT5_eq, rdT3_eq, seq, maxI, minI, emp_eq, rdn5, rdn101, rdn83, rdn3, rdn56]
  refine (itE h (fun q h => (bnE h (fun _ g h => (fun g => ?_) (impl_Program.rel _ _ _ _ _ _ g m (by omega))))) (fun q h => (itE h (fun q h => (bnE h (fun _ g h => (fun g => ?_) (impl_Wipe.rel _ _ _ _ g m (by omega))))) (fun q h => (bnE h (fun _ g h => (fun g => ?_) (impl_copyFlash.rel _ _ _ g m (by omega))))))))
  all_goals (try cases h)
  all_goals (try simp only [*, if_true, if_false, ↓reduceIte, Option.bind_some, List.length_cons, List.length_nil, List.length_append, Bool.not_true, Bool.not_false, Bool.true_eq_false, Bool.false_eq_true])
  all_goals (repeat first | rw [if_pos (by omega)] | rw [if_neg (by omega)])
  all_goals first | exact h | exact h _ | exact h _ _ | exact h _ _ _ | exact h _ _ _ _ | exact h _ _ _ _ _ | exact h _ _ _ _ _ _ | exact h _ _ _ _ _ _ _ | exact h _ _ _ _ _ _ _ _ | rfl | (simp_all [-Bool.forall_bool]; done) | (simp_all [-Bool.forall_bool]; first | exact h | exact h _ | exact h _ _ | exact h _ _ _ | exact h _ _ _ _ | exact h _ _ _ _ _ | exact h _ _ _ _ _ _ | exact h _ _ _ _ _ _ _ | exact h _ _ _ _ _ _ _ _) | (simp_all [-Bool.forall_bool, emp_eq, int_beq]; done) | (simp_all [-Bool.forall_bool]; (intros; simp_all; done)) | (simp_all [-Bool.forall_bool, rdset5, rdset101, rdset83, rdset3, rdset56]; done) | grind

theorem impl_DoSteps.rel_l (k : Nat) : (∀ x1 x13 x14 x15 x753000 r, PK.impl_DoSteps.l0 k x1 x13 x14 x15 x753000 = some r → ∀ m, k ≤ m → ∀ (h65 : List S83), impl_DoSteps.c3 m x1 x13 x14 x15 h65 x753000 = some (r.1, r.2)) := by
  induction k using Nat.strongRecOn with
  | _ k ih =>
  have il0 := fun k' hk' => (ih k' hk')
  clear ih
  intro x1 x13 x14 x15 x753000 r h m hm h65
  cases k with
  | zero => simp only [PK.impl_DoSteps.l0] at h; cases h
  | succ k =>
    obtain ⟨m, rfl⟩ : ∃ m', m = m' + 1 := ⟨m - 1, by omega⟩
    rw [PK.impl_DoSteps.l0] at h
    rw [impl_DoSteps.c3]
    try simp only [w64_eq, wu8_eq, gt_iff_lt, ge_iff_le, int_beq, fdiv33, fdiv45] at h
    try simp only [w64_eq, wu8_eq, gt_iff_lt, ge_iff_le, int_beq, fdiv33, fdiv45, rdT5_eq, rdT3_eq, seq, maxI, minI, emp_eq, rdn5, rdn101, rdn83, rdn3, rdn56]
    refine (itE h (fun q h => (itE h (fun q h => (itE h (fun q h => (bnE h (fun _ g h => (fun g => (itE h (fun q h => ((fun h => ?_) (il0 _ (by omega) _ _ _ _ _ _ h m (by omega)))) (fun q h => ?_))) (impl_DoStep.rel _ _ _ _ _ _ _ g m (by omega))))) (fun q h => (noE h)))) (fun q h => (noE h)))) (fun q h => ?_))
    all_goals clear il0
    all_goals (try cases h)
    all_goals (try simp only [*, if_true, if_false, ↓reduceIte, Option.bind_some, List.length_cons, List.length_nil, List.length_append, Bool.not_true, Bool.not_false, Bool.true_eq_false, Bool.false_eq_true])
    all_goals (repeat first | rw [if_pos (by omega)] | rw [if_neg (by omega)])
    all_goals first | exact h | exact h _ | exact h _ _ | exact h _ _ _ | exact h _ _ _ _ | exact h _ _ _ _ _ | exact h _ _ _ _ _ _ | exact h _ _ _ _ _ _ _ | exact h _ _ _ _ _ _ _ _ | rfl | (simp_all [-Bool.forall_bool]; done) | (simp_all [-Bool.forall_bool]; first | exact h | exact h _ | exact h _ _ | exact h _ _ _ | exact h _ _ _ _ | exact h _ _ _ _ _ | exact h _ _ _ _ _ _ | exact h _ _ _ _ _ _ _ | exact h _ _ _ _ _ _ _ _) | (simp_all [-Bool.forall_bool, emp_eq, int_beq]; done) | (simp_all [-Bool.forall_bool]; (intros; simp_all; done)) | (simp_all [-Bool.forall_bool, rdset5, rdset101, rdset83, rdset3, rdset56]; done) | grind
theorem impl_DoSteps.rel (k : Nat) (l0_0 : List (S83)) (l1 : List (S56)) (r) (h : PK.impl_DoSteps.f k l0_0 l1 = some r) (m : Nat) (hm : k ≤ m) : impl_DoSteps.f m l0_0 l1 = some (r.1, r.2) := by
  have il0 := fun k' (_ : k' < k + 1) => (impl_DoSteps.rel_l k')
  rw [PK.impl_DoSteps.f] at h
  rw [impl_DoSteps.f]
  try simp only [w64_eq, wu8_eq, gt_iff_lt, ge_iff_le, int_beq, fdiv33, fdiv45] at h
  try simp only [w64_eq, wu8_eq, gt_iff_lt, ge_iff_le, int_beq, fdiv33, fdiv45, rdT5_eq, rdT3_eq, seq, maxI, minI, emp_eq, rdn5, rdn101, rdn83, rdn3, rdn56]
  refine (bnE h (fun _ g h => (fun g => ((fun h => ?_) (il0 _ (by omega) _ _ _ _ _ _ h m (by omega)))) (impl_copyFlash.rel _ _ _ g m (by omega))))
  all_goals clear il0
  all_goals (try cases h)
  all_goals (try simp only [*, if_true, if_false, ↓reduceIte, Option.bind_some, List.length_cons, List.length_nil, List.length_append, Bool.not_true, Bool.not_false, Bool.true_eq_false, Bool.false_eq_true])
  all_goals (repeat first | rw [if_pos (by omega)] | rw [if_neg (by omega)])
  all_goals first | exact h | exact h _ | exact h _ _ | exact h _ _ _ | exact h _ _ _ _ | exact h _ _ _ _ _ | exact h _ _ _ _ _ _ | exact h _ _ _ _ _ _ _ | exact h _ _ _ _ _ _ _ _ | rfl | (simp_all [-Bool.forall_bool]; done) | (simp_all [-Bool.forall_bool]; first | exact h | exact h _ | exact h _ _ | exact h _ _ _ | exact h _ _ _ _ | exact h _ _ _ _ _ | exact h _ _ _ _ _ _ | exact h _ _ _ _ _ _ _ | exact h _ _ _ _ _ _ _ _) | (simp_all [-Bool.forall_bool, emp_eq, int_beq]; done) | (simp_all [-Bool.forall_bool]; (intros; simp_all; done)) | (simp_all [-Bool.forall_bool, rdset5, rdset101, rdset83, rdset3, rdset56]; done) | grind
end Go.Proofs.Ytklkhnomnanpoaa.M2

/- What the print's plain functions answer, the own ones answer. Written by a program of this session. -/
namespace Go.Proofs.Ytklkhnomnanpoaa.M2
open Go Go.RowKit Go.Proofs.YtklkhnomnanpoaaW.PrintWords Go.Proofs.Ytklkhnomnanpoaa.PK
set_option linter.unusedVariables false
set_option linter.unusedSimpArgs false
theorem spec_Torment.rel_l (k : Nat) : (∀ x9 x490000 x490001 x490002 x490003 x500000 r, PK.spec_Torment.l0 k x9 x490000 x490001 x490002 x490003 x500000 = some r → ∀ m, k ≤ m → ∀ (h66 : List S83), spec_Torment.c9 m x9 x490000 x490001 x490002 x490003 h66 x500000 = some (r.1, r.2)) := by
  induction k using Nat.strongRecOn with
  | _ k ih =>
  have il0 := fun k' hk' => (ih k' hk')
  clear ih
  intro x9 x490000 x490001 x490002 x490003 x500000 r h m hm h66
  cases k with
  | zero => simp only [PK.spec_Torment.l0] at h; cases h
  | succ k =>
    obtain ⟨m, rfl⟩ : ∃ m', m = m' + 1 := ⟨m - 1, by omega⟩
    rw [PK.spec_Torment.l0] at h
    rw [spec_Torment.c9]
    try simp only [w64_eq, wu8_eq, gt_iff_lt, ge_iff_le, int_beq, fdiv33, fdiv45] at h
    try simp only [w64_eq, wu8_eq, gt_iff_lt, ge_iff_le, int_beq, fdiv33, fdiv45, rdT5_eq, rdT3_eq, seq, maxI, minI, emp_eq, rdn5, rdn101, rdn83, rdn3, rdn56]
    refine (itE h (fun q h => (itE h (fun q h => (itE h (fun q h => (itE h (fun q h => ((fun h => ?_) (il0 _ (by omega) _ _ _ _ _ _ _ h m (by omega)))) (fun q h => (noE h)))) (fun q h => ?_))) (fun q h => (noE h)))) (fun q h => (noE h)))
    all_goals clear il0
    all_goals (try cases h)
    all_goals (try simp only [*, if_true, if_false, ↓reduceIte, Option.bind_some, List.length_cons, List.length_nil, List.length_append, Bool.not_true, Bool.not_false, Bool.true_eq_false, Bool.false_eq_true])
    all_goals (repeat first | rw [if_pos (by omega)] | rw [if_neg (by omega)])
    all_goals first | exact h | exact h _ | exact h _ _ | exact h _ _ _ | exact h _ _ _ _ | exact h _ _ _ _ _ | exact h _ _ _ _ _ _ | exact h _ _ _ _ _ _ _ | exact h _ _ _ _ _ _ _ _ | rfl | (simp_all [-Bool.forall_bool]; done) | (simp_all [-Bool.forall_bool]; first | exact h | exact h _ | exact h _ _ | exact h _ _ _ | exact h _ _ _ _ | exact h _ _ _ _ _ | exact h _ _ _ _ _ _ | exact h _ _ _ _ _ _ _ | exact h _ _ _ _ _ _ _ _) | (simp_all [-Bool.forall_bool, emp_eq, int_beq]; done) | (simp_all [-Bool.forall_bool]; (intros; simp_all; done)) | (simp_all [-Bool.forall_bool, rdset5, rdset101, rdset83, rdset3, rdset56]; done) | grind
theorem spec_Torment.rel (k : Nat) (l0_0 : List (S83)) (a1_0 : Int) (a1_1 : Int) (a1_2 : Int) (a1_3 : ByteArray) (r) (h : PK.spec_Torment.f k l0_0 a1_0 a1_1 a1_2 a1_3 = some r) (m : Nat) (hm : k ≤ m) : spec_Torment.f m l0_0 a1_0 a1_1 a1_2 a1_3 = some (r.1, r.2) := by
  have il0 := fun k' (_ : k' < k + 1) => (spec_Torment.rel_l k')
  rw [PK.spec_Torment.f] at h
  rw [spec_Torment.f]
  try simp only [w64_eq, wu8_eq, gt_iff_lt, ge_iff_le, int_beq, fdiv33, fdiv45] at h
  try simp only [w64_eq, wu8_eq, gt_iff_lt, ge_iff_le, int_beq, fdiv33, fdiv45, rdT5_eq, rdT3_eq, seq, maxI, minI, emp_eq, rdn5, rdn101, rdn83, rdn3, rdn56]
  refine (bnE h (fun _ g h => (fun g => (bnE h (fun _ g h => (fun g => (itE h (fun q h => (itE h (fun q h => (itE h (fun q h => (itE h (fun q h => (itE h (fun q h => (itE h (fun q h => (itE h (fun q h => (itE h (fun q h => ?_) (fun q h => (noE h)))) (fun q h => (noE h)))) (fun q h => (noE h)))) (fun q h => (noE h)))) (fun q h => (noE h)))) (fun q h => (noE h)))) (fun q h => ((fun h => ?_) (il0 _ (by omega) _ _ _ _ _ _ _ h m (by omega)))))) (fun q h => ?_))) (spec_l05Copy.rel _ _ _ g m (by omega))))) (spec_DoStep.rel _ _ _ _ _ _ _ g m (by omega))))
  all_goals clear il0
  all_goals (try cases h)
  all_goals (try simp only [*, if_true, if_false, ↓reduceIte, Option.bind_some, List.length_cons, List.length_nil, List.length_append, Bool.not_true, Bool.not_false, Bool.true_eq_false, Bool.false_eq_true])
  all_goals (repeat first | rw [if_pos (by omega)] | rw [if_neg (by omega)])
  all_goals first | exact h | exact h _ | exact h _ _ | exact h _ _ _ | exact h _ _ _ _ | exact h _ _ _ _ _ | exact h _ _ _ _ _ _ | exact h _ _ _ _ _ _ _ | exact h _ _ _ _ _ _ _ _ | rfl | (simp_all [-Bool.forall_bool]; done) | (simp_all [-Bool.forall_bool]; first | exact h | exact h _ | exact h _ _ | exact h _ _ _ | exact h _ _ _ _ | exact h _ _ _ _ _ | exact h _ _ _ _ _ _ | exact h _ _ _ _ _ _ _ | exact h _ _ _ _ _ _ _ _) | (simp_all [-Bool.forall_bool, emp_eq, int_beq]; done) | (simp_all [-Bool.forall_bool]; (intros; simp_all; done)) | (simp_all [-Bool.forall_bool, rdset5, rdset101, rdset83, rdset3, rdset56]; done) | grind

theorem impl_Torment.rel_l (k : Nat) : (∀ x50 x51 x609000 x609001 x609002 x609003 x614000 r, PK.impl_Torment.l0 k x50 x51 x609000 x609001 x609002 x609003 x614000 = some r → ∀ m, k ≤ m → ∀ (h65 : List S83), impl_Torment.c10 m (x609001.toNat) x50 x51 h65 x614000 = some (r.1, r.2)) := by
  induction k using Nat.strongRecOn with
  | _ k ih =>
  have il0 := fun k' hk' => (ih k' hk')
  clear ih
  intro x50 x51 x609000 x609001 x609002 x609003 x614000 r h m hm h65
  cases k with
  | zero => simp only [PK.impl_Torment.l0] at h; cases h
  | succ k =>
    obtain ⟨m, rfl⟩ : ∃ m', m = m' + 1 := ⟨m - 1, by omega⟩
    rw [PK.impl_Torment.l0] at h
    rw [impl_Torment.c10]
    try simp only [w64_eq, wu8_eq, gt_iff_lt, ge_iff_le, int_beq, fdiv33, fdiv45] at h
    try simp only [w64_eq, wu8_eq, gt_iff_lt, ge_iff_le, int_beq, fdiv33, fdiv45, rdT5_eq, rdT3_eq, seq, maxI, minI, emp_eq, rdn5, rdn101, rdn83, rdn3, rdn56]
    refine (itE h (fun q h => (itE h (fun q h => (itE h (fun q h => (itE h (fun q h => (itE h (fun q h => ((fun h => ?_) (il0 _ (by omega) _ _ _ _ _ _ _ _ h m (by omega)))) (fun q h => (noE h)))) (fun q h => (noE h)))) (fun q h => (noE h)))) (fun q h => (noE h)))) (fun q h => ?_))
    all_goals clear il0
    all_goals (try cases h)
    all_goals (try simp only [*, if_true, if_false, ↓reduceIte, Option.bind_some, List.length_cons, List.length_nil, List.length_append, Bool.not_true, Bool.not_false, Bool.true_eq_false, Bool.false_eq_true])
    all_goals (repeat first | rw [if_pos (by omega)] | rw [if_neg (by omega)])
    all_goals first | exact h | exact h _ | exact h _ _ | exact h _ _ _ | exact h _ _ _ _ | exact h _ _ _ _ _ | exact h _ _ _ _ _ _ | exact h _ _ _ _ _ _ _ | exact h _ _ _ _ _ _ _ _ | rfl | (simp_all [-Bool.forall_bool]; done) | (simp_all [-Bool.forall_bool]; first | exact h | exact h _ | exact h _ _ | exact h _ _ _ | exact h _ _ _ _ | exact h _ _ _ _ _ | exact h _ _ _ _ _ _ | exact h _ _ _ _ _ _ _ | exact h _ _ _ _ _ _ _ _) | (simp_all [-Bool.forall_bool, emp_eq, int_beq]; done) | (simp_all [-Bool.forall_bool]; (intros; simp_all; done)) | (simp_all [-Bool.forall_bool, rdset5, rdset101, rdset83, rdset3, rdset56]; done) | grind
theorem impl_Torment.rel (k : Nat) (l0_0 : List (S83)) (a1_0 : Int) (a1_1 : Int) (a1_2 : Int) (a1_3 : ByteArray) (r) (h : PK.impl_Torment.f k l0_0 a1_0 a1_1 a1_2 a1_3 = some r) (m : Nat) (hm : k ≤ m) : impl_Torment.f m l0_0 a1_0 a1_1 a1_2 a1_3 = some (r.1, r.2) := by
  have il0 := fun k' (_ : k' < k + 1) => (impl_Torment.rel_l k')
  rw [PK.impl_Torment.f] at h
  rw [impl_Torment.f]
  try simp only [w64_eq, wu8_eq, gt_iff_lt, ge_iff_le, int_beq, fdiv33, fdiv45] at h
  try simp only [w64_eq, wu8_eq, gt_iff_lt, ge_iff_le, int_beq, fdiv33, fdiv45, rdT5_eq, rdT3_eq, seq, maxI, minI, emp_eq, rdn5, rdn101, rdn83, rdn3, rdn56]
  refine (bnE h (fun _ g h => (fun g => (bnE h (fun _ g h => (fun g => (itE h (fun q h => (itE h (fun q h => (itE h (fun q h => (itE h (fun q h => (itE h (fun q h => (itE h (fun q h => (itE h (fun q h => (itE h (fun q h => ?_) (fun q h => (noE h)))) (fun q h => (noE h)))) (fun q h => (noE h)))) (fun q h => (noE h)))) (fun q h => ((fun h => ?_) (il0 _ (by omega) _ _ _ _ _ _ _ _ h m (by omega)))))) (fun q h => (noE h)))) (fun q h => (noE h)))) (fun q h => ?_))) (impl_DoStep.rel _ _ _ _ _ _ _ g m (by omega))))) (impl_copyFlash.rel _ _ _ g m (by omega))))
  all_goals clear il0
  all_goals (try cases h)
  all_goals (try simp only [*, if_true, if_false, ↓reduceIte, Option.bind_some, List.length_cons, List.length_nil, List.length_append, Bool.not_true, Bool.not_false, Bool.true_eq_false, Bool.false_eq_true])
  all_goals (repeat first | rw [if_pos (by omega)] | rw [if_neg (by omega)])
  all_goals first | exact h | exact h _ | exact h _ _ | exact h _ _ _ | exact h _ _ _ _ | exact h _ _ _ _ _ | exact h _ _ _ _ _ _ | exact h _ _ _ _ _ _ _ | exact h _ _ _ _ _ _ _ _ | rfl | (simp_all [-Bool.forall_bool]; done) | (simp_all [-Bool.forall_bool]; first | exact h | exact h _ | exact h _ _ | exact h _ _ _ | exact h _ _ _ _ | exact h _ _ _ _ _ | exact h _ _ _ _ _ _ | exact h _ _ _ _ _ _ _ | exact h _ _ _ _ _ _ _ _) | (simp_all [-Bool.forall_bool, emp_eq, int_beq]; done) | (simp_all [-Bool.forall_bool]; (intros; simp_all; done)) | (simp_all [-Bool.forall_bool, rdset5, rdset101, rdset83, rdset3, rdset56]; done) | grind
end Go.Proofs.Ytklkhnomnanpoaa.M2

/- What the print's plain functions answer, the own ones answer. Written by a program of this session. -/
namespace Go.Proofs.Ytklkhnomnanpoaa.M2
open Go Go.RowKit Go.Proofs.YtklkhnomnanpoaaW.PrintWords Go.Proofs.Ytklkhnomnanpoaa.PK
set_option linter.unusedVariables false
set_option linter.unusedSimpArgs false
theorem impl_CutSteps.rel (k : Nat) (l0_0 : List (S83)) (l1 : List (S56)) (a2 : Int) (a3 : Bool) (r) (h : PK.impl_CutSteps.f k l0_0 l1 a2 a3 = some r) (m : Nat) (hm : k ≤ m) : impl_CutSteps.f m l0_0 l1 a2 a3 = some (r.1, r.2) := by
  rw [PK.impl_CutSteps.f] at h
  rw [impl_CutSteps.f]
  try simp only [w64_eq, wu8_eq, gt_iff_lt, ge_iff_le, int_beq, fdiv33, fdiv45] at h
  try simp only [w64_eq, wu8_eq, gt_iff_lt, ge_iff_le, int_beq, fdiv33, fdiv45, rdT5_eq, rdT3_eq, seq, maxI, minI, emp_eq, rdn5, rdn101, rdn83, rdn3, rdn56]
  refine (bnE h (fun _ g h => (fun g => (itE h (fun q h => (itE h (fun q h => (itE h (fun q h => (bnE h (fun _ g h => (fun g => (itE h (fun q h => (bnE h (fun _ g h => (fun g => ?_) (impl_copyFlash.rel _ _ _ g m (by omega))))) (fun q h => (itE h (fun q h => (by cases k with | zero => (simp only [PK.impl_CutSteps.j0] at h; cases h) | succ k => (rw [PK.impl_CutSteps.j0] at h; (try simp only [w64_eq, wu8_eq, gt_iff_lt, ge_iff_le, int_beq, fdiv33, fdiv45] at h); refine (itE h (fun q h => ?_) (fun q h => (itE h (fun q h => (itE h (fun q h => (bnE h (fun _ g h => (fun g => (itE h (fun q h => ?_) (fun q h => (bnE h (fun _ g h => (fun g => ?_) (impl_copyFlash.rel _ _ _ g m (by omega))))))) (impl_Torment.rel _ _ _ _ _ _ _ g m (by omega))))) (fun q h => (noE h)))) (fun q h => (noE h))))) <;> ((try cases h); (try simp only [*, if_true, if_false, ↓reduceIte, Option.bind_some, List.length_cons, List.length_nil, List.length_append, Bool.not_true, Bool.not_false, Bool.true_eq_false, Bool.false_eq_true]); all_goals (repeat first | rw [if_pos (by omega)] | rw [if_neg (by omega)]); all_goals (first | exact h | exact h _ | exact h _ _ | exact h _ _ _ | exact h _ _ _ _ | exact h _ _ _ _ _ | exact h _ _ _ _ _ _ | exact h _ _ _ _ _ _ _ | exact h _ _ _ _ _ _ _ _ | rfl | (simp_all [-Bool.forall_bool]; done) | (simp_all [-Bool.forall_bool]; first | exact h | exact h _ | exact h _ _ | exact h _ _ _ | exact h _ _ _ _ | exact h _ _ _ _ _ | exact h _ _ _ _ _ _ | exact h _ _ _ _ _ _ _ | exact h _ _ _ _ _ _ _ _) | (simp_all [-Bool.forall_bool, emp_eq, int_beq]; done) | (simp_all [-Bool.forall_bool]; (intros; simp_all; done)) | (simp_all [-Bool.forall_bool, rdset5, rdset101, rdset83, rdset3, rdset56]; done) | grind))))) (fun q h => (by cases k with | zero => (simp only [PK.impl_CutSteps.j0] at h; cases h) | succ k => (rw [PK.impl_CutSteps.j0] at h; (try simp only [w64_eq, wu8_eq, gt_iff_lt, ge_iff_le, int_beq, fdiv33, fdiv45] at h); refine (itE h (fun q h => ?_) (fun q h => (itE h (fun q h => (itE h (fun q h => (bnE h (fun _ g h => (fun g => (itE h (fun q h => ?_) (fun q h => (bnE h (fun _ g h => (fun g => ?_) (impl_copyFlash.rel _ _ _ g m (by omega))))))) (impl_Torment.rel _ _ _ _ _ _ _ g m (by omega))))) (fun q h => (noE h)))) (fun q h => (noE h))))) <;> ((try cases h); (try simp only [*, if_true, if_false, ↓reduceIte, Option.bind_some, List.length_cons, List.length_nil, List.length_append, Bool.not_true, Bool.not_false, Bool.true_eq_false, Bool.false_eq_true]); all_goals (repeat first | rw [if_pos (by omega)] | rw [if_neg (by omega)]); all_goals (first | exact h | exact h _ | exact h _ _ | exact h _ _ _ | exact h _ _ _ _ | exact h _ _ _ _ _ | exact h _ _ _ _ _ _ | exact h _ _ _ _ _ _ _ | exact h _ _ _ _ _ _ _ _ | rfl | (simp_all [-Bool.forall_bool]; done) | (simp_all [-Bool.forall_bool]; first | exact h | exact h _ | exact h _ _ | exact h _ _ _ | exact h _ _ _ _ | exact h _ _ _ _ _ | exact h _ _ _ _ _ _ | exact h _ _ _ _ _ _ _ | exact h _ _ _ _ _ _ _ _) | (simp_all [-Bool.forall_bool, emp_eq, int_beq]; done) | (simp_all [-Bool.forall_bool]; (intros; simp_all; done)) | (simp_all [-Bool.forall_bool, rdset5, rdset101, rdset83, rdset3, rdset56]; done) | grind))))))))) (impl_DoSteps.rel _ _ _ _ g m (by omega))))) (fun q h => (noE h)))) (fun q h => (noE h)))) (fun q h => (bnE h (fun _ g h => (fun g => ?_) (impl_copyFlash.rel _ _ _ g m (by omega))))))) (impl_in.rel m _ _ _ _ g m (by omega))))
  all_goals (try cases h)
  all_goals (try simp only [*, if_true, if_false, ↓reduceIte, Option.bind_some, List.length_cons, List.length_nil, List.length_append, Bool.not_true, Bool.not_false, Bool.true_eq_false, Bool.false_eq_true])
  all_goals (repeat first | rw [if_pos (by omega)] | rw [if_neg (by omega)])
  all_goals first | exact h | exact h _ | exact h _ _ | exact h _ _ _ | exact h _ _ _ _ | exact h _ _ _ _ _ | exact h _ _ _ _ _ _ | exact h _ _ _ _ _ _ _ | exact h _ _ _ _ _ _ _ _ | rfl | (simp_all [-Bool.forall_bool]; done) | (simp_all [-Bool.forall_bool]; first | exact h | exact h _ | exact h _ _ | exact h _ _ _ | exact h _ _ _ _ | exact h _ _ _ _ _ | exact h _ _ _ _ _ _ | exact h _ _ _ _ _ _ _ | exact h _ _ _ _ _ _ _ _) | (simp_all [-Bool.forall_bool, emp_eq, int_beq]; done) | (simp_all [-Bool.forall_bool]; (intros; simp_all; done)) | (simp_all [-Bool.forall_bool, rdset5, rdset101, rdset83, rdset3, rdset56]; done) | grind

theorem spec_CutSteps.rel (k : Nat) (l0_0 : List (S83)) (l1 : List (S56)) (a2 : Int) (a3 : Bool) (r) (h : PK.spec_CutSteps.f k l0_0 l1 a2 a3 = some r) (m : Nat) (hm : k ≤ m) : spec_CutSteps.f m l0_0 l1 a2 a3 = some (r.1, r.2) := by
  rw [PK.spec_CutSteps.f] at h
  rw [spec_CutSteps.f]
  try simp only [w64_eq, wu8_eq, gt_iff_lt, ge_iff_le, int_beq, fdiv33, fdiv45] at h
  try simp only [w64_eq, wu8_eq, gt_iff_lt, ge_iff_le, int_beq, fdiv33, fdiv45, rdT5_eq, rdT3_eq, seq, maxI, minI, emp_eq, rdn5, rdn101, rdn83, rdn3, rdn56]
  refine (bnE h (fun _ g h => (fun g => (itE h (fun q h => (itE h (fun q h => (itE h (fun q h => (bnE h (fun _ g h => (fun g => (itE h (fun q h => (bnE h (fun _ g h => (fun g => ?_) (spec_l05Copy.rel _ _ _ g m (by omega))))) (fun q h => (itE h (fun q h => (by cases k with | zero => (simp only [PK.spec_CutSteps.j0] at h; cases h) | succ k => (rw [PK.spec_CutSteps.j0] at h; (try simp only [w64_eq, wu8_eq, gt_iff_lt, ge_iff_le, int_beq, fdiv33, fdiv45] at h); refine (itE h (fun q h => ?_) (fun q h => (itE h (fun q h => (itE h (fun q h => (bnE h (fun _ g h => (fun g => (itE h (fun q h => ?_) (fun q h => (bnE h (fun _ g h => (fun g => ?_) (spec_l05Copy.rel _ _ _ g m (by omega))))))) (spec_Torment.rel _ _ _ _ _ _ _ g m (by omega))))) (fun q h => (noE h)))) (fun q h => (noE h))))) <;> ((try cases h); (try simp only [*, if_true, if_false, ↓reduceIte, Option.bind_some, List.length_cons, List.length_nil, List.length_append, Bool.not_true, Bool.not_false, Bool.true_eq_false, Bool.false_eq_true]); all_goals (repeat first | rw [if_pos (by omega)] | rw [if_neg (by omega)]); all_goals (first | exact h | exact h _ | exact h _ _ | exact h _ _ _ | exact h _ _ _ _ | exact h _ _ _ _ _ | exact h _ _ _ _ _ _ | exact h _ _ _ _ _ _ _ | exact h _ _ _ _ _ _ _ _ | rfl | (simp_all [-Bool.forall_bool]; done) | (simp_all [-Bool.forall_bool]; first | exact h | exact h _ | exact h _ _ | exact h _ _ _ | exact h _ _ _ _ | exact h _ _ _ _ _ | exact h _ _ _ _ _ _ | exact h _ _ _ _ _ _ _ | exact h _ _ _ _ _ _ _ _) | (simp_all [-Bool.forall_bool, emp_eq, int_beq]; done) | (simp_all [-Bool.forall_bool]; (intros; simp_all; done)) | (simp_all [-Bool.forall_bool, rdset5, rdset101, rdset83, rdset3, rdset56]; done) | grind))))) (fun q h => (by cases k with | zero => (simp only [PK.spec_CutSteps.j0] at h; cases h) | succ k => (rw [PK.spec_CutSteps.j0] at h; (try simp only [w64_eq, wu8_eq, gt_iff_lt, ge_iff_le, int_beq, fdiv33, fdiv45] at h); refine (itE h (fun q h => ?_) (fun q h => (itE h (fun q h => (itE h (fun q h => (bnE h (fun _ g h => (fun g => (itE h (fun q h => ?_) (fun q h => (bnE h (fun _ g h => (fun g => ?_) (spec_l05Copy.rel _ _ _ g m (by omega))))))) (spec_Torment.rel _ _ _ _ _ _ _ g m (by omega))))) (fun q h => (noE h)))) (fun q h => (noE h))))) <;> ((try cases h); (try simp only [*, if_true, if_false, ↓reduceIte, Option.bind_some, List.length_cons, List.length_nil, List.length_append, Bool.not_true, Bool.not_false, Bool.true_eq_false, Bool.false_eq_true]); all_goals (repeat first | rw [if_pos (by omega)] | rw [if_neg (by omega)]); all_goals (first | exact h | exact h _ | exact h _ _ | exact h _ _ _ | exact h _ _ _ _ | exact h _ _ _ _ _ | exact h _ _ _ _ _ _ | exact h _ _ _ _ _ _ _ | exact h _ _ _ _ _ _ _ _ | rfl | (simp_all [-Bool.forall_bool]; done) | (simp_all [-Bool.forall_bool]; first | exact h | exact h _ | exact h _ _ | exact h _ _ _ | exact h _ _ _ _ | exact h _ _ _ _ _ | exact h _ _ _ _ _ _ | exact h _ _ _ _ _ _ _ | exact h _ _ _ _ _ _ _ _) | (simp_all [-Bool.forall_bool, emp_eq, int_beq]; done) | (simp_all [-Bool.forall_bool]; (intros; simp_all; done)) | (simp_all [-Bool.forall_bool, rdset5, rdset101, rdset83, rdset3, rdset56]; done) | grind))))))))) (spec_DoSteps.rel _ _ _ _ g m (by omega))))) (fun q h => (noE h)))) (fun q h => (noE h)))) (fun q h => (bnE h (fun _ g h => (fun g => ?_) (spec_l05Copy.rel _ _ _ g m (by omega))))))) (spec_l01In.rel m _ _ _ _ g m (by omega))))
  all_goals (try cases h)
  all_goals (try simp only [*, if_true, if_false, ↓reduceIte, Option.bind_some, List.length_cons, List.length_nil, List.length_append, Bool.not_true, Bool.not_false, Bool.true_eq_false, Bool.false_eq_true])
  all_goals (repeat first | rw [if_pos (by omega)] | rw [if_neg (by omega)])
  all_goals first | exact h | exact h _ | exact h _ _ | exact h _ _ _ | exact h _ _ _ _ | exact h _ _ _ _ _ | exact h _ _ _ _ _ _ | exact h _ _ _ _ _ _ _ | exact h _ _ _ _ _ _ _ _ | rfl | (simp_all [-Bool.forall_bool]; done) | (simp_all [-Bool.forall_bool]; first | exact h | exact h _ | exact h _ _ | exact h _ _ _ | exact h _ _ _ _ | exact h _ _ _ _ _ | exact h _ _ _ _ _ _ | exact h _ _ _ _ _ _ _ | exact h _ _ _ _ _ _ _ _) | (simp_all [-Bool.forall_bool, emp_eq, int_beq]; done) | (simp_all [-Bool.forall_bool]; (intros; simp_all; done)) | (simp_all [-Bool.forall_bool, rdset5, rdset101, rdset83, rdset3, rdset56]; done) | grind
end Go.Proofs.Ytklkhnomnanpoaa.M2



/- Plain facts on rounds, lists and whole numbers, for the pure statements. -/
namespace Go.Proofs.Ytklkhnomnanpoaa.Pu
set_option linter.unusedVariables false
set_option linter.unusedSimpArgs false
open Go.RowKit Go.Proofs.YtklkhnomnanpoaaW.PrintWords

theorem w64 {x : Int} (h1 : -9223372036854775808 ≤ x) (h2 : x ≤ 9223372036854775807) : wrap64 x = x := by
  unfold wrap64; omega
theorem wsucc {i n : Nat} (h : i < n) (hn : n ≤ 9223372036854775807) : wrap64 ((i : Int) + 1) = ((i + 1 : Nat) : Int) := by
  rw [w64 (by omega) (by omega)]; rfl
theorem wf_i64 {n : Int} (h : (Lit.int .i64 n).wf = true) : -9223372036854775808 ≤ n ∧ n ≤ 9223372036854775807 := by
  simp only [Lit.wf, Bool.and_eq_true, decide_eq_true_eq] at h
  have h1 : IntKind.min .i64 = -9223372036854775808 := by decide
  have h2 : IntKind.max .i64 = 9223372036854775807 := by decide
  omega

/-- Rounds: what is told, a step on. -/
theorem ev_some {α : Type} {g : Nat → Option α} {r : α} (h : ∀ k, g (k + 1) = some r) : Ev g r := Ev.step h (Ev.now r)
theorem ev_const {α : Type} {o : Option α} {r : α} (h : o = some r) : Ev (fun _ => o) r := ⟨0, fun _ _ => h⟩
theorem ev_bind {α β : Type} {g : Nat → Option α} {f : Nat → α → Option β} {a : α} {r : β} (h : Ev g a) (k : Ev (fun n => f n a) r) : Ev (fun n => (g n).bind (f n)) r := Ev.bind h k
theorem ev_uniq {α : Type} {g : Nat → Option α} {a b : α} (h : Ev g a) (k : Ev g b) : a = b := by
  obtain ⟨K, hK⟩ := h
  obtain ⟨M, hM⟩ := k
  have h1 := hK (max K M) (Nat.le_max_left _ _)
  rw [hM (max K M) (Nat.le_max_right _ _)] at h1
  injection h1 with h1
  exact h1.symm
theorem ev_ext {α : Type} {g f : Nat → Option α} {r : α} (h : ∀ k, g k = f k) (k : Ev f r) : Ev g r := Ev.congr h k

/-- A row that is made and filled, place by place. -/
theorem ev_fill {β : Type} {L : Nat → List β → Int → Option (List β)} {E : Nat → Int → Option β} {n : Nat} {e : Nat → β} (hn : n ≤ 9223372036854775807)
    (hs : ∀ k xs i, L (k + 1) xs i = if i < (n : Int) then (if 0 ≤ i then ((E k i).bind fun b => if i < (xs.length : Int) then L k (xs.set i.toNat b) (wrap64 (i + 1)) else none) else none) else some xs)
    (hE : ∀ i, i < n → Ev (fun k => E k (i : Int)) (e i)) :
    ∀ (d i : Nat) (xs : List β), xs.length = n → i + d = n → Ev (fun k => L k xs (i : Int)) (xs.take i ++ (List.range' i d).map e) := by
  intro d
  induction d with
  | zero =>
    intro i xs hl hi
    refine ev_some fun k => ?_
    rw [hs, if_neg (by omega)]
    simp [List.take_of_length_le (show xs.length ≤ i by omega)]
  | succ d ih =>
    intro i xs hl hi
    refine Ev.step (f := fun k => (E k (i : Int)).bind fun b => L k (xs.set i b) ((i + 1 : Nat) : Int)) (fun k => ?_) ?_
    · rw [hs, if_pos (by omega), if_pos (by omega), wsucc (n := n) (by omega) hn]
      congr 1
      funext b
      rw [if_pos (by omega)]
      rfl
    · refine ev_bind (hE i (by omega)) ?_
      have h := ih (i + 1) (xs.set i (e i)) (by rw [List.length_set]; exact hl) (by omega)
      have e1 : (xs.set i (e i)).take (i + 1) ++ (List.range' (i + 1) d).map e = xs.take i ++ (List.range' i (d + 1)).map e := by
        rw [List.range'_succ, List.map_cons, List.take_succ_eq_append_getElem (by rw [List.length_set]; omega), List.getElem_set_self, List.take_set_of_le (Nat.le_refl _)]
        simp
      rw [e1] at h
      exact h
theorem map_range {α β : Type} (l : List α) (z : α) (g : α → β) : (List.range' 0 l.length).map (fun i => g (l.getD i z)) = l.map g := by
  apply List.ext_getElem
  · simp
  · intro i h1 h2
    simp only [List.length_map] at h2
    simp [List.getD_eq_getElem?_getD, List.getElem?_eq_getElem h2]
theorem ev_fill_all {α β : Type} {L : Nat → List β → Int → Option (List β)} {E : Nat → Int → Option β} {l : List α} {z : α} {g : α → β} {xs : List β} (hn : l.length ≤ 9223372036854775807)
    (hs : ∀ k xs i, L (k + 1) xs i = if i < (l.length : Int) then (if 0 ≤ i then ((E k i).bind fun b => if i < (xs.length : Int) then L k (xs.set i.toNat b) (wrap64 (i + 1)) else none) else none) else some xs)
    (hE : ∀ i, i < l.length → Ev (fun k => E k (i : Int)) (g (l.getD i z))) (hx : xs.length = l.length) : Ev (fun k => L k xs 0) (l.map g) := by
  have h := ev_fill (e := fun i => g (l.getD i z)) hn hs hE l.length 0 xs hx (by omega)
  rw [map_range] at h
  simpa using h

/-- Every place meets a test, tried place by place. -/
theorem ev_all {L E : Nat → Int → Option Bool} {n m : Nat} (hn : n ≤ 9223372036854775807) (hnm : n ≤ m)
    (hs : ∀ k i, L (k + 1) i = if i < (n : Int) then (if 0 ≤ i then (if i < (m : Int) then ((E k i).bind fun b => if b = true then L k (wrap64 (i + 1)) else some false) else none) else none) else some true)
    (hE : ∀ i, i < n → Ev (fun k => E k (i : Int)) true) : ∀ (d i : Nat), i + d = n → Ev (fun k => L k (i : Int)) true := by
  intro d
  induction d with
  | zero => intro i hi; exact ev_some fun k => by rw [hs, if_neg (by omega)]
  | succ d ih =>
    intro i hi
    refine Ev.step (f := fun k => (E k (i : Int)).bind fun b => if b = true then L k ((i + 1 : Nat) : Int) else some false) (fun k => ?_) (ev_bind (hE i (by omega)) (by simpa using ih (i + 1) (by omega)))
    rw [hs, if_pos (by omega), if_pos (by omega), if_pos (by omega), wsucc (n := n) (by omega) hn]

/-- What is left of a number, place by place, as long as it is not below 0. -/
theorem ev_size {L E : Nat → Int → Int → Option Int} {n : Nat} {P : Nat → Prop} (hn : n ≤ 9223372036854775807)
    (hs : ∀ k a i, L (k + 1) a i = if i < (n : Int) then (if 0 ≤ i then ((E k i a).bind fun t => if t < 0 then some (-1) else L k t (wrap64 (i + 1))) else none) else some a)
    (hE : ∀ i a, i < n → 0 ≤ a → a ≤ 1048576 → ∃ t, Ev (fun k => E k (i : Int) a) t ∧ t ≤ a ∧ (0 ≤ t → P i)) :
    ∀ (d i : Nat) (a : Int), i + d = n → 0 ≤ a → a ≤ 1048576 → ∃ r, Ev (fun k => L k a (i : Int)) r ∧ r ≤ a ∧ (0 ≤ r → ∀ m, i ≤ m → m < n → P m) := by
  intro d
  induction d with
  | zero => intro i a hi h0 h1; exact ⟨a, ev_some fun k => by rw [hs, if_neg (by omega)], Int.le_refl _, fun _ m h2 h3 => by omega⟩
  | succ d ih =>
    intro i a hi h0 h1
    obtain ⟨t, ht, hta, hp⟩ := hE i a (by omega) h0 h1
    have hst : ∀ k, L (k + 1) a (i : Int) = (E k (i : Int) a).bind fun t => if t < 0 then some (-1) else L k t ((i + 1 : Nat) : Int) := fun k => by
      rw [hs, if_pos (by omega), if_pos (by omega), wsucc (n := n) (by omega) hn]
    by_cases hneg : t < 0
    · exact ⟨-1, Ev.step hst (ev_bind ht (by simp only [if_pos hneg]; exact Ev.now _)), by omega, fun h => by omega⟩
    · obtain ⟨r, hr, hra, hq⟩ := ih (i + 1) t (by omega) (by omega) (by omega)
      refine ⟨r, Ev.step hst (ev_bind ht (by simp only [if_neg hneg]; exact hr)), by omega, fun h0r m h2 h3 => ?_⟩
      by_cases e : m = i
      · subst e; exact hp (by omega)
      · exact hq h0r m (by omega) h3
end Go.Proofs.Ytklkhnomnanpoaa.Pu

/- More plain facts on rounds: tests in a row, folds, searches. -/
namespace Go.Proofs.Ytklkhnomnanpoaa.Pu
set_option linter.unusedVariables false
set_option linter.unusedSimpArgs false
open Go.RowKit Go.Proofs.YtklkhnomnanpoaaW.PrintWords

/-- Tests in a row, one a round; then what comes. -/
theorem ev_scan {L : Nat → Int → Option Bool} {g : Nat → Option Bool} {n : Nat} {T : Nat → Bool} {r : Bool}
    (hs : ∀ k i, i < n → L (k + 1) (i : Int) = if T i = true then L k ((i + 1 : Nat) : Int) else some false) (he : ∀ k, L (k + 1) (n : Int) = g k) (hr : Ev g r) :
    ∀ (d i : Nat), i + d = n → Ev (fun k => L k (i : Int)) ((List.range' i d).all T && r) := by
  intro d
  induction d with
  | zero =>
    intro i hi
    obtain rfl : i = n := by omega
    exact Ev.step he hr
  | succ d ih =>
    intro i hi
    rw [List.range'_succ, List.all_cons]
    by_cases h : T i = true
    · rw [h, Bool.true_and]
      exact Ev.step (fun k => by rw [hs k i (by omega), if_pos h]) (ih (i + 1) (by omega))
    · rw [Bool.eq_false_iff.mpr h, Bool.false_and, Bool.false_and]
      exact ev_some fun k => by rw [hs k i (by omega), if_neg h]
/-- Tests in a row, each of many rounds; then what comes. -/
theorem ev_outer {L : Nat → Int → Option Bool} {n : Nat} {T : Nat → Bool} {r0 : Bool}
    (hs : ∀ i r, i < n → Ev (fun k => L k ((i + 1 : Nat) : Int)) r → Ev (fun k => L k (i : Int)) (T i && r)) (he : Ev (fun k => L k (n : Int)) r0) :
    ∀ (d i : Nat), i + d = n → Ev (fun k => L k (i : Int)) ((List.range' i d).all T && r0) := by
  intro d
  induction d with
  | zero =>
    intro i hi
    obtain rfl : i = n := by omega
    exact he
  | succ d ih =>
    intro i hi
    rw [List.range'_succ, List.all_cons, Bool.and_assoc]
    exact hs i _ (by omega) (ih (i + 1) (by omega))
/-- A state that is carried along; then what comes. -/
theorem ev_fold {σ ρ : Type} {L : Nat → σ → Int → Option ρ} {n : Nat} {F : σ → Nat → σ} {fin : σ → ρ} (Inv : Nat → σ → Prop)
    (hs : ∀ s i, i < n → Inv i s → ∀ r, Ev (fun k => L k (F s i) ((i + 1 : Nat) : Int)) r → Ev (fun k => L k s (i : Int)) r) (hi : ∀ s i, i < n → Inv i s → Inv (i + 1) (F s i))
    (he : ∀ s, Inv n s → Ev (fun k => L k s (n : Int)) (fin s)) : ∀ (d i : Nat) (s : σ), i + d = n → Inv i s → Ev (fun k => L k s (i : Int)) (fin ((List.range' i d).foldl F s)) := by
  intro d
  induction d with
  | zero =>
    intro i s h hv
    obtain rfl : i = n := by omega
    exact he s hv
  | succ d ih =>
    intro i s h hv
    rw [List.range'_succ, List.foldl_cons]
    exact hs s i (by omega) hv _ (ih (i + 1) (F s i) (by omega) (hi s i (by omega) hv))
/-- The first place that meets a test, -1 without one. -/
def findI (T : Nat → Bool) : Nat → Nat → Int
  | _, 0 => -1
  | i, d + 1 => if T i = true then (i : Int) else findI T (i + 1) d
theorem ev_find {L : Nat → Int → Option Int} {n : Nat} {T : Nat → Bool}
    (hy : ∀ i, i < n → T i = true → Ev (fun k => L k (i : Int)) (i : Int)) (hn : ∀ i, i < n → T i = false → ∀ r, Ev (fun k => L k ((i + 1 : Nat) : Int)) r → Ev (fun k => L k (i : Int)) r)
    (he : Ev (fun k => L k (n : Int)) (-1)) : ∀ (d i : Nat), i + d = n → Ev (fun k => L k (i : Int)) (findI T i d) := by
  intro d
  induction d with
  | zero =>
    intro i hi
    obtain rfl : i = n := by omega
    exact he
  | succ d ih =>
    intro i hi
    unfold findI
    by_cases h : T i = true
    · rw [if_pos h]; exact hy i (by omega) h
    · rw [if_neg h]; exact hn i (by omega) (Bool.eq_false_iff.mpr h) _ (ih (i + 1) (by omega))
theorem findI_range {T : Nat → Bool} : ∀ (d i : Nat), findI T i d = -1 ∨ ∃ j, i ≤ j ∧ j < i + d ∧ findI T i d = (j : Int) ∧ T j = true
  | 0, i => .inl rfl
  | d + 1, i => by
    unfold findI
    by_cases h : T i = true
    · rw [if_pos h]; exact .inr ⟨i, Nat.le_refl _, by omega, rfl, h⟩
    · rw [if_neg h]
      rcases findI_range d (i + 1) with h1 | ⟨j, h1, h2, h3, h4⟩
      · exact .inl h1
      · exact .inr ⟨j, by omega, by omega, h3, h4⟩
theorem bytes_empty (a : ByteArray) : (a.toList == ([] : List UInt8)) = decide ((a.size : Int) ≤ 0) := by
  rw [ByteArray.toList_eq]
  have h : a.data.toList.length = a.size := by rw [Array.length_toList]; rfl
  cases e : a.data.toList with
  | nil =>
    have h1 : a.size = 0 := by rw [← h, e]; rfl
    rw [decide_eq_true (by omega)]; rfl
  | cons x l =>
    have h1 : a.size = l.length + 1 := by rw [← h, e]; rfl
    rw [decide_eq_false (by omega)]; rfl
theorem getD_mem' {α : Type} {l : List α} {i : Nat} {z : α} (hi : i < l.length) : l.getD i z ∈ l := by
  rw [List.getD_eq_getElem?_getD, List.getElem?_eq_getElem hi]; exact List.getElem_mem hi
end Go.Proofs.Ytklkhnomnanpoaa.Pu

/- The reference's draws: a byte, a number below a bound, some places. -/
namespace Go.Proofs.Ytklkhnomnanpoaa.Pu
set_option linter.unusedVariables false
set_option linter.unusedSimpArgs false
open Go.RowKit Go.Proofs.Ytklkhnomnanpoaa.PK Go.Proofs.YtklkhnomnanpoaaW.PrintWords

theorem and255 (x : Int) : 0 ≤ Go.bits .and .i64 x 255 ∧ Go.bits .and .i64 x 255 ≤ 255 := by
  have h : (BitVec.ofInt 64 x &&& BitVec.ofInt 64 255).toNat ≤ 255 := by
    rw [BitVec.toNat_and]; exact Nat.le_trans Nat.and_le_right (by decide)
  have e : Go.bits .and .i64 x 255 = Go.IntKind.i64.wrap ((BitVec.ofInt 64 x &&& BitVec.ofInt 64 255).toNat : Int) := rfl
  rw [e, Go.IntKind.wrap_i64]
  omega
/-- A draw's state: the place lies in the code. -/
theorem byte_eq (b : List Int) (i h : Int) (h0 : 0 ≤ i) (h1 : i ≤ b.length) (hb : b.length ≤ 9223372036854775807) : ∃ v i' h', spec_l01Byte.f b i h = some (v, i', h') ∧ (0 ≤ v ∧ v ≤ 255) ∧ 0 ≤ i' ∧ i' ≤ b.length := by
  unfold spec_l01Byte.f
  by_cases hi : i < (b.length : Int)
  · rw [if_pos hi, if_pos h0, w64 (x := i + 1) (by omega) (by omega)]
    exact ⟨_, _, _, rfl, and255 _, by omega, by omega⟩
  · rw [if_neg hi]
    exact ⟨_, _, _, rfl, and255 _, by omega, by omega⟩
theorem below_eq (b : List Int) (i h n : Int) (h0 : 0 ≤ i) (h1 : i ≤ b.length) (hb : b.length ≤ 9223372036854775807) (hn : 0 < n) : ∃ v i' h', spec_l01Below.f b i h n = some (v, i', h') ∧ (0 ≤ v ∧ v < n) ∧ 0 ≤ i' ∧ i' ≤ b.length := by
  unfold spec_l01Below.f
  rw [if_neg (by omega)]
  obtain ⟨v, i1, g1, e1, ⟨v0, v1⟩, a1, b1⟩ := byte_eq b i h h0 h1 hb
  rw [e1]
  by_cases hs : n ≤ 256
  · rw [if_pos hs, Option.bind_some, if_neg (by omega)]
    exact ⟨_, _, _, rfl, ⟨Int.tmod_nonneg _ v0, Int.tmod_lt_of_pos _ hn⟩, a1, b1⟩
  · rw [if_neg hs, Option.bind_some]
    obtain ⟨y, i2, g2, e2, ⟨y0, y1⟩, a2, b2⟩ := byte_eq b i1 g1 a1 b1 hb
    obtain ⟨z, i3, g3, e3, ⟨z0, z1⟩, a3, b3⟩ := byte_eq b i2 g2 a2 b2 hb
    obtain ⟨u, i4, g4, e4, ⟨u0, u1⟩, a4, b4⟩ := byte_eq b i3 g3 a3 b3 hb
    simp only [e2, e3, e4, Option.bind_some]
    rw [if_neg (by omega), w64 (x := v * 16777216) (by omega) (by omega), w64 (x := y * 65536) (by omega) (by omega), w64 (x := v * 16777216 + y * 65536) (by omega) (by omega), w64 (x := z * 256) (by omega) (by omega), w64 (x := v * 16777216 + y * 65536 + z * 256) (by omega) (by omega), w64 (x := v * 16777216 + y * 65536 + z * 256 + u) (by omega) (by omega)]
    exact ⟨_, _, _, rfl, ⟨Int.tmod_nonneg _ (by omega), Int.tmod_lt_of_pos _ hn⟩, a4, b4⟩
theorem new_ev (b : List Int) (hb : b.length ≤ 9223372036854775807) : ∃ h, Ev (fun k => spec_l01New.f k b) (b, 0, h) := by
  unfold spec_l01New.f
  have main : ∀ (d i : Nat) (h : Int), i + d = b.length → ∃ g, Ev (fun k => spec_l01New.l0 k b h (i : Int)) (b, 0, g) := by
    intro d
    induction d with
    | zero => intro i h hi; exact ⟨h, ev_some fun k => by simp only [spec_l01New.l0]; rw [if_neg (by omega)]⟩
    | succ d ih =>
      intro i h hi
      by_cases hf : (i : Int) < 4000
      · obtain ⟨g, hg⟩ := ih (i + 1) (Go.bits .and .i64 (wrap64 ((wrap64 ((wrap64 (h * 131)) + (wrap64 (rd b (i : Int))))) + 7)) 1073741823) (by omega)
        refine ⟨g, Ev.step (fun k => ?_) hg⟩
        simp only [spec_l01New.l0]
        rw [if_pos (by omega), if_pos hf, if_pos (by omega), wsucc (n := b.length) (by omega) hb]
      · exact ⟨h, ev_some fun k => by simp only [spec_l01New.l0]; rw [if_pos (by omega), if_neg hf]⟩
  exact main b.length 0 _ (by omega)
end Go.Proofs.Ytklkhnomnanpoaa.Pu

/- The reference's draws of a yes or no, and of a text. -/
namespace Go.Proofs.Ytklkhnomnanpoaa.Pu
set_option linter.unusedVariables false
set_option linter.unusedSimpArgs false
open Go.RowKit Go.Proofs.Ytklkhnomnanpoaa.PK Go.Proofs.YtklkhnomnanpoaaW.PrintWords

theorem once_draw (b : List Int) (i h n : Int) (h0 : 0 ≤ i) (h1 : i ≤ b.length) (hb : b.length ≤ 9223372036854775807) (hn : 0 < n) : ∃ v i' h', spec_l01Once.f b i h n = some (v, i', h') ∧ 0 ≤ i' ∧ i' ≤ b.length := by
  obtain ⟨v, j, g, e, _, a1, b1⟩ := below_eq b i h n h0 h1 hb hn
  unfold spec_l01Once.f
  rw [e, Option.bind_some]
  exact ⟨_, _, _, rfl, a1, b1⟩
theorem str_size (l : List Int) : (strOfNums l).size = l.length := by
  unfold strOfNums
  simp [ByteArray.size]
theorem textN_draw (b : List Int) (i h : Int) (n : Nat) (h0 : 0 ≤ i) (h1 : i ≤ b.length) (hb : b.length ≤ 9223372036854775807) (hn : n ≤ 5000) : ∃ s i' h', Ev (fun k => spec_l01Text.f k b i h (n : Int)) (s, i', h') ∧ s.size = n ∧ 0 ≤ i' ∧ i' ≤ b.length := by
  unfold spec_l01Text.f
  simp only [if_neg (show ¬ (n : Int) > 5000 by omega)]
  have main : ∀ (d m : Nat) (acc : List Int) (j g : Int), m + d = n → acc.length = m → 0 ≤ j → j ≤ b.length → ∃ s i' h', Ev (fun k => spec_l01Text.l0 k (n : Int) acc (m : Int) b j g) (s, i', h') ∧ s.size = n ∧ 0 ≤ i' ∧ i' ≤ b.length := by
    intro d
    induction d with
    | zero =>
      intro m acc j g hm hl hj0 hj1
      exact ⟨strOfNums acc, j, g, ev_some fun k => by simp only [spec_l01Text.l0]; rw [if_neg (by omega)], by rw [str_size]; omega, hj0, hj1⟩
    | succ d ih =>
      intro m acc j g hm hl hj0 hj1
      obtain ⟨v, j2, g2, e2, _, a2, b2⟩ := byte_eq b j g hj0 hj1 hb
      obtain ⟨s, i', h', l1, l2, l3, l4⟩ := ih (m + 1) (acc ++ [v % 256]) j2 g2 (by omega) (by simp; omega) a2 b2
      refine ⟨s, i', h', Ev.step (fun k => ?_) l1, l2, l3, l4⟩
      simp only [spec_l01Text.l0, e2, Option.bind_some]
      rw [if_pos (by omega), if_pos (by omega), wsucc (n := n) (by omega) (by omega)]
  obtain ⟨s, i', h', l1, l2, l3, l4⟩ := main n 0 [] i h (by omega) rfl h0 h1
  exact ⟨s, i', h', Ev.step (fun k => by simp only [spec_l01Text.j0]; rfl) l1, l2, l3, l4⟩
end Go.Proofs.Ytklkhnomnanpoaa.Pu

/- A function that answers, and what of its answer is told; drawn numbers and texts, of the own functions. -/
namespace Go.Proofs.Ytklkhnomnanpoaa.M2.Mp
set_option linter.unusedVariables false
set_option linter.unusedSimpArgs false
open Go.RowKit Go.Proofs.Ytklkhnomnanpoaa.PK Go.Proofs.YtklkhnomnanpoaaW.PrintWords Go.Proofs.Ytklkhnomnanpoaa.Pu

/-- It answers, and the answer is such. -/
def EvX {α : Type} (g : Nat → Option α) (P : α → Prop) : Prop := ∃ r, Ev g r ∧ P r
theorem ev_rel {α β : Type} {g : Nat → Option α} {f : Nat → Option β} {a : α} {c : α → β} (h : Ev g a) (hr : ∀ k r, g k = some r → ∀ m, k ≤ m → f m = some (c r)) : Ev f (c a) := by
  obtain ⟨K, hK⟩ := h
  exact ⟨K, fun m hm => hr K a (hK K (Nat.le_refl _)) m hm⟩
theorem ev_all_k {α : Type} {f : Nat → Option α} {a : α} (h : ∀ m, f m = some a) : Ev f a := ⟨0, fun m _ => h m⟩
theorem evx_of {α : Type} {g : Nat → Option α} {P : α → Prop} {a : α} (h : Ev g a) (hp : P a) : EvX g P := ⟨a, h, hp⟩
theorem evx_mono {α : Type} {g : Nat → Option α} {P Q : α → Prop} (h : EvX g P) (hq : ∀ a, P a → Q a) : EvX g Q := by
  obtain ⟨r, h1, h2⟩ := h; exact ⟨r, h1, hq r h2⟩
theorem evx_bind {α β : Type} {g : Nat → Option α} {f : Nat → α → Option β} {Q : α → Prop} {P : β → Prop} (h : EvX g Q) (k : ∀ a, Q a → EvX (fun n => f n a) P) : EvX (fun n => (g n).bind (f n)) P := by
  obtain ⟨a, h1, h2⟩ := h
  obtain ⟨r, h3, h4⟩ := k a h2
  exact ⟨r, Ev.bind h1 h3, h4⟩
theorem evx_ite {α : Type} {c : Prop} [Decidable c] {g f : Nat → Option α} {P : α → Prop} (h1 : c → EvX g P) (h2 : ¬ c → EvX f P) : EvX (fun n => if c then g n else f n) P := by
  by_cases h : c
  · simp only [if_pos h]; exact h1 h
  · simp only [if_neg h]; exact h2 h
theorem evx_pos {α : Type} {c : Prop} [Decidable c] {g f : Nat → Option α} {P : α → Prop} (h : c) (h1 : EvX g P) : EvX (fun n => if c then g n else f n) P := by
  simp only [if_pos h]; exact h1
theorem evx_neg {α : Type} {c : Prop} [Decidable c] {g f : Nat → Option α} {P : α → Prop} (h : ¬ c) (h1 : EvX f P) : EvX (fun n => if c then g n else f n) P := by
  simp only [if_neg h]; exact h1
theorem evx_some {α : Type} {P : α → Prop} {a : α} (h : P a) : EvX (fun _ => some a) P := ⟨a, Ev.now _, h⟩
theorem evx_step {α : Type} {g f : Nat → Option α} {P : α → Prop} (h : ∀ k, g (k + 1) = f k) (k : EvX f P) : EvX g P := by
  obtain ⟨r, h1, h2⟩ := k
  exact ⟨r, Ev.step h h1, h2⟩
theorem evx_out {g : Nat → Option Bool} (h : EvX g (fun r => r = true)) : ∃ k, g k = some true := by
  obtain ⟨r, ⟨K, hK⟩, rfl⟩ := h
  exact ⟨K, hK K (Nat.le_refl _)⟩

/-- The cursor over the bytes b stands at i. -/
def Cur (b : List Int) (i : Int) : Prop := 0 ≤ i ∧ i ≤ b.length
abbrev Cb (b : List Int) : Prop := b.length ≤ 9223372036854775807
theorem newX (b : List Int) (hb : Cb b) : EvX (fun k => spec_l01New.f k b) (fun t => t.1 = b ∧ Cur b t.2.1) := by
  obtain ⟨h, e⟩ := new_ev b hb
  exact ⟨_, ev_rel e (fun k r h m hm => spec_l01New.rel k b r h m hm), rfl, Int.le_refl _, by show (0 : Int) ≤ _; omega⟩
theorem byteX (b : List Int) (i h : Int) (hc : Cur b i) (hb : Cb b) : EvX (fun k => spec_l01Byte.f k b i h) (fun t => (0 ≤ t.1 ∧ t.1 ≤ 255) ∧ t.2.1 = b ∧ Cur b t.2.2.1) := by
  obtain ⟨v, i', h', e, h1, h2⟩ := byte_eq b i h hc.1 hc.2 hb
  exact ⟨_, ev_all_k (fun m => spec_l01Byte.rel 0 b i h _ e m (Nat.zero_le _)), h1, rfl, h2⟩
theorem belowX (n : Int) (b : List Int) (i h : Int) (hn : 0 < n) (hc : Cur b i) (hb : Cb b) : EvX (fun k => spec_l01Below.f k n b i h) (fun t => (0 ≤ t.1 ∧ t.1 < n) ∧ t.2.1 = b ∧ Cur b t.2.2.1) := by
  obtain ⟨v, i', h', e, h1, h2⟩ := below_eq b i h n hc.1 hc.2 hb hn
  exact ⟨_, ev_all_k (fun m => spec_l01Below.rel 0 b i h n _ e m (Nat.zero_le _)), h1, rfl, h2⟩
theorem onceX (n : Int) (b : List Int) (i h : Int) (hn : 0 < n) (hc : Cur b i) (hb : Cb b) : EvX (fun k => spec_l01Once.f k n b i h) (fun t => t.2.1 = b ∧ Cur b t.2.2.1) := by
  obtain ⟨v, i', h', e, h2⟩ := once_draw b i h n hc.1 hc.2 hb hn
  exact ⟨_, ev_all_k (fun m => spec_l01Once.rel 0 b i h n _ e m (Nat.zero_le _)), rfl, h2⟩
theorem textX (n : Int) (b : List Int) (i h : Int) (hn : 0 ≤ n) (hn2 : n ≤ 5000) (hc : Cur b i) (hb : Cb b) : EvX (fun k => spec_l01Text.f k n b i h) (fun t => (t.1.size : Int) = n ∧ t.2.1 = b ∧ Cur b t.2.2.1) := by
  obtain ⟨s, i', h', e, h1, h2⟩ := textN_draw b i h n.toNat hc.1 hc.2 hb (by omega)
  have e1 : ((n.toNat : Nat) : Int) = n := by omega
  rw [e1] at e
  exact ⟨_, ev_rel e (fun k r hh m hm => spec_l01Text.rel k b i h n r hh m hm), by show (s.size : Int) = n; omega, rfl, h2⟩
theorem pickIntX (l : List Int) (b : List Int) (i h : Int) (hl : 0 < l.length) (hc : Cur b i) (hb : Cb b) : EvX (fun k => spec_l01PickInt.f k l b i h) (fun t => t.1 ∈ l ∧ t.2.1 = b ∧ Cur b t.2.2.1) := by
  simp only [spec_l01PickInt.f]
  refine evx_bind (belowX (l.length : Int) b i h (by omega) hc hb) fun t ht => ?_
  refine evx_pos ht.1.1 (evx_pos ht.1.2 (evx_some ⟨?_, ht.2⟩))
  show l.getD t.1.toNat 0 ∈ l
  have : t.1.toNat < l.length := by omega
  rw [List.getD_eq_getElem?_getD, List.getElem?_eq_getElem this]; exact List.getElem_mem this
end Go.Proofs.Ytklkhnomnanpoaa.M2.Mp

/- What the functions on flashes answer: sizes, copies, comparison. -/
namespace Go.Proofs.Ytklkhnomnanpoaa.Pu
set_option linter.unusedVariables false
set_option linter.unusedSimpArgs false
open Go.RowKit Go.Proofs.Ytklkhnomnanpoaa.PK Go.Proofs.YtklkhnomnanpoaaW.PrintWords

theorem rdIB_nat (l : List S83) (i : Nat) : rd_T83 l (i : Int) = l.getD i z83 := rfl
theorem rdIL_nat (l : List S101) (i : Nat) : rd_T101 l (i : Int) = l.getD i z101 := rfl

end Go.Proofs.Ytklkhnomnanpoaa.Pu

/- When a flash is right, as one test; the program's and the reference's FlashOk answer it. -/
namespace Go.Proofs.Ytklkhnomnanpoaa.Pu
set_option linter.unusedVariables false
set_option linter.unusedSimpArgs false
open Go.RowKit Go.Proofs.Ytklkhnomnanpoaa.PK Go.Proofs.YtklkhnomnanpoaaW.PrintWords

theorem inF_eq (a l h : Int) : impl_in.f a l h = some (decide (l ≤ a ∧ a ≤ h)) := by
  unfold impl_in.f
  by_cases h1 : a ≥ l
  · rw [if_pos h1]; congr 1; simp; omega
  · rw [if_neg h1]; congr 1; simp; omega
theorem l01InF_eq (a l h : Int) : spec_l01In.f a l h = some (decide (l ≤ a ∧ a ≤ h)) := by
  unfold spec_l01In.f
  by_cases h1 : a ≥ l
  · rw [if_pos h1]; congr 1; simp; omega
  · rw [if_neg h1]; congr 1; simp; omega

def leafB (x : S101) : Bool := if x.f0 = 0 then decide ((x.f1.size : Int) ≤ 0) else if x.f0 = 1 then decide (1 ≤ (x.f1.size : Int) ∧ (x.f1.size : Int) ≤ 120) else if x.f0 = 2 then decide ((x.f1.size : Int) ≤ 120) else false
/-- The leaf at place i of a block, and the one ahead of it. -/
def stepB (ls : List S101) (i : Nat) : Bool := leafB (ls.getD i z101) && (decide (i = 0) || !decide ((ls.getD (i - 1) z101).f0 = 0) || decide ((ls.getD i z101).f0 = 0))
def blockB (b : S83) : Bool := decide (b.f2.length = 4) && (decide (0 ≤ b.f1 ∧ b.f1 ≤ 1000000000) && (List.range' 0 b.f2.length).all (stepB b.f2))
def flashB (f : List S83) : Bool := (List.range' 0 f.length).all (fun i => blockB (f.getD i z83)) && decide (3 ≤ (f.length : Int) ∧ (f.length : Int) ≤ 10)

theorem sLeaf_eq (x : S101) : spec_l05Leaf.f x.f0 x.f1 = some (leafB x) := by
  unfold spec_l05Leaf.f leafB
  simp only [l01InF_eq, Option.bind_some, bytes_empty]
  repeat' split
  all_goals rfl
theorem iLeaf_eq (x : S101) : impl_leafOk.f x.f0 x.f1 = some (leafB x) := by
  unfold impl_leafOk.f leafB
  simp only [inF_eq, Option.bind_some, bytes_empty]
  repeat' split
  all_goals rfl
theorem sFlash_step (k : Nat) (a : Int) (f : List S83) (b : Bool) (n : Int) (ls : List S101) (i : Nat) (hi : i < ls.length) (hn : ls.length ≤ 1048576) :
    spec_FlashOk.l1 (k + 1) a (i : Int) f b n ls = if stepB ls i = true then spec_FlashOk.l1 k a ((i + 1 : Nat) : Int) f b n ls else some false := by
  simp only [spec_FlashOk.l1]
  rw [if_pos (by omega), if_pos (by omega), rdIL_nat, sLeaf_eq, wsucc (n := ls.length) hi (by omega), w64 (x := (i : Int) - 1) (by omega) (by omega)]
  simp only [Option.bind_some]
  unfold stepB
  by_cases h : leafB (ls.getD i z101) = true
  · rw [if_pos h, h, Bool.true_and]
    by_cases h0 : i = 0
    · subst h0
      simp
    · obtain ⟨j, rfl⟩ : ∃ j, i = j + 1 := ⟨i - 1, by omega⟩
      rw [if_pos (by omega), if_pos (by omega), if_pos (by omega), show ((j + 1 : Nat) : Int) - 1 = (j : Int) by omega, rdIL_nat, show j + 1 - 1 = j by omega]
      generalize (ls.getD j z101).f0 = u
      generalize (ls.getD (j + 1) z101).f0 = v
      by_cases h1 : u = 0 <;> by_cases h2 : v = 0 <;> simp [h1, h2]
  · rw [if_neg h, Bool.eq_false_iff.mpr h, Bool.false_and]
    rfl
theorem iFlash_step (k : Nat) (f : List S83) (a c : Int) (f2 : List S83) (b : Bool) (n : Int) (ls : List S101) (i : Nat) (hi : i < ls.length) (hn : ls.length ≤ 1048576) :
    impl_FlashOk.l1 (k + 1) f a c ls (ls.length : Int) (i : Int) f2 b n ls = if stepB ls i = true then impl_FlashOk.l1 k f a c ls (ls.length : Int) ((i + 1 : Nat) : Int) f2 b n ls else some false := by
  simp only [impl_FlashOk.l1]
  rw [if_pos (by omega), if_pos (by omega), if_pos (by omega), rdIL_nat, iLeaf_eq, wsucc (n := ls.length) hi (by omega), w64 (x := (i : Int) - 1) (by omega) (by omega)]
  simp only [Option.bind_some]
  unfold stepB
  by_cases h : leafB (ls.getD i z101) = true
  · rw [if_pos h, h, Bool.true_and]
    by_cases h0 : i = 0
    · subst h0
      simp
    · obtain ⟨j, rfl⟩ : ∃ j, i = j + 1 := ⟨i - 1, by omega⟩
      rw [if_pos (by omega), if_pos (by omega), if_pos (by omega), show ((j + 1 : Nat) : Int) - 1 = (j : Int) by omega, rdIL_nat, show j + 1 - 1 = j by omega]
      generalize (ls.getD j z101).f0 = u
      generalize (ls.getD (j + 1) z101).f0 = v
      by_cases h1 : u = 0 <;> by_cases h2 : v = 0 <;> simp [h1, h2]
  · rw [if_neg h, Bool.eq_false_iff.mpr h, Bool.false_and]
    rfl
theorem sFlashOk_ev (f : List S83) (hn : f.length ≤ 1048576) (hk : ∀ x ∈ f, x.f2.length ≤ 1048576) : Ev (fun k => spec_FlashOk.f k f) (flashB f) := by
  refine ev_outer (L := fun k i => spec_FlashOk.l0 k i f) (n := f.length) (T := fun i => blockB (f.getD i z83)) (fun i r hi hr => ?_) (ev_some fun k => by simp only [spec_FlashOk.l0]; rw [if_neg (by omega), l01InF_eq]; rfl) f.length 0 (by omega)
  have hb := hk _ (getD_mem' (z := z83) hi)
  unfold blockB
  by_cases h4 : (f.getD i z83).f2.length = 4
  · rw [decide_eq_true h4, Bool.true_and]
    by_cases hw : 0 ≤ (f.getD i z83).f1 ∧ (f.getD i z83).f1 ≤ 1000000000
    · rw [decide_eq_true hw, Bool.true_and]
      have h := ev_scan (L := fun k j => spec_FlashOk.l1 k i j f (f.getD i z83).f0 (f.getD i z83).f1 (f.getD i z83).f2) (n := (f.getD i z83).f2.length) (T := stepB (f.getD i z83).f2) (fun k j hj => sFlash_step k i f _ _ _ j hj hb)
        (g := fun k => spec_FlashOk.l0 k ((i + 1 : Nat) : Int) f) (fun k => by simp only [spec_FlashOk.l1]; rw [if_neg (by omega), wsucc (n := f.length) hi (by omega)]) hr _ 0 (Nat.zero_add _)
      refine Ev.step (f := fun k => spec_FlashOk.j1 k i false f (f.getD i z83).f0 (f.getD i z83).f1 (f.getD i z83).f2) (fun k => ?_) (Ev.step (fun k => ?_) h)
      · simp only [spec_FlashOk.l0]
        rw [if_pos (by omega), if_pos (by omega), rdIB_nat, if_pos (by omega), l01InF_eq, decide_eq_true hw]
        rfl
      · simp only [spec_FlashOk.j1]
        rfl
    · rw [decide_eq_false hw, Bool.false_and, Bool.false_and]
      refine Ev.step (f := fun k => spec_FlashOk.j1 k i true f (f.getD i z83).f0 (f.getD i z83).f1 (f.getD i z83).f2) (fun k => ?_) (ev_some fun k => by simp [spec_FlashOk.j1])
      simp only [spec_FlashOk.l0]
      rw [if_pos (by omega), if_pos (by omega), rdIB_nat, if_pos (by omega), l01InF_eq, decide_eq_false hw]
      rfl
  · rw [decide_eq_false h4, Bool.false_and, Bool.false_and]
    refine Ev.step (f := fun k => spec_FlashOk.j1 k i true f (f.getD i z83).f0 (f.getD i z83).f1 (f.getD i z83).f2) (fun k => ?_) (ev_some fun k => by simp [spec_FlashOk.j1])
    simp only [spec_FlashOk.l0]
    rw [if_pos (by omega), if_pos (by omega), rdIB_nat, if_neg (by omega)]
theorem iFlashOk_ev (f : List S83) (hn : f.length ≤ 1048576) (hk : ∀ x ∈ f, x.f2.length ≤ 1048576) : Ev (fun k => impl_FlashOk.f k f) (flashB f) := by
  refine ev_outer (L := fun k i => impl_FlashOk.l0 k f (f.length : Int) i f) (n := f.length) (T := fun i => blockB (f.getD i z83)) (fun i r hi hr => ?_) (ev_some fun k => by simp only [impl_FlashOk.l0]; rw [if_neg (by omega), inF_eq]; rfl) f.length 0 (by omega)
  have hb := hk _ (getD_mem' (z := z83) hi)
  unfold blockB
  by_cases h4 : (f.getD i z83).f2.length = 4
  · rw [decide_eq_true h4, Bool.true_and]
    by_cases hw : 0 ≤ (f.getD i z83).f1 ∧ (f.getD i z83).f1 ≤ 1000000000
    · rw [decide_eq_true hw, Bool.true_and]
      have h := ev_scan (L := fun k j => impl_FlashOk.l1 k f (f.length : Int) i (f.getD i z83).f2 ((f.getD i z83).f2.length : Int) j f (f.getD i z83).f0 (f.getD i z83).f1 (f.getD i z83).f2) (n := (f.getD i z83).f2.length) (T := stepB (f.getD i z83).f2) (fun k j hj => iFlash_step k f _ _ f _ _ _ j hj hb)
        (g := fun k => impl_FlashOk.l0 k f (f.length : Int) ((i + 1 : Nat) : Int) f) (fun k => by simp only [impl_FlashOk.l1]; rw [if_neg (by omega), wsucc (n := f.length) hi (by omega)]) hr _ 0 (Nat.zero_add _)
      refine Ev.step (f := fun k => impl_FlashOk.j1 k f (f.length : Int) i false f (f.getD i z83).f0 (f.getD i z83).f1 (f.getD i z83).f2) (fun k => ?_) (Ev.step (fun k => ?_) h)
      · simp only [impl_FlashOk.l0]
        rw [if_pos (by omega), if_pos (by omega), if_pos (by omega), rdIB_nat, if_pos (by omega), inF_eq, decide_eq_true hw]
        rfl
      · simp only [impl_FlashOk.j1]
        rfl
    · rw [decide_eq_false hw, Bool.false_and, Bool.false_and]
      refine Ev.step (f := fun k => impl_FlashOk.j1 k f (f.length : Int) i true f (f.getD i z83).f0 (f.getD i z83).f1 (f.getD i z83).f2) (fun k => ?_) (ev_some fun k => by simp [impl_FlashOk.j1])
      simp only [impl_FlashOk.l0]
      rw [if_pos (by omega), if_pos (by omega), if_pos (by omega), rdIB_nat, if_pos (by omega), inF_eq, decide_eq_false hw]
      rfl
  · rw [decide_eq_false h4, Bool.false_and, Bool.false_and]
    refine Ev.step (f := fun k => impl_FlashOk.j1 k f (f.length : Int) i true f (f.getD i z83).f0 (f.getD i z83).f1 (f.getD i z83).f2) (fun k => ?_) (ev_some fun k => by simp [impl_FlashOk.j1])
    simp only [impl_FlashOk.l0]
    rw [if_pos (by omega), if_pos (by omega), if_pos (by omega), rdIB_nat, if_neg (by omega)]
end Go.Proofs.Ytklkhnomnanpoaa.Pu

/- The next blank leaf of a block; the program's and the reference's NextBlank tell it. -/
namespace Go.Proofs.Ytklkhnomnanpoaa.Pu
set_option linter.unusedVariables false
set_option linter.unusedSimpArgs false
open Go.RowKit Go.Proofs.Ytklkhnomnanpoaa.PK Go.Proofs.YtklkhnomnanpoaaW.PrintWords

def blankL (x : S101) : Bool := decide (x.f0 = 0)
def nextB (ls : List S101) : Int := let r := findI (fun i => blankL (ls.getD i z101)) 0 ls.length; if r = -1 then 4 else r
theorem iNext_ev (b : Bool) (n : Int) (ls : List S101) (hn : ls.length ≤ 1048576) : Ev (fun k => impl_NextBlank.f k b n ls) (nextB ls) := by
  have main : ∀ (d i : Nat), i + d = ls.length → Ev (fun k => impl_NextBlank.l0 k ls (ls.length : Int) (i : Int)) (if findI (fun i => blankL (ls.getD i z101)) i d = -1 then 4 else findI (fun i => blankL (ls.getD i z101)) i d) := by
    intro d
    induction d with
    | zero => intro i hi; exact ev_some fun k => by simp only [impl_NextBlank.l0]; rw [if_neg (by omega)]; rfl
    | succ d ih =>
      intro i hi
      unfold findI
      by_cases h : (ls.getD i z101).f0 = 0
      · rw [if_pos (show blankL (ls.getD i z101) = true from decide_eq_true h), if_neg (by omega)]
        refine ev_some fun k => ?_
        simp only [impl_NextBlank.l0]
        rw [if_pos (by omega), if_pos (by omega), if_pos (by omega), rdIL_nat, if_pos h]
      · rw [if_neg (show ¬ blankL (ls.getD i z101) = true by unfold blankL; rw [decide_eq_false h]; decide)]
        refine Ev.step (fun k => ?_) (ih (i + 1) (by omega))
        simp only [impl_NextBlank.l0]
        rw [if_pos (by omega), if_pos (by omega), if_pos (by omega), rdIL_nat, if_neg h, wsucc (n := ls.length) (by omega) (by omega)]
  exact main ls.length 0 (by omega)
theorem sNext_ev (b : Bool) (n : Int) (ls : List S101) (hn : ls.length ≤ 1048576) : Ev (fun k => spec_NextBlank.f k b n ls) (nextB ls) := by
  have main : ∀ (d i : Nat), i + d = ls.length → Ev (fun k => spec_NextBlank.l0 k (i : Int) b n ls) (if findI (fun i => blankL (ls.getD i z101)) i d = -1 then 4 else findI (fun i => blankL (ls.getD i z101)) i d) := by
    intro d
    induction d with
    | zero => intro i hi; exact ev_some fun k => by simp only [spec_NextBlank.l0]; rw [if_neg (by omega)]; rfl
    | succ d ih =>
      intro i hi
      unfold findI
      by_cases h : (ls.getD i z101).f0 = 0
      · rw [if_pos (show blankL (ls.getD i z101) = true from decide_eq_true h), if_neg (by omega)]
        refine ev_some fun k => ?_
        simp only [spec_NextBlank.l0]
        rw [if_pos (by omega), if_pos (by omega), rdIL_nat, if_pos h]
      · rw [if_neg (show ¬ blankL (ls.getD i z101) = true by unfold blankL; rw [decide_eq_false h]; decide)]
        refine Ev.step (fun k => ?_) (ih (i + 1) (by omega))
        simp only [spec_NextBlank.l0]
        rw [if_pos (by omega), if_pos (by omega), rdIL_nat, if_neg h, wsucc (n := ls.length) (by omega) (by omega)]
  exact main ls.length 0 (by omega)
end Go.Proofs.Ytklkhnomnanpoaa.Pu

/- Marks: what a row's places are marked with is held there again, and the count goes on alike. -/
namespace Go.Proofs.Ytklkhnomnanpoaa.Pu
set_option linter.unusedVariables false
set_option linter.unusedSimpArgs false
open Go.RowKit Go.Proofs.Ytklkhnomnanpoaa.PK Go.Proofs.YtklkhnomnanpoaaW.PrintWords

theorem getD_set_self {α : Type} {xs : List α} {i : Nat} {x z : α} (h : i < xs.length) : (xs.set i x).getD i z = x := by
  rw [List.getD_eq_getElem?_getD, List.getElem?_set_self h]; rfl
theorem getD_set_ne {α : Type} {xs : List α} {i j : Nat} {x z : α} (h : i ≠ j) : (xs.set i x).getD j z = xs.getD j z := by
  rw [List.getD_eq_getElem?_getD, List.getD_eq_getElem?_getD, List.getElem?_set_ne h]
/-- A row that is marked place by place, and held so. -/
theorem ev_mark {α : Type} (z : α) {L : Nat → List α → Int → Int → Option (Int × List α)} {Hd : Nat → List α → Int → Int → Option Int} (E : Nat → α → Int → Option (Int × α)) (G : Nat → α → Int → Option Int) (c : Int) (P : α → Prop)
    (hL : ∀ k (xs : List α) (a : Int) (i : Nat), i < xs.length → 0 ≤ a → a + c ≤ 4611686018427387904 → L (k + 1) xs a (i : Int) = (E k (xs.getD i z) a).bind fun b => L k (xs.set i b.2) b.1 (wrap64 ((i : Int) + 1)))
    (hL0 : ∀ k (xs : List α) (a : Int) (i : Nat), xs.length ≤ i → L (k + 1) xs a (i : Int) = some (a, xs))
    (hH : ∀ k (xs : List α) (a : Int) (i : Nat), i < xs.length → 0 ≤ a → a + c ≤ 4611686018427387904 → Hd (k + 1) xs a (i : Int) = (G k (xs.getD i z) a).bind fun t => if t < 0 then some (-1) else Hd k xs t (wrap64 ((i : Int) + 1)))
    (hH0 : ∀ k (xs : List α) (a : Int) (i : Nat), xs.length ≤ i → Hd (k + 1) xs a (i : Int) = some a)
    (hc : 0 ≤ c)
    (hE : ∀ x a, P x → 0 ≤ a → a + c ≤ 4611686018427387904 → ∃ a' x', Ev (fun k => E k x a) (a', x') ∧ Ev (fun k => G k x' a) a' ∧ a ≤ a' ∧ a' ≤ a + c) :
    ∀ (d i : Nat) (xs : List α) (a : Int), i + d = xs.length → xs.length ≤ 9223372036854775807 → (∀ j, i ≤ j → j < xs.length → P (xs.getD j z)) → 0 ≤ a → a + d * c ≤ 4611686018427387904 →
      ∃ a' xs', xs'.length = xs.length ∧ (∀ j, j < i → xs'.getD j z = xs.getD j z) ∧ Ev (fun k => L k xs a (i : Int)) (a', xs') ∧ Ev (fun k => Hd k xs' a (i : Int)) a' ∧ a ≤ a' ∧ a' ≤ a + d * c := by
  intro d
  induction d with
  | zero =>
    intro i xs a hi hn hP ha hM
    exact ⟨a, xs, rfl, fun _ _ => rfl, ev_some fun k => hL0 k xs a i (by omega), ev_some fun k => hH0 k xs a i (by omega), Int.le_refl _, by simp⟩
  | succ d ih =>
    intro i xs a hi hn hP ha hM
    have hdc : 0 ≤ (d : Int) * c := Int.mul_nonneg (by omega) hc
    have hds : ((d + 1 : Nat) : Int) * c = (d : Int) * c + c := by rw [Int.natCast_add, Int.add_mul]; simp
    rw [hds] at hM
    obtain ⟨a1, x1, hE1, hG1, h1, h2⟩ := hE (xs.getD i z) a (hP i (Nat.le_refl _) (by omega)) ha (by omega)
    have hlen : (xs.set i x1).length = xs.length := List.length_set
    obtain ⟨a', xs', hl', hb', hL', hH', h3, h4⟩ := ih (i + 1) (xs.set i x1) a1 (by rw [hlen]; omega) (by rw [hlen]; exact hn) (fun j hj hj2 => by
      rw [hlen] at hj2
      rw [getD_set_ne (by omega)]
      exact hP j (by omega) hj2) (by omega) (by omega)
    have hxi : xs'.getD i z = x1 := by rw [hb' i (by omega), getD_set_self (by omega)]
    refine ⟨a', xs', by rw [hl', hlen], fun j hj => by rw [hb' j (by omega), getD_set_ne (by omega)], ?_, ?_, by omega, by rw [hds]; omega⟩
    · refine Ev.step (fun k => hL k xs a i (by omega) ha (by omega)) (ev_bind hE1 ?_)
      simp only [wsucc (n := xs.length) (i := i) (by omega) hn]
      exact hL'
    · refine Ev.step (fun k => hH k xs' a i (by rw [hl', hlen]; omega) ha (by omega)) ?_
      rw [hxi]
      refine ev_bind hG1 ?_
      simp only [if_neg (show ¬ a1 < 0 by omega), wsucc (n := xs.length) (i := i) (by omega) hn]
      exact hH'

/-- A row that is marked place by place. -/
theorem ev_mark1 {α : Type} (z : α) {L : Nat → List α → Int → Int → Option (Int × List α)} (E : Nat → α → Int → Option (Int × α)) (c : Int)
    (hL : ∀ k (xs : List α) (a : Int) (i : Nat), i < xs.length → 0 ≤ a → a + c ≤ 4611686018427387904 → L (k + 1) xs a (i : Int) = (E k (xs.getD i z) a).bind fun b => L k (xs.set i b.2) b.1 (wrap64 ((i : Int) + 1)))
    (hL0 : ∀ k (xs : List α) (a : Int) (i : Nat), xs.length ≤ i → L (k + 1) xs a (i : Int) = some (a, xs)) (hc : 0 ≤ c)
    (hE : ∀ x a, 0 ≤ a → a + c ≤ 4611686018427387904 → ∃ a' x', Ev (fun k => E k x a) (a', x') ∧ a ≤ a' ∧ a' ≤ a + c) :
    ∀ (d i : Nat) (xs : List α) (a : Int), i + d = xs.length → xs.length ≤ 9223372036854775807 → 0 ≤ a → a + d * c ≤ 4611686018427387904 →
      ∃ a' xs', Ev (fun k => L k xs a (i : Int)) (a', xs') ∧ a ≤ a' ∧ a' ≤ a + d * c := by
  intro d
  induction d with
  | zero =>
    intro i xs a hi hn ha hM
    exact ⟨a, xs, ev_some fun k => hL0 k xs a i (by omega), Int.le_refl _, by simp⟩
  | succ d ih =>
    intro i xs a hi hn ha hM
    have hdc : 0 ≤ (d : Int) * c := Int.mul_nonneg (by omega) hc
    have hds : ((d + 1 : Nat) : Int) * c = (d : Int) * c + c := by rw [Int.natCast_add, Int.add_mul]; simp
    rw [hds] at hM
    obtain ⟨a1, x1, hE1, h1, h2⟩ := hE (xs.getD i z) a ha (by omega)
    have hlen : (xs.set i x1).length = xs.length := List.length_set
    obtain ⟨a', xs', hL', h3, h4⟩ := ih (i + 1) (xs.set i x1) a1 (by rw [hlen]; omega) (by rw [hlen]; exact hn) (by omega) (by omega)
    refine ⟨a', xs', ?_, by omega, by rw [hds]; omega⟩
    refine Ev.step (fun k => hL k xs a i (by omega) ha (by omega)) (ev_bind hE1 ?_)
    simp only [wsucc (n := xs.length) (i := i) (by omega) hn]
    exact hL'

end Go.Proofs.Ytklkhnomnanpoaa.Pu

/- Steps on a flash: a leaf programmed, a block wiped; the program's and the reference's DoStep and DoSteps do them. -/
namespace Go.Proofs.Ytklkhnomnanpoaa.Pu
set_option linter.unusedVariables false
set_option linter.unusedSimpArgs false
open Go.RowKit Go.Proofs.Ytklkhnomnanpoaa.PK Go.Proofs.YtklkhnomnanpoaaW.PrintWords

theorem dropS {α : Type} {l : List α} {i : Nat} (z : α) (h : i < l.length) : l.drop i = l.getD i z :: l.drop (i + 1) := by
  rw [List.drop_eq_getElem_cons h, List.getD_eq_getElem?_getD, List.getElem?_eq_getElem h]; rfl
theorem iCopyF_ev (f : List S83) (hn : f.length ≤ 1048576) (hk : ∀ x ∈ f, x.f2.length ≤ 1048576) : Ev (fun k => impl_copyFlash.f k f) f := by
  have main : ∀ (d i : Nat) (acc : List S83), i + d = f.length → acc.length = i → Ev (fun k => impl_copyFlash.l0 k f (f.length : Int) (i : Int) acc) (acc ++ f.drop i) := by
    intro d
    induction d with
    | zero => intro i acc hi hl; exact ev_some fun k => by simp only [impl_copyFlash.l0]; rw [if_neg (by omega), List.drop_eq_nil_of_le (by omega), List.append_nil]
    | succ d ih =>
      intro i acc hi hl
      have hm := hk _ (getD_mem' (z := z83) (show i < f.length by omega))
      have h := ih (i + 1) (acc ++ [f.getD i z83]) (by omega) (by rw [List.length_append, hl]; rfl)
      rw [List.append_assoc, List.singleton_append] at h
      rw [dropS z83 (by omega)]
      refine Ev.step (fun k => ?_) h
      simp only [impl_copyFlash.l0]
      rw [if_pos (by omega), if_pos (by omega), if_pos (by omega), rdIB_nat, if_pos (by simp only [List.length_nil]; omega), if_pos (by omega), wsucc (n := f.length) (by omega) (by omega), List.nil_append]
  exact main f.length 0 [] (by omega) rfl
theorem sCopyF_ev (f : List S83) (hn : f.length ≤ 1048576) (hk : ∀ x ∈ f, x.f2.length ≤ 1048576) : Ev (fun k => spec_l05Copy.f k f) f := by
  have main : ∀ (d i : Nat) (acc : List S83), i + d = f.length → acc.length = i → Ev (fun k => spec_l05Copy.l0 k (i : Int) f acc) (acc ++ f.drop i) := by
    intro d
    induction d with
    | zero => intro i acc hi hl; exact ev_some fun k => by simp only [spec_l05Copy.l0]; rw [if_neg (by omega), List.drop_eq_nil_of_le (by omega), List.append_nil]
    | succ d ih =>
      intro i acc hi hl
      have hm := hk _ (getD_mem' (z := z83) (show i < f.length by omega))
      have h := ih (i + 1) (acc ++ [f.getD i z83]) (by omega) (by rw [List.length_append, hl]; rfl)
      rw [List.append_assoc, List.singleton_append] at h
      rw [dropS z83 (by omega)]
      refine Ev.step (fun k => ?_) h
      simp only [spec_l05Copy.l0]
      rw [if_pos (by omega), if_pos (by omega), rdIB_nat]
      simp only [Option.bind_some]
      rw [if_pos (by simp only [List.length_nil]; omega), if_pos (by omega), wsucc (n := f.length) (by omega) (by omega), List.nil_append]
  exact main f.length 0 [] (by omega) rfl
def useB (f : List S83) (b : Int) : Bool := flashB f && (decide (0 ≤ b ∧ b ≤ (f.length : Int) - 1) && !(f.getD b.toNat z83).f0)
theorem rdB_toNat (f : List S83) (b : Int) : rd_T83 f b = f.getD b.toNat z83 := rfl
theorem iUse_ev (f : List S83) (b : Int) (hn : f.length ≤ 1048576) (hk : ∀ x ∈ f, x.f2.length ≤ 1048576) : Ev (fun k => impl_usable.f k f b) (useB f b) := by
  unfold impl_usable.f useB
  refine ev_bind (iFlashOk_ev f hn hk) ?_
  by_cases h : flashB f = true
  · simp only [if_pos h, inF_eq, Option.bind_some, w64 (x := (f.length : Int) - 1) (by omega) (by omega), h, Bool.true_and]
    by_cases h2 : 0 ≤ b ∧ b ≤ (f.length : Int) - 1
    · simp only [decide_eq_true h2, if_true, if_pos h2.1, if_pos (show b < (f.length : Int) by omega), Bool.true_and, rdB_toNat]
      exact Ev.now _
    · simp only [decide_eq_false h2, Bool.false_eq_true, if_false, Bool.false_and]
      exact Ev.now _
  · simp only [if_neg h, Bool.eq_false_iff.mpr h, Bool.false_and]
    exact Ev.now _
def progOk (f : List S83) (b a : Int) (t : ByteArray) : Bool := useB f b && (decide (0 ≤ a ∧ a ≤ 3) && (decide (a = nextB (f.getD b.toNat z83).f2) && decide (1 ≤ (t.size : Int) ∧ (t.size : Int) ≤ 120)))
def progB (f : List S83) (b a : Int) (t : ByteArray) : List S83 := f.set b.toNat ⟨(f.getD b.toNat z83).f0, (f.getD b.toNat z83).f1, (f.getD b.toNat z83).f2.set a.toNat ⟨1, t⟩⟩
def programB (f : List S83) (b a : Int) (t : ByteArray) : List S83 × Bool := if progOk f b a t = true then (progB f b a t, true) else (f, false)
def wipeOk (f : List S83) (b : Int) : Bool := useB f b && !decide ((f.getD b.toNat z83).f1 = 1000000000)
def wipedB (f : List S83) (b : Int) : List S83 := f.set b.toNat ⟨false, wrap64 ((f.getD b.toNat z83).f1 + 1), List.replicate 4 z101⟩
def wipeB (f : List S83) (b : Int) : List S83 × Bool := if wipeOk f b = true then (wipedB f b, true) else (f, false)
theorem use_of {f : List S83} {b : Int} (h : useB f b = true) : flashB f = true ∧ 0 ≤ b ∧ b.toNat < f.length ∧ b < (f.length : Int) ∧ (f.getD b.toNat z83).f0 = false := by
  unfold useB at h
  simp only [Bool.and_eq_true, decide_eq_true_eq, Bool.not_eq_true'] at h
  exact ⟨h.1, h.2.1.1, by omega, by omega, h.2.2⟩
theorem four_of {f : List S83} (h : flashB f = true) {i : Nat} (hi : i < f.length) : (f.getD i z83).f2.length = 4 := by
  unfold flashB at h
  simp only [Bool.and_eq_true, List.all_eq_true] at h
  have := h.1 i (by simp; omega)
  unfold blockB at this
  simp only [Bool.and_eq_true, decide_eq_true_eq] at this
  exact this.1
theorem nextB_range (ls : List S101) : 0 ≤ nextB ls := by
  unfold nextB
  rcases findI_range (T := fun i => blankL (ls.getD i z101)) ls.length 0 with h | ⟨j, _, _, h, _⟩
  · simp only [h]; decide
  · simp only [h]
    rw [if_neg (by omega)]
    omega
theorem iProgram_ev (f : List S83) (b a : Int) (t : ByteArray) (hn : f.length ≤ 1048576) (hk : ∀ x ∈ f, x.f2.length ≤ 1048576) : Ev (fun k => impl_Program.f k f b a t) (programB f b a t) := by
  unfold impl_Program.f programB progOk progB
  refine ev_bind (iCopyF_ev f hn hk) (ev_bind (iUse_ev f b hn hk) ?_)
  by_cases hu : useB f b = true
  · obtain ⟨u1, u2, u3, u4, u5⟩ := use_of hu
    have h4 := four_of u1 u3
    simp only [hu, if_true, inF_eq, Option.bind_some, Bool.true_and]
    by_cases ha : 0 ≤ a ∧ a ≤ 3
    · simp only [decide_eq_true ha, if_true, if_pos u2, if_pos u4, Bool.true_and, rdB_toNat]
      refine ev_bind (iNext_ev _ _ _ (by omega)) ?_
      by_cases hx : a = nextB (f.getD b.toNat z83).f2
      · simp only [if_pos hx, decide_eq_true hx, Bool.true_and]
        by_cases ht : 1 ≤ (t.size : Int) ∧ (t.size : Int) ≤ 120
        · have hlt : a < ((f.getD b.toNat z83).f2.length : Int) := by omega
          simp only [decide_eq_true ht, if_true, if_pos ha.1]
          exact ⟨0, fun k _ => if_pos hlt⟩
        · simp only [decide_eq_false ht, Bool.false_eq_true, if_false]
          exact Ev.now _
      · simp only [if_neg hx, decide_eq_false hx, Bool.false_and, Bool.false_eq_true, if_false]
        exact Ev.now _
    · simp only [decide_eq_false ha, Bool.false_and, Bool.false_eq_true, if_false]
      exact Ev.now _
  · simp only [Bool.eq_false_iff.mpr hu, Bool.false_and, Bool.false_eq_true, if_false]
    exact Ev.now _
theorem sProgram_ev (f : List S83) (b a : Int) (t : ByteArray) (hn : f.length ≤ 1048576) (hk : ∀ x ∈ f, x.f2.length ≤ 1048576) : Ev (fun k => spec_Program.f k f b a t) (programB f b a t) := by
  unfold spec_Program.f programB progOk useB progB
  refine ev_bind (sCopyF_ev f hn hk) (ev_bind (sFlashOk_ev f hn hk) ?_)
  by_cases h : flashB f = true
  · simp only [h, if_true, Bool.true_and]
    unfold spec_l05May.f
    simp only [l01InF_eq, Option.bind_some, w64 (x := (f.length : Int) - 1) (by omega) (by omega), Option.bind_assoc]
    by_cases h2 : 0 ≤ b ∧ b ≤ (f.length : Int) - 1
    · have u3 : b.toNat < f.length := by omega
      have h4 := four_of h u3
      simp only [decide_eq_true h2, if_true, if_pos h2.1, if_pos (show b < (f.length : Int) by omega), Bool.true_and, rdB_toNat]
      by_cases hb : (f.getD b.toNat z83).f0 = true
      · simp only [hb, if_true, Option.bind_some, Bool.false_eq_true, if_false, Bool.not_true, Bool.false_and]
        exact Ev.now _
      · simp only [Bool.eq_false_iff.mpr hb, Bool.false_eq_true, if_false, Bool.not_false, Bool.true_and]
        by_cases ha : a < 4
        · simp only [if_pos ha, Option.bind_assoc]
          refine ev_bind (sNext_ev _ _ _ (by omega)) ?_
          by_cases hx : a = nextB (f.getD b.toNat z83).f2
          · have h0 : 0 ≤ a := by rw [hx]; exact nextB_range _
            simp only [if_pos hx, decide_eq_true hx, decide_eq_true (show 0 ≤ a ∧ a ≤ 3 from ⟨h0, by omega⟩), Bool.true_and, Option.bind_some]
            by_cases ht : 1 ≤ (t.size : Int) ∧ (t.size : Int) ≤ 120
            · simp only [decide_eq_true ht, if_true, if_pos h0, if_pos (show a < ((f.getD b.toNat z83).f2.length : Int) by omega)]
              exact Ev.now _
            · simp only [decide_eq_false ht, Bool.false_eq_true, if_false]
              exact Ev.now _
          · simp only [if_neg hx, decide_eq_false hx, Bool.false_and, Bool.and_false, Bool.false_eq_true, if_false, Option.bind_some]
            exact Ev.now _
        · simp only [if_neg ha, decide_eq_false (show ¬ (0 ≤ a ∧ a ≤ 3) by omega), Bool.false_and, Bool.false_eq_true, if_false, Option.bind_some]
          exact Ev.now _
    · simp only [decide_eq_false h2, Bool.false_and, Bool.false_eq_true, if_false, Option.bind_some]
      exact Ev.now _
  · simp only [Bool.eq_false_iff.mpr h, Bool.false_and, Bool.false_eq_true, if_false]
    exact Ev.now _
theorem blank_eq : impl_blankLeaves.f = some (List.replicate 4 z101) := by unfold impl_blankLeaves.f; rw [if_pos (by omega)]
theorem iWipe_ev (f : List S83) (b : Int) (hn : f.length ≤ 1048576) (hk : ∀ x ∈ f, x.f2.length ≤ 1048576) : Ev (fun k => impl_Wipe.f k f b) (wipeB f b) := by
  unfold impl_Wipe.f wipeB wipeOk wipedB
  refine ev_bind (iCopyF_ev f hn hk) (ev_bind (iUse_ev f b hn hk) ?_)
  by_cases hu : useB f b = true
  · obtain ⟨u1, u2, u3, u4, u5⟩ := use_of hu
    have e1 : ∀ v, rd_T83 (f.set b.toNat v) b = v := fun v => getD_set_self u3
    simp only [hu, if_true, Bool.true_and, if_pos u2, if_pos u4, rdB_toNat]
    by_cases hw : (f.getD b.toNat z83).f1 = 1000000000
    · simp only [if_pos hw, decide_eq_true hw, Bool.not_true, Bool.false_eq_true, if_false]
      exact Ev.now _
    · simp only [if_neg hw, decide_eq_false hw, Bool.not_false, if_true, blank_eq, Option.bind_some]
      simp only [← rdB_toNat, e1, List.set_set]
      rw [rdB_toNat, u5]
      exact Ev.now _
  · simp only [Bool.eq_false_iff.mpr hu, Bool.false_and, Bool.false_eq_true, if_false]
    exact Ev.now _
theorem sWipe_ev (f : List S83) (b : Int) (hn : f.length ≤ 1048576) (hk : ∀ x ∈ f, x.f2.length ≤ 1048576) : Ev (fun k => spec_Wipe.f k f b) (wipeB f b) := by
  unfold spec_Wipe.f wipeB wipeOk wipedB useB
  refine ev_bind (sCopyF_ev f hn hk) (ev_bind (sFlashOk_ev f hn hk) ?_)
  by_cases h : flashB f = true
  · simp only [h, if_true, Bool.true_and, l01InF_eq, Option.bind_some, w64 (x := (f.length : Int) - 1) (by omega) (by omega)]
    by_cases h2 : 0 ≤ b ∧ b ≤ (f.length : Int) - 1
    · simp only [decide_eq_true h2, if_true, if_pos h2.1, if_pos (show b < (f.length : Int) by omega), Bool.true_and, rdB_toNat, if_pos (show 4 ≤ 11728124029610 by omega)]
      by_cases hb : (f.getD b.toNat z83).f0 = true
      · simp only [hb, if_true, Bool.not_true, Bool.false_and, Bool.false_eq_true, if_false]
        exact Ev.now _
      · simp only [Bool.eq_false_iff.mpr hb, Bool.false_eq_true, if_false, Bool.not_false, Bool.true_and]
        by_cases hw : (f.getD b.toNat z83).f1 = 1000000000
        · simp only [if_pos hw, decide_eq_true hw, Bool.not_true, Bool.false_eq_true, if_false]
          exact Ev.now _
        · simp only [if_neg hw, decide_eq_false hw, Bool.not_false, if_true]
          exact Ev.now _
    · simp only [decide_eq_false h2, Bool.false_and, Bool.false_eq_true, if_false]
      exact Ev.now _
  · simp only [Bool.eq_false_iff.mpr h, Bool.false_and, Bool.false_eq_true, if_false]
    exact Ev.now _
/-- A step. -/
def doB (f : List S83) (kd b a : Int) (t : ByteArray) : List S83 × Bool := if kd = 1 then programB f b a t else if kd = 2 then wipeB f b else (f, false)
theorem iDo_ev (f : List S83) (kd b a : Int) (t : ByteArray) (hn : f.length ≤ 1048576) (hk : ∀ x ∈ f, x.f2.length ≤ 1048576) : Ev (fun k => impl_DoStep.f k f kd b a t) (doB f kd b a t) := by
  unfold impl_DoStep.f doB
  by_cases h1 : kd = 1
  · simp only [if_pos h1]
    exact ev_bind (iProgram_ev f b a t hn hk) (Ev.now _)
  · simp only [if_neg h1]
    by_cases h2 : kd = 2
    · simp only [if_pos h2]
      exact ev_bind (iWipe_ev f b hn hk) (Ev.now _)
    · simp only [if_neg h2]
      exact ev_bind (iCopyF_ev f hn hk) (Ev.now _)
theorem sDo_ev (f : List S83) (kd b a : Int) (t : ByteArray) (hn : f.length ≤ 1048576) (hk : ∀ x ∈ f, x.f2.length ≤ 1048576) : Ev (fun k => spec_DoStep.f k f kd b a t) (doB f kd b a t) := by
  unfold spec_DoStep.f doB
  by_cases h1 : kd = 1
  · simp only [if_pos h1]
    exact ev_bind (sProgram_ev f b a t hn hk) (Ev.now _)
  · simp only [if_neg h1]
    by_cases h2 : kd = 2
    · simp only [if_pos h2]
      exact ev_bind (sWipe_ev f b hn hk) (Ev.now _)
    · simp only [if_neg h2]
      exact ev_bind (sCopyF_ev f hn hk) (Ev.now _)
theorem doB_le {f : List S83} (kd b a : Int) (t : ByteArray) (hn : f.length ≤ 1048576) (hk : ∀ x ∈ f, x.f2.length ≤ 1048576) : (doB f kd b a t).1.length ≤ 1048576 ∧ ∀ x ∈ (doB f kd b a t).1, x.f2.length ≤ 1048576 := by
  have hset : ∀ (i : Nat) (x : S83), x.f2.length ≤ 1048576 → (f.set i x).length ≤ 1048576 ∧ ∀ y ∈ f.set i x, y.f2.length ≤ 1048576 := fun i x hx => ⟨by rw [List.length_set]; exact hn, fun y hy => by
    rcases List.mem_or_eq_of_mem_set hy with h | h
    · exact hk y h
    · rw [h]; exact hx⟩
  have hz : ∀ i, (f.getD i z83).f2.length ≤ 1048576 := fun i => by
    by_cases hi : i < f.length
    · exact hk _ (getD_mem' hi)
    · rw [List.getD_eq_getElem?_getD, List.getElem?_eq_none (by omega)]; exact Nat.zero_le _
  unfold doB programB wipeB progB wipedB
  split
  · split
    · exact hset _ _ (by rw [List.length_set]; exact hz _)
    · exact ⟨hn, hk⟩
  · split
    · split
      · exact hset _ _ (by simp)
      · exact ⟨hn, hk⟩
    · exact ⟨hn, hk⟩
theorem rdS_nat (l : List S56) (i : Nat) : rd_T56 l (i : Int) = l.getD i z56 := rfl
/-- Steps, as long as they are done. -/
def runB (L : List S56) : Nat → Nat → List S83 → List S83 × Int
  | 0, _, f => (f, (L.length : Int))
  | d + 1, i, f => if (doB f (L.getD i z56).f0 (L.getD i z56).f1 (L.getD i z56).f2 (L.getD i z56).f3).2 = true then runB L d (i + 1) (doB f (L.getD i z56).f0 (L.getD i z56).f1 (L.getD i z56).f2 (L.getD i z56).f3).1 else (f, (i : Int))
theorem runB_le (L : List S56) : ∀ (d i : Nat) (f : List S83), f.length ≤ 1048576 → (∀ x ∈ f, x.f2.length ≤ 1048576) → (runB L d i f).1.length ≤ 1048576 ∧ ∀ x ∈ (runB L d i f).1, x.f2.length ≤ 1048576
  | 0, _, f, h, hk => ⟨h, hk⟩
  | d + 1, i, f, h, hk => by
    unfold runB
    split
    · have hb := doB_le (L.getD i z56).f0 (L.getD i z56).f1 (L.getD i z56).f2 (L.getD i z56).f3 h hk
      exact runB_le L d (i + 1) _ hb.1 hb.2
    · exact ⟨h, hk⟩
theorem iSteps_ev (f : List S83) (L : List S56) (hn : f.length ≤ 1048576) (hk : ∀ x ∈ f, x.f2.length ≤ 1048576) (hL : L.length ≤ 1048576) : Ev (fun k => impl_DoSteps.f k f L) (runB L L.length 0 f) := by
  have main : ∀ (d i : Nat) (f : List S83), i + d = L.length → f.length ≤ 1048576 → (∀ x ∈ f, x.f2.length ≤ 1048576) → Ev (fun k => impl_DoSteps.l0 k L L (L.length : Int) (i : Int) f) (runB L d i f) := by
    intro d
    induction d with
    | zero => intro i f hi _ _; exact ev_some fun k => by simp only [impl_DoSteps.l0]; rw [if_neg (by omega)]; rfl
    | succ d ih =>
      intro i f hi h hk
      unfold runB
      refine Ev.step (f := fun k => (impl_DoStep.f k f (L.getD i z56).f0 (L.getD i z56).f1 (L.getD i z56).f2 (L.getD i z56).f3).bind fun bt => if bt.2 = true then impl_DoSteps.l0 k L L (L.length : Int) ((i + 1 : Nat) : Int) bt.1 else some (f, (i : Int))) (fun k => ?_) (ev_bind (iDo_ev f _ _ _ _ h hk) ?_)
      · simp only [impl_DoSteps.l0]
        rw [if_pos (by omega), if_pos (by omega), if_pos (by omega), rdS_nat, wsucc (n := L.length) (by omega) (by omega)]
      · have hb := doB_le (L.getD i z56).f0 (L.getD i z56).f1 (L.getD i z56).f2 (L.getD i z56).f3 h hk
        by_cases hd : (doB f (L.getD i z56).f0 (L.getD i z56).f1 (L.getD i z56).f2 (L.getD i z56).f3).2 = true
        · simp only [if_pos hd]
          exact ih (i + 1) _ (by omega) hb.1 hb.2
        · simp only [if_neg hd]
          exact Ev.now _
  unfold impl_DoSteps.f
  exact ev_bind (iCopyF_ev f hn hk) (main L.length 0 f (by omega) hn hk)
theorem sSteps_ev (f : List S83) (L : List S56) (hn : f.length ≤ 1048576) (hk : ∀ x ∈ f, x.f2.length ≤ 1048576) (hL : L.length ≤ 1048576) : Ev (fun k => spec_DoSteps.f k f L) (runB L L.length 0 f) := by
  have main : ∀ (d i : Nat) (f : List S83), i + d = L.length → f.length ≤ 1048576 → (∀ x ∈ f, x.f2.length ≤ 1048576) → Ev (fun k => spec_DoSteps.l0 k L (i : Int) f) (runB L d i f) := by
    intro d
    induction d with
    | zero => intro i f hi _ _; exact ev_some fun k => by simp only [spec_DoSteps.l0]; rw [if_neg (by omega)]; rfl
    | succ d ih =>
      intro i f hi h hk
      unfold runB
      refine Ev.step (f := fun k => (spec_DoStep.f k f (L.getD i z56).f0 (L.getD i z56).f1 (L.getD i z56).f2 (L.getD i z56).f3).bind fun bt => if bt.2 = true then spec_DoSteps.l0 k L ((i + 1 : Nat) : Int) bt.1 else some (f, (i : Int))) (fun k => ?_) (ev_bind (sDo_ev f _ _ _ _ h hk) ?_)
      · simp only [spec_DoSteps.l0]
        rw [if_pos (by omega), if_pos (by omega), rdS_nat, wsucc (n := L.length) (by omega) (by omega)]
      · have hb := doB_le (L.getD i z56).f0 (L.getD i z56).f1 (L.getD i z56).f2 (L.getD i z56).f3 h hk
        by_cases hd : (doB f (L.getD i z56).f0 (L.getD i z56).f1 (L.getD i z56).f2 (L.getD i z56).f3).2 = true
        · simp only [if_pos hd]
          exact ih (i + 1) _ (by omega) hb.1 hb.2
        · simp only [if_neg hd]
          exact Ev.now _
  unfold spec_DoSteps.f
  exact ev_bind (sCopyF_ev f hn hk) (main L.length 0 f (by omega) hn hk)
end Go.Proofs.Ytklkhnomnanpoaa.Pu

/- Right flashes stay right: what is wiped, written, torn, or marked bad. -/
namespace Go.Proofs.Ytklkhnomnanpoaa.Pu
set_option linter.unusedVariables false
set_option linter.unusedSimpArgs false
open Go.RowKit Go.Proofs.Ytklkhnomnanpoaa.PK Go.Proofs.YtklkhnomnanpoaaW.PrintWords

theorem getD_setB {α : Type} {l : List α} {c : Nat} (i : Nat) (v z : α) (hc : c < l.length) : (l.set c v).getD i z = if c = i then v else l.getD i z := by
  rw [List.getD_eq_getElem?_getD, List.getD_eq_getElem?_getD, List.getElem?_set]
  by_cases h : c = i
  · subst h; simp [hc]
  · rw [if_neg h, if_neg h]
theorem findI_first {T : Nat → Bool} : ∀ (d i : Nat) {j : Nat}, findI T i d = (j : Int) → ∀ m, i ≤ m → m < j → T m = false
  | 0, i, j, h, m, h1, h2 => by unfold findI at h; omega
  | d + 1, i, j, h, m, h1, h2 => by
    unfold findI at h
    by_cases ht : T i = true
    · rw [if_pos ht] at h; omega
    · rw [if_neg ht] at h
      by_cases e : m = i
      · subst e; exact Bool.eq_false_iff.mpr ht
      · exact findI_first d (i + 1) h m (by omega) h2
theorem findI_none {T : Nat → Bool} : ∀ (d i : Nat), findI T i d = -1 → ∀ m, i ≤ m → m < i + d → T m = false
  | 0, i, h, m, h1, h2 => by omega
  | d + 1, i, h, m, h1, h2 => by
    unfold findI at h
    by_cases ht : T i = true
    · rw [if_pos ht] at h; omega
    · rw [if_neg ht] at h
      by_cases e : m = i
      · subst e; exact Bool.eq_false_iff.mpr ht
      · exact findI_none d (i + 1) h m (by omega) (by omega)
/-- The next blank leaf: none, or the first one. -/
theorem next_spec (ls : List S101) : (nextB ls = 4 ∧ ∀ i, i < ls.length → blankL (ls.getD i z101) = false) ∨ ∃ t : Nat, t < ls.length ∧ nextB ls = (t : Int) ∧ blankL (ls.getD t z101) = true ∧ ∀ i, i < t → blankL (ls.getD i z101) = false := by
  unfold nextB
  rcases findI_range (T := fun i => blankL (ls.getD i z101)) ls.length 0 with h | ⟨j, _, h2, h3, h4⟩
  · left
    simp only [h, if_true]
    exact ⟨trivial, fun i hi => findI_none _ _ h i (Nat.zero_le _) (by omega)⟩
  · right
    simp only [h3, if_neg (show ¬ (j : Int) = -1 by omega)]
    exact ⟨j, by omega, rfl, h4, fun i hi => findI_first _ _ h3 i (Nat.zero_le _) hi⟩
theorem block_iff {b : S83} : blockB b = true ↔ b.f2.length = 4 ∧ (0 ≤ b.f1 ∧ b.f1 ≤ 1000000000) ∧ ∀ i, i < 4 → stepB b.f2 i = true := by
  unfold blockB
  rw [Bool.and_eq_true, Bool.and_eq_true, decide_eq_true_eq, decide_eq_true_eq, List.all_eq_true]
  constructor
  · rintro ⟨h1, h2, h3⟩
    exact ⟨h1, h2, fun i hi => h3 i (by simp; omega)⟩
  · rintro ⟨h1, h2, h3⟩
    exact ⟨h1, h2, fun i hi => h3 i (by simp at hi; omega)⟩
theorem flash_iff {f : List S83} : flashB f = true ↔ (∀ i, i < f.length → blockB (f.getD i z83) = true) ∧ 3 ≤ f.length ∧ f.length ≤ 10 := by
  unfold flashB
  rw [Bool.and_eq_true, decide_eq_true_eq, List.all_eq_true]
  constructor
  · rintro ⟨h1, h2, h3⟩
    exact ⟨fun i hi => h1 i (by simp; omega), by omega, by omega⟩
  · rintro ⟨h1, h2, h3⟩
    exact ⟨fun i hi => h1 i (by simp at hi; omega), by omega, by omega⟩
theorem flash_set {f : List S83} {i : Nat} {y : S83} (h : flashB f = true) (hi : i < f.length) (hy : blockB y = true) : flashB (f.set i y) = true := by
  obtain ⟨h1, h2, h3⟩ := flash_iff.1 h
  refine flash_iff.2 ⟨fun j hj => ?_, by rw [List.length_set]; exact h2, by rw [List.length_set]; exact h3⟩
  rw [List.length_set] at hj
  rw [getD_setB _ _ _ hi]
  by_cases e : i = j
  · rw [if_pos e]; exact hy
  · rw [if_neg e]; exact h1 j hj
theorem flash_small {f : List S83} (h : flashB f = true) : f.length ≤ 1048576 ∧ ∀ x ∈ f, x.f2.length ≤ 1048576 := by
  obtain ⟨h1, h2, h3⟩ := flash_iff.1 h
  refine ⟨by omega, fun x hx => ?_⟩
  obtain ⟨i, hi, rfl⟩ := List.getElem_of_mem hx
  have h4 := (block_iff.1 (h1 i hi)).1
  rw [List.getD_eq_getElem?_getD, List.getElem?_eq_getElem hi] at h4
  have h5 : f[i].f2.length = 4 := h4
  omega
/-- A leaf that is no longer blank, at the next blank place. -/
theorem block_fill {b : S83} {t : Nat} {y : S101} (h : blockB b = true) (ht : t < 4) (hp : ∀ i, i < t → blankL (b.f2.getD i z101) = false) (hy : leafB y = true) (hn : ¬ y.f0 = 0) : blockB ⟨b.f0, b.f1, b.f2.set t y⟩ = true := by
  obtain ⟨h1, h2, h3⟩ := block_iff.1 h
  refine block_iff.2 ⟨by show (b.f2.set t y).length = 4; rw [List.length_set]; exact h1, h2, fun i hi => ?_⟩
  have hs := h3 i hi
  show stepB (b.f2.set t y) i = true
  unfold stepB at hs ⊢
  rw [Bool.and_eq_true] at hs ⊢
  rw [getD_setB i _ _ (by omega), getD_setB (i - 1) _ _ (by omega)]
  by_cases e : t = i
  · rw [if_pos e]
    refine ⟨hy, ?_⟩
    by_cases e0 : i = 0
    · rw [decide_eq_true e0]; rfl
    · have h4 := hp (i - 1) (by omega)
      unfold blankL at h4
      rw [if_neg (by omega), h4]; simp
  · rw [if_neg e]
    refine ⟨hs.1, ?_⟩
    by_cases e1 : t = i - 1
    · rw [if_pos e1, decide_eq_false hn]; simp
    · rw [if_neg e1]; exact hs.2
theorem block_blank (b : Bool) {n : Int} (h0 : 0 ≤ n) (h1 : n ≤ 1000000000) : blockB ⟨b, n, List.replicate 4 z101⟩ = true := by
  refine block_iff.2 ⟨rfl, ⟨h0, h1⟩, fun i hi => ?_⟩
  have : i = 0 ∨ i = 1 ∨ i = 2 ∨ i = 3 := by omega
  rcases this with rfl | rfl | rfl | rfl
  · exact (by decide : stepB (List.replicate 4 z101) 0 = true)
  · exact (by decide : stepB (List.replicate 4 z101) 1 = true)
  · exact (by decide : stepB (List.replicate 4 z101) 2 = true)
  · exact (by decide : stepB (List.replicate 4 z101) 3 = true)
theorem wipe_right {f : List S83} (b : Int) (h : flashB f = true) : flashB (wipeB f b).1 = true ∧ (wipeB f b).1.length = f.length := by
  unfold wipeB
  by_cases hw : wipeOk f b = true
  · rw [if_pos hw]
    unfold wipeOk at hw
    rw [Bool.and_eq_true, Bool.not_eq_true', decide_eq_false_iff_not] at hw
    obtain ⟨h1, h2, h3, h4, h5⟩ := use_of hw.1
    obtain ⟨_, ⟨w0, w1⟩, _⟩ := block_iff.1 ((flash_iff.1 h).1 b.toNat h3)
    have hq := hw.2
    refine ⟨?_, by show (List.set _ _ _).length = _; rw [List.length_set]⟩
    show flashB (f.set b.toNat _) = true
    rw [w64 (by omega) (by omega)]
    exact flash_set h h3 (block_blank false (by omega) (by omega))
  · rw [if_neg hw]; exact ⟨h, rfl⟩
theorem prog_right {f : List S83} (b a : Int) (t : ByteArray) (h : flashB f = true) : flashB (programB f b a t).1 = true ∧ (programB f b a t).1.length = f.length := by
  unfold programB
  by_cases hw : progOk f b a t = true
  · rw [if_pos hw]
    unfold progOk at hw
    simp only [Bool.and_eq_true, decide_eq_true_eq] at hw
    obtain ⟨hu, ⟨a0, a3⟩, ha, ht⟩ := hw
    obtain ⟨h1, h2, h3, h4, h5⟩ := use_of hu
    refine ⟨?_, by show (List.set _ _ _).length = _; rw [List.length_set]⟩
    show flashB (f.set b.toNat _) = true
    refine flash_set h h3 (block_fill ((flash_iff.1 h).1 b.toNat h3) (by omega) (fun i hi => ?_) ?_ (by show ¬ (1 : Int) = 0; decide))
    · rcases next_spec (f.getD b.toNat z83).f2 with ⟨n4, _⟩ | ⟨j, _, n1, _, n3⟩
      · omega
      · exact n3 i (by omega)
    · unfold leafB
      rw [if_neg (by show ¬ (1 : Int) = 0; decide), if_pos rfl]
      exact decide_eq_true ht
  · rw [if_neg hw]; exact ⟨h, rfl⟩
end Go.Proofs.Ytklkhnomnanpoaa.Pu

/- A drawn flash is right. -/
namespace Go.Proofs.Ytklkhnomnanpoaa.Pu
set_option linter.unusedVariables false
set_option linter.unusedSimpArgs false
open Go.RowKit Go.Proofs.Ytklkhnomnanpoaa.PK Go.Proofs.YtklkhnomnanpoaaW.PrintWords

theorem flashNew_ev (n : Int) (h0 : 3 ≤ n) (h1 : n ≤ 10) : Ev (fun k => spec_FlashNew.f k n) (List.replicate n.toNat ⟨false, 0, List.replicate 4 z101⟩, true) := by
  unfold spec_FlashNew.f
  simp only [l01InF_eq, Option.bind_some, decide_eq_true (show 3 ≤ n ∧ n ≤ 10 from ⟨h0, h1⟩), if_true]
  have main : ∀ (d i : Nat) (acc : List S83), (i : Int) + d = n → acc.length = i → Ev (fun k => spec_FlashNew.l0 k n (i : Int) acc) (acc ++ List.replicate d ⟨false, 0, List.replicate 4 z101⟩, true) := by
    intro d
    induction d with
    | zero => intro i acc hi hl; exact ev_some fun k => by simp only [spec_FlashNew.l0]; rw [if_neg (by omega)]; simp
    | succ d ih =>
      intro i acc hi hl
      have h := ih (i + 1) (acc ++ [⟨false, 0, List.replicate 4 z101⟩]) (by omega) (by simp; omega)
      rw [List.append_assoc, List.singleton_append] at h
      refine Ev.step (fun k => ?_) h
      simp only [spec_FlashNew.l0]
      rw [if_pos (by omega), if_pos (by omega), if_pos (by omega), wsucc (n := 10) (by omega) (by omega)]
  have h := main n.toNat 0 [] (by omega) rfl
  rw [List.nil_append] at h
  exact h
theorem new_right {n : Int} (h0 : 3 ≤ n) (h1 : n ≤ 10) : flashB (List.replicate n.toNat ⟨false, 0, List.replicate 4 z101⟩) = true := by
  refine flash_iff.2 ⟨fun i hi => ?_, by rw [List.length_replicate]; omega, by rw [List.length_replicate]; omega⟩
  rw [List.length_replicate] at hi
  rw [List.getD_eq_getElem?_getD, List.getElem?_replicate, if_pos hi]
  exact block_blank false (by decide) (by decide)
theorem markBad_ev (f : List S83) (b : Int) (h : flashB f = true) : ∃ g, Ev (fun k => spec_MarkBad.f k f b) g ∧ flashB g = true ∧ g.length = f.length := by
  obtain ⟨hn, hk⟩ := flash_small h
  obtain ⟨_, l3, l10⟩ := flash_iff.1 h
  unfold spec_MarkBad.f
  simp only [l01InF_eq, Option.bind_some, w64 (x := (f.length : Int) - 1) (by omega) (by omega)]
  by_cases hb : 0 ≤ b ∧ b ≤ (f.length : Int) - 1
  · have hi : b.toNat < f.length := by omega
    obtain ⟨h1, h2, h3⟩ := block_iff.1 ((flash_iff.1 h).1 b.toNat hi)
    refine ⟨f.set b.toNat ⟨true, (f.getD b.toNat z83).f1, (f.getD b.toNat z83).f2⟩, ev_bind (sCopyF_ev f hn hk) ?_, flash_set h hi (block_iff.2 ⟨h1, h2, h3⟩), List.length_set⟩
    simp only [decide_eq_true hb, if_true, if_pos hb.1, if_pos (show b < (f.length : Int) by omega), rdB_toNat]
    exact Ev.now _
  · refine ⟨f, ev_bind (sCopyF_ev f hn hk) ?_, h, rfl⟩
    simp only [decide_eq_false hb, Bool.false_eq_true, if_false]
    exact Ev.now _
theorem torn_right {f : List S83} {b : Int} (h : flashB f = true) (h0 : 0 ≤ b) (h1 : b < (f.length : Int)) (ht : nextB (f.getD b.toNat z83).f2 < 4) (y : S101) (hy : leafB y = true) (hn : ¬ y.f0 = 0) :
    flashB (f.set b.toNat ⟨(f.getD b.toNat z83).f0, (f.getD b.toNat z83).f1, (f.getD b.toNat z83).f2.set (nextB (f.getD b.toNat z83).f2).toNat y⟩) = true := by
  have hi : b.toNat < f.length := by omega
  refine flash_set h hi (block_fill ((flash_iff.1 h).1 b.toNat hi) (by have := nextB_range (f.getD b.toNat z83).f2; omega) (fun i hi2 => ?_) hy hn)
  rcases next_spec (f.getD b.toNat z83).f2 with ⟨n4, _⟩ | ⟨j, _, n1, _, n3⟩
  · omega
  · exact n3 i (by omega)
theorem flash_draw (b : List Int) (i h : Int) (h0 : 0 ≤ i) (h1 : i ≤ b.length) (hb : b.length ≤ 9223372036854775807) : ∃ f i' h', Ev (fun k => spec_l05Flash.f k b i h) (f, i', h') ∧ flashB f = true ∧ 0 ≤ i' ∧ i' ≤ b.length := by
  unfold spec_l05Flash.f
  obtain ⟨v, i1, g1, e1, ⟨v0, v1⟩, a1, b1⟩ := below_eq b i h 5 h0 h1 hb (by omega)
  rw [e1]
  simp only [Option.bind_some, w64 (x := 3 + v) (by omega) (by omega)]
  have last : ∀ (f : List S83) (j g : Int), flashB f = true → 0 ≤ j → j ≤ b.length → ∃ f' i' h', Ev (fun k => (spec_l01Once.f b j g 4).bind fun bt237 => if bt237.1 = true then (spec_l01Below.f b bt237.2.1 bt237.2.2 (f.length : Int)).bind fun bt240 => (spec_MarkBad.f k f bt240.1).bind fun t243 => some (t243, bt240.2.1, bt240.2.2) else some (f, bt237.2.1, bt237.2.2)) (f', i', h') ∧ flashB f' = true ∧ 0 ≤ i' ∧ i' ≤ b.length := by
    intro f j g hf hj0 hj1
    obtain ⟨_, l3, l10⟩ := flash_iff.1 hf
    obtain ⟨o, i2, g2, e2, a2, b2⟩ := once_draw b j g 4 hj0 hj1 hb (by omega)
    rw [e2]
    cases o with
    | true =>
      obtain ⟨x, i3, g3, e3, ⟨x0, x1⟩, a3, b3⟩ := below_eq b i2 g2 (f.length : Int) a2 b2 hb (by omega)
      obtain ⟨f', m1, m2, m3⟩ := markBad_ev f x hf
      refine ⟨f', i3, g3, ?_, m2, a3, b3⟩
      simp only [Option.bind_some, if_true, e3]
      exact ev_bind m1 (Ev.now _)
    | false =>
      refine ⟨f, i2, g2, ?_, hf, a2, b2⟩
      simp only [Option.bind_some, Bool.false_eq_true, if_false]
      exact Ev.now _
  have main : ∀ (d m : Nat) (f : List S83) (j g : Int), m + d = 20 → flashB f = true → 0 ≤ j → j ≤ b.length → ∃ f' i' h', Ev (fun k => spec_l05Flash.l0 k (m : Int) b j g f) (f', i', h') ∧ flashB f' = true ∧ 0 ≤ i' ∧ i' ≤ b.length := by
    intro d
    induction d with
    | zero =>
      intro m f j g hm hf hj0 hj1
      obtain ⟨x, i2, g2, e2, ⟨x0, x1⟩, a2, b2⟩ := below_eq b j g 20 hj0 hj1 hb (by omega)
      obtain ⟨f', i', h', l1, l2⟩ := last f i2 g2 hf a2 b2
      refine ⟨f', i', h', Ev.step (fun k => ?_) l1, l2⟩
      simp only [spec_l05Flash.l0, e2, Option.bind_some]
      rw [if_neg (by omega)]
    | succ d ih =>
      intro m f j g hm hf hj0 hj1
      obtain ⟨x, i2, g2, e2, ⟨x0, x1⟩, a2, b2⟩ := below_eq b j g 20 hj0 hj1 hb (by omega)
      by_cases hx : (m : Int) < x
      · obtain ⟨_, l3, l10⟩ := flash_iff.1 hf
        obtain ⟨hn, hk⟩ := flash_small hf
        obtain ⟨c, i3, g3, e3, ⟨c0, c1⟩, a3, b3⟩ := below_eq b i2 g2 (f.length : Int) a2 b2 hb (by omega)
        obtain ⟨s, i4, g4, e4, ⟨s0, s1⟩, a4, b4⟩ := below_eq b i3 g3 8 a3 b3 hb (by omega)
        have ci : c.toNat < f.length := by omega
        have hnx := sNext_ev (f.getD c.toNat z83).f0 (f.getD c.toNat z83).f1 (f.getD c.toNat z83).f2 (hk _ (getD_mem' ci))
        have ws : wrap64 ((m : Int) + 1) = ((m + 1 : Nat) : Int) := wsucc (n := 20) (by omega) (by omega)
        have l4 : (f.getD c.toNat z83).f2.length = 4 := (block_iff.1 ((flash_iff.1 hf).1 _ ci)).1
        have nr := nextB_range (f.getD c.toNat z83).f2
        by_cases k0 : s = 0
        · obtain ⟨w1, w2⟩ := wipe_right c hf
          obtain ⟨f', i', h', r1, r2⟩ := ih (m + 1) (wipeB f c).1 i4 g4 (by omega) w1 a4 b4
          refine ⟨f', i', h', Ev.step (f := fun k => (spec_Wipe.f k f c).bind fun bt213 => spec_l05Flash.l0 k ((m + 1 : Nat) : Int) b i4 g4 bt213.1) (fun k => ?_) (ev_bind (sWipe_ev f c hn hk) r1), r2⟩
          simp only [spec_l05Flash.l0, e2, e3, e4, Option.bind_some]
          rw [if_pos hx, if_pos k0, ws]
        · by_cases k1 : s = 1
          · by_cases ht : nextB (f.getD c.toNat z83).f2 < 4
            · obtain ⟨f', i', h', r1, r2⟩ := ih (m + 1) _ i4 g4 (by omega) (torn_right hf c0 c1 ht ⟨2, ⟨#[116, 111]⟩⟩ (by decide) (by decide)) a4 b4
              refine ⟨f', i', h', Ev.step (f := fun k => (spec_NextBlank.f k (f.getD c.toNat z83).f0 (f.getD c.toNat z83).f1 (f.getD c.toNat z83).f2).bind fun t218 => if t218 < 4 then (spec_NextBlank.f k (f.getD c.toNat z83).f0 (f.getD c.toNat z83).f1 (f.getD c.toNat z83).f2).bind fun t221 => (if 0 ≤ t221 then (if t221 < ((f.getD c.toNat z83).f2.length : Int) then spec_l05Flash.l0 k ((m + 1 : Nat) : Int) b i4 g4 (f.set c.toNat ⟨(f.getD c.toNat z83).f0, (f.getD c.toNat z83).f1, (f.getD c.toNat z83).f2.set t221.toNat ⟨2, ⟨#[116, 111]⟩⟩⟩) else none) else none) else spec_l05Flash.l0 k ((m + 1 : Nat) : Int) b i4 g4 f) (fun k => ?_) (ev_bind hnx ?_), r2⟩
              · simp only [spec_l05Flash.l0, e2, e3, e4, Option.bind_some]
                rw [if_pos hx, if_neg k0, if_pos k1, if_pos c0, if_pos c1, ws]
                rfl
              · simp only [if_pos ht]
                refine ev_bind hnx ?_
                simp only [if_pos nr, if_pos (show nextB (f.getD c.toNat z83).f2 < ((f.getD c.toNat z83).f2.length : Int) by omega)]
                exact r1
            · obtain ⟨f', i', h', r1, r2⟩ := ih (m + 1) f i4 g4 (by omega) hf a4 b4
              refine ⟨f', i', h', Ev.step (f := fun k => (spec_NextBlank.f k (f.getD c.toNat z83).f0 (f.getD c.toNat z83).f1 (f.getD c.toNat z83).f2).bind fun t218 => if t218 < 4 then (spec_NextBlank.f k (f.getD c.toNat z83).f0 (f.getD c.toNat z83).f1 (f.getD c.toNat z83).f2).bind fun t221 => (if 0 ≤ t221 then (if t221 < ((f.getD c.toNat z83).f2.length : Int) then spec_l05Flash.l0 k ((m + 1 : Nat) : Int) b i4 g4 (f.set c.toNat ⟨(f.getD c.toNat z83).f0, (f.getD c.toNat z83).f1, (f.getD c.toNat z83).f2.set t221.toNat ⟨2, ⟨#[116, 111]⟩⟩⟩) else none) else none) else spec_l05Flash.l0 k ((m + 1 : Nat) : Int) b i4 g4 f) (fun k => ?_) (ev_bind hnx ?_), r2⟩
              · simp only [spec_l05Flash.l0, e2, e3, e4, Option.bind_some]
                rw [if_pos hx, if_neg k0, if_pos k1, if_pos c0, if_pos c1, ws]
                rfl
              · simp only [if_neg ht]
                exact r1
          · obtain ⟨y, i5, g5, e5, ⟨y0, y1⟩, a5, b5⟩ := below_eq b i4 g4 5 a4 b4 hb (by omega)
            obtain ⟨u, i6, g6, t1, t2, a6, b6⟩ := textN_draw b i5 g5 (1 + y).toNat a5 b5 hb (by omega)
            rw [show (((1 + y).toNat : Nat) : Int) = 1 + y by omega] at t1
            obtain ⟨w1, w2⟩ := prog_right c (nextB (f.getD c.toNat z83).f2) u hf
            obtain ⟨f', i', h', r1, r2⟩ := ih (m + 1) (programB f c (nextB (f.getD c.toNat z83).f2) u).1 i6 g6 (by omega) w1 a6 b6
            refine ⟨f', i', h', Ev.step (f := fun k => (spec_NextBlank.f k (f.getD c.toNat z83).f0 (f.getD c.toNat z83).f1 (f.getD c.toNat z83).f2).bind fun t226 => (spec_l01Text.f k b i5 g5 (1 + y)).bind fun bt230 => (spec_Program.f k f c t226 bt230.1).bind fun bt233 => spec_l05Flash.l0 k ((m + 1 : Nat) : Int) b bt230.2.1 bt230.2.2 bt233.1) (fun k => ?_) (ev_bind hnx (ev_bind t1 (ev_bind (sProgram_ev f c _ u hn hk) r1))), r2⟩
            simp only [spec_l05Flash.l0, e2, e3, e4, e5, Option.bind_some, w64 (x := 1 + y) (by omega) (by omega)]
            rw [if_pos hx, if_neg k0, if_neg k1, if_pos c0, if_pos c1, ws]
            rfl
      · obtain ⟨f', i', h', l1, l2⟩ := last f i2 g2 hf a2 b2
        refine ⟨f', i', h', Ev.step (fun k => ?_) l1, l2⟩
        simp only [spec_l05Flash.l0, e2, Option.bind_some]
        rw [if_neg hx]
  obtain ⟨f', i', h', l1, l2⟩ := main 20 0 _ i1 g1 rfl (new_right (n := 3 + v) (by omega) (by omega)) a1 b1
  exact ⟨f', i', h', ev_bind (flashNew_ev (3 + v) (by omega) (by omega)) l1, l2⟩
end Go.Proofs.Ytklkhnomnanpoaa.Pu

/- Where to write next on a flash, as plain functions; the program's and the reference's answer them. -/
namespace Go.Proofs.Ytklkhnomnanpoaa.Pu
set_option linter.unusedVariables false
set_option linter.unusedSimpArgs false
open Go.RowKit Go.Proofs.Ytklkhnomnanpoaa.PK Go.Proofs.YtklkhnomnanpoaaW.PrintWords

def blanksN (ls : List S101) : Nat := (ls.filter blankL).length
def openT (f : List S83) (i : Nat) : Bool := !(f.getD i z83).f0 && (decide (0 < blanksN (f.getD i z83).f2) && decide (blanksN (f.getD i z83).f2 < (f.getD i z83).f2.length))
def openB (f : List S83) : Int := findI (openT f) 0 f.length
def freeT (f : List S83) (i : Nat) : Bool := !(f.getD i z83).f0 && (f.getD i z83).f2.all blankL
def freeL (f : List S83) : List Int := (List.range' 0 f.length).foldl (fun s i => if freeT f i = true then s ++ [(i : Int)] else s) []
def wearAt (f : List S83) (i : Int) : Int := (f.getD i.toNat z83).f1
def bestOf (f : List S83) (b : Int) (l : List Int) : Int := l.foldl (fun b i => if wearAt f i < wearAt f b then i else b) b
def placeR (f : List S83) : Int × Int × Bool :=
  if flashB f = true then (if 0 ≤ openB f then (openB f, nextB (f.getD (openB f).toNat z83).f2, true) else match freeL f with | [] => (0, 0, false) | b :: l => (bestOf f b l, 0, true)) else (0, 0, false)

theorem blanksN_le (ls : List S101) : blanksN ls ≤ ls.length := List.length_filter_le _ _
theorem take_succ' {α : Type} {l : List α} {i : Nat} (z : α) (h : i < l.length) : l.take (i + 1) = l.take i ++ [l.getD i z] := by
  rw [List.take_succ_eq_append_getElem h, List.getD_eq_getElem?_getD, List.getElem?_eq_getElem h]; rfl
theorem filter_succ {α : Type} {l : List α} {i : Nat} (z : α) (p : α → Bool) (h : i < l.length) : ((l.take (i + 1)).filter p).length = ((l.take i).filter p).length + if p (l.getD i z) = true then 1 else 0 := by
  rw [take_succ' z h, List.filter_append, List.length_append]
  generalize l.getD i z = y
  by_cases hp : p y = true <;> simp [List.filter_cons, hp]
theorem filter_split {α : Type} (p : α → Bool) : ∀ l : List α, (l.filter p).length + (l.filter fun x => !p x).length = l.length
  | [] => rfl
  | x :: l => by
    have := filter_split p l
    by_cases h : p x = true <;> simp [List.filter_cons, h] <;> omega
theorem sOpen_ev (f : List S83) (hn : f.length ≤ 1048576) (hk : ∀ x ∈ f, x.f2.length ≤ 1048576) : Ev (fun k => spec_OpenBlock.f k f) (openB f) := by
  have inner : ∀ (i : Nat) (r : Int), i < f.length → (∀ (k : Nat), True) → Ev (fun k => if (f.getD i z83).f0 = true then spec_OpenBlock.l0 k ((i + 1 : Nat) : Int) f else if ((blanksN (f.getD i z83).f2 : Nat) : Int) > 0 then (if (((f.getD i z83).f2.length : Nat) : Int) - ((blanksN (f.getD i z83).f2 : Nat) : Int) > 0 then some (i : Int) else spec_OpenBlock.l0 k ((i + 1 : Nat) : Int) f) else spec_OpenBlock.l0 k ((i + 1 : Nat) : Int) f) r → Ev (fun k => spec_OpenBlock.l0 k (i : Int) f) r := by
    intro i r hi _ hr
    have hb := hk _ (getD_mem' (z := z83) hi)
    have main : ∀ (d j : Nat), j + d = (f.getD i z83).f2.length → Ev (fun k => spec_OpenBlock.l1 k (i : Int) ((((f.getD i z83).f2.take j).filter blankL).length : Int) ((((f.getD i z83).f2.take j).filter fun x => !blankL x).length : Int) (j : Int) f) r := by
      intro d
      induction d with
      | zero =>
        intro j hj
        refine Ev.step (fun k => ?_) hr
        have hs := filter_split blankL (f.getD i z83).f2
        simp only [spec_OpenBlock.l1]
        rw [if_pos (by omega), if_pos (by omega), rdIB_nat, if_neg (by omega), List.take_of_length_le (by omega), wsucc (n := f.length) hi (by omega)]
        have e : (((f.getD i z83).f2.filter fun x => !blankL x).length : Int) = (((f.getD i z83).f2.length : Nat) : Int) - ((blanksN (f.getD i z83).f2 : Nat) : Int) := by unfold blanksN; omega
        rw [e]
        rfl
      | succ d ih =>
        intro j hj
        refine Ev.step (fun k => ?_) (ih (j + 1) (by omega))
        have h1 : (((f.getD i z83).f2.take j).filter blankL).length ≤ j := Nat.le_trans (List.length_filter_le _ _) (by rw [List.length_take]; omega)
        have h2 : (((f.getD i z83).f2.take j).filter fun x => !blankL x).length ≤ j := Nat.le_trans (List.length_filter_le _ _) (by rw [List.length_take]; omega)
        rw [filter_succ z101 blankL (by omega), filter_succ z101 (fun x => !blankL x) (by omega)]
        simp only [spec_OpenBlock.l1]
        rw [if_pos (by omega), if_pos (by omega), rdIB_nat, if_pos (by omega), if_pos (by omega), rdIL_nat, wsucc (n := (f.getD i z83).f2.length) (by omega) (by omega), w64 (by omega) (by omega), w64 (by omega) (by omega)]
        by_cases h : ((f.getD i z83).f2.getD j z101).f0 = 0
        · have hb2 : blankL ((f.getD i z83).f2.getD j z101) = true := decide_eq_true h
          rw [if_pos h, hb2]; simp
        · have hb2 : blankL ((f.getD i z83).f2.getD j z101) = false := decide_eq_false h
          rw [if_neg h, hb2]; simp
    refine Ev.step (fun k => ?_) (main _ 0 (Nat.zero_add _))
    simp only [spec_OpenBlock.l0]
    rw [if_pos (by omega)]
    rfl
  refine ev_find (L := fun k i => spec_OpenBlock.l0 k i f) (n := f.length) (T := openT f) (fun i hi ht => inner i _ hi (fun _ => trivial) ?_) (fun i hi ht r hr => inner i _ hi (fun _ => trivial) ?_) (ev_some fun k => by simp only [spec_OpenBlock.l0]; rw [if_neg (by omega)]) f.length 0 (by omega)
  · unfold openT at ht
    simp only [Bool.and_eq_true, Bool.not_eq_true', decide_eq_true_eq] at ht
    simp only [ht.1, Bool.false_eq_true, if_false, if_pos (show ((blanksN (f.getD i z83).f2 : Nat) : Int) > 0 by omega), if_pos (show (((f.getD i z83).f2.length : Nat) : Int) - ((blanksN (f.getD i z83).f2 : Nat) : Int) > 0 by omega)]
    exact Ev.now _
  · unfold openT at ht
    simp only [Bool.and_eq_false_iff, Bool.not_eq_false', decide_eq_false_iff_not] at ht
    by_cases hb : (f.getD i z83).f0 = true
    · simp only [if_pos hb]; exact hr
    · simp only [if_neg hb]
      by_cases h1 : ((blanksN (f.getD i z83).f2 : Nat) : Int) > 0
      · simp only [if_pos h1]
        by_cases h2 : (((f.getD i z83).f2.length : Nat) : Int) - ((blanksN (f.getD i z83).f2 : Nat) : Int) > 0
        · exfalso
          rcases ht with h3 | h3 | h3
          · exact hb h3
          · omega
          · omega
        · simp only [if_neg h2]; exact hr
      · simp only [if_neg h1]; exact hr
end Go.Proofs.Ytklkhnomnanpoaa.Pu

/- The free blocks of a flash and the next place on it; the program's and the reference's FreeBlocks and PlaceOf tell them. -/
namespace Go.Proofs.Ytklkhnomnanpoaa.Pu
set_option linter.unusedVariables false
set_option linter.unusedSimpArgs false
open Go.RowKit Go.Proofs.Ytklkhnomnanpoaa.PK Go.Proofs.YtklkhnomnanpoaaW.PrintWords

theorem all_filter {α : Type} (p : α → Bool) : ∀ l : List α, l.all p = decide ((l.filter p).length = l.length)
  | [] => rfl
  | x :: l => by
    have ih := all_filter p l
    have hle := List.length_filter_le p l
    rw [List.all_cons, List.filter_cons, ih]
    by_cases h : p x = true
    · simp [h]
    · have h' : p x = false := Bool.eq_false_iff.mpr h
      simp only [h', Bool.false_and, Bool.false_eq_true, if_false, List.length_cons]
      exact (decide_eq_false (by omega)).symm
def freeF (f : List S83) (s : List Int) (i : Nat) : List Int := if freeT f i = true then s ++ [(i : Int)] else s
def FreeInv (f : List S83) (i : Nat) (s : List Int) : Prop := s.length ≤ i ∧ ∀ x ∈ s, 0 ≤ x ∧ x < (f.length : Int)
theorem freeInv_step {f : List S83} (s : List Int) (i : Nat) (hi : i < f.length) (h : FreeInv f i s) : FreeInv f (i + 1) (freeF f s i) := by
  unfold freeF
  by_cases ht : freeT f i = true
  · rw [if_pos ht]
    refine ⟨by rw [List.length_append]; have := h.1; simp; omega, fun x hx => ?_⟩
    rcases List.mem_append.1 hx with hx | hx
    · exact h.2 x hx
    · rw [List.mem_singleton.1 hx]; omega
  · rw [if_neg ht]; exact ⟨by have := h.1; omega, h.2⟩
theorem freeInv_fold {f : List S83} : ∀ (d i : Nat) (s : List Int), i + d = f.length → FreeInv f i s → FreeInv f f.length ((List.range' i d).foldl (freeF f) s)
  | 0, i, s, hi, h => by obtain rfl : i = f.length := by omega
                         exact h
  | d + 1, i, s, hi, h => by
    rw [List.range'_succ, List.foldl_cons]
    exact freeInv_fold d (i + 1) _ (by omega) (freeInv_step s i (by omega) h)
theorem freeL_eq (f : List S83) : freeL f = (List.range' 0 f.length).foldl (freeF f) [] := rfl
theorem freeL_inv (f : List S83) : FreeInv f f.length (freeL f) := by
  rw [freeL_eq]
  exact freeInv_fold f.length 0 [] (by omega) ⟨by simp, fun x hx => absurd hx (by simp)⟩
theorem sFree_ev (f : List S83) (hn : f.length ≤ 1048576) (hk : ∀ x ∈ f, x.f2.length ≤ 1048576) : Ev (fun k => spec_FreeBlocks.f k f) (freeL f) := by
  rw [freeL_eq]
  refine ev_fold (L := fun k s i => spec_FreeBlocks.l0 k s i f) (n := f.length) (F := freeF f) (fin := fun s => s) (FreeInv f) (fun s i hi hv r hr => ?_) (fun s i hi hv => freeInv_step s i hi hv)
    (fun s _ => ev_some fun k => by simp only [spec_FreeBlocks.l0]; rw [if_neg (by omega)]) f.length 0 [] (by omega) ⟨by simp, fun x hx => absurd hx (by simp)⟩
  have hsl : s.length ≤ i := hv.1
  have hb := hk _ (getD_mem' (z := z83) hi)
  have main : ∀ (d j : Nat) (b : Bool), j + d = (f.getD i z83).f2.length → (b && ((f.getD i z83).f2.drop j).all blankL) = freeT f i → Ev (fun k => spec_FreeBlocks.l1 k s (i : Int) b (j : Int) f) r := by
    intro d
    induction d with
    | zero =>
      intro j b hj hd
      rw [List.drop_eq_nil_of_le (by omega), List.all_nil, Bool.and_true] at hd
      subst hd
      refine Ev.step (fun k => ?_) hr
      simp only [spec_FreeBlocks.l1]
      rw [if_pos (by omega), if_pos (by omega), rdIB_nat, if_neg (by omega), wsucc (n := f.length) hi (by omega)]
      unfold freeF
      by_cases ht : freeT f i = true
      · rw [if_pos ht, if_pos ht, if_pos (by omega)]
      · rw [if_neg ht, if_neg ht]
    | succ d ih =>
      intro j b hj hd
      have hjl : j < (f.getD i z83).f2.length := by omega
      rw [List.drop_eq_getElem_cons hjl, List.all_cons] at hd
      have e : (f.getD i z83).f2.getD j z101 = (f.getD i z83).f2[j] := by rw [List.getD_eq_getElem?_getD, List.getElem?_eq_getElem hjl]; rfl
      cases b with
      | true =>
        rw [Bool.true_and] at hd
        refine Ev.step (fun k => ?_) (ih (j + 1) (blankL ((f.getD i z83).f2.getD j z101)) (by omega) (by rw [e]; exact hd))
        simp only [spec_FreeBlocks.l1]
        rw [if_pos (by omega), if_pos (by omega), rdIB_nat, if_pos (by omega), if_pos trivial, if_pos (by omega), rdIL_nat, wsucc (n := (f.getD i z83).f2.length) (by omega) (by omega)]
        unfold blankL
        rfl
      | false =>
        rw [Bool.false_and] at hd
        refine Ev.step (fun k => ?_) (ih (j + 1) false (by omega) (by rw [Bool.false_and]; exact hd))
        simp only [spec_FreeBlocks.l1]
        rw [if_pos (by omega), if_pos (by omega), rdIB_nat, if_pos (by omega), if_neg (by simp), wsucc (n := (f.getD i z83).f2.length) (by omega) (by omega)]
  refine Ev.step (fun k => ?_) (main _ 0 (!(f.getD i z83).f0) (Nat.zero_add _) rfl)
  simp only [spec_FreeBlocks.l0]
  rw [if_pos (by omega), if_pos (by omega), rdIB_nat]
  rfl
theorem wear_rd (f : List S83) (i : Int) : (rd_T83 f i).f1 = wearAt f i := rfl
theorem sBest_ev (f : List S83) (l : List Int) (hn : l.length ≤ 1048576) (hv : ∀ x ∈ l, 0 ≤ x ∧ x < (f.length : Int)) : ∀ (d i : Nat) (b : Int), i + d = l.length → 0 ≤ b → b < (f.length : Int) →
    Ev (fun k => spec_PlaceOf.l0 k l b (i : Int) f) (bestOf f b (l.drop i), 0, true) := by
  intro d
  induction d with
  | zero =>
    intro i b hi h0 h1
    refine ev_some fun k => ?_
    simp only [spec_PlaceOf.l0]
    rw [if_neg (by omega), List.drop_eq_nil_of_le (by omega)]
    rfl
  | succ d ih =>
    intro i b hi h0 h1
    have hil : i < l.length := by omega
    have e : rd l (i : Int) = l[i] := by show l.getD i 0 = _; rw [List.getD_eq_getElem?_getD, List.getElem?_eq_getElem hil]; rfl
    have hx := hv l[i] (List.getElem_mem hil)
    have st : ∀ k, spec_PlaceOf.l0 (k + 1) l b (i : Int) f = spec_PlaceOf.l0 k l (if wearAt f l[i] < wearAt f b then l[i] else b) ((i + 1 : Nat) : Int) f := fun k => by
      simp only [spec_PlaceOf.l0]
      rw [if_pos (by omega), if_pos (by omega), e, if_pos hx.1, if_pos hx.2, if_pos h0, if_pos h1, wsucc (n := l.length) hil (by omega), wear_rd, wear_rd]
      by_cases h : wearAt f l[i] < wearAt f b
      · rw [if_pos h, if_pos h]
      · rw [if_neg h, if_neg h]
    refine Ev.step st ?_
    rw [List.drop_eq_getElem_cons hil]
    show Ev _ (bestOf f (if wearAt f l[i] < wearAt f b then l[i] else b) (l.drop (i + 1)), 0, true)
    by_cases h : wearAt f l[i] < wearAt f b
    · rw [if_pos h]; exact ih (i + 1) _ (by omega) hx.1 hx.2
    · rw [if_neg h]; exact ih (i + 1) _ (by omega) h0 h1
theorem open_cases (f : List S83) : openB f = -1 ∨ ∃ j : Nat, j < f.length ∧ openB f = (j : Int) := by
  rcases findI_range (T := openT f) f.length 0 with h | ⟨j, _, h2, h3, _⟩
  · exact .inl h
  · exact .inr ⟨j, by omega, h3⟩
theorem sPlace_ev (f : List S83) (hn : f.length ≤ 1048576) (hk : ∀ x ∈ f, x.f2.length ≤ 1048576) : Ev (fun k => spec_PlaceOf.f k f) (placeR f) := by
  unfold spec_PlaceOf.f placeR
  refine ev_bind (sFlashOk_ev f hn hk) ?_
  by_cases hf : flashB f = true
  · simp only [if_pos hf]
    refine ev_bind (sOpen_ev f hn hk) ?_
    rcases open_cases f with ho | ⟨j, hj, ho⟩
    · have hi := freeL_inv f
      simp only [ho, if_neg (show ¬ ((-1 : Int) ≥ 0) by omega), if_neg (show ¬ (0 ≤ (-1 : Int)) by omega)]
      refine ev_bind (sFree_ev f hn hk) ?_
      cases hl : freeL f with
      | nil => simp only [List.length_nil, if_pos (show ((0 : Nat) : Int) = 0 from rfl)]; exact Ev.now _
      | cons b l =>
        rw [hl] at hi
        have hb := hi.2 b (by simp)
        have hlen : l.length + 1 ≤ f.length := by have := hi.1; simpa using this
        simp only [if_neg (show ¬ (((b :: l).length : Nat) : Int) = 0 by simp only [List.length_cons]; omega), if_pos (show (0 : Int) < (((b :: l).length : Nat) : Int) by simp only [List.length_cons]; omega)]
        exact sBest_ev f (b :: l) (by simp only [List.length_cons]; omega) hi.2 l.length 1 b (by simp only [List.length_cons]; omega) hb.1 hb.2
    · simp only [ho, if_pos (show ((j : Int)) ≥ 0 by omega), if_pos (show 0 ≤ (j : Int) by omega), if_pos (show (j : Int) < (f.length : Int) by omega), rdIB_nat, Int.toNat_natCast]
      exact ev_bind (sNext_ev _ _ _ (hk _ (getD_mem' hj))) (Ev.now _)
  · simp only [if_neg hf]
    exact Ev.now _
end Go.Proofs.Ytklkhnomnanpoaa.Pu

/- Drawn flashes that need not be right, and drawn steps. -/
namespace Go.Proofs.Ytklkhnomnanpoaa.M2.Mp
set_option linter.unusedVariables false
set_option linter.unusedSimpArgs false
open Go.RowKit Go.Proofs.Ytklkhnomnanpoaa.PK Go.Proofs.YtklkhnomnanpoaaW.PrintWords Go.Proofs.Ytklkhnomnanpoaa.Pu

/-- A flash that is not too great. -/
def Small (f : List S83) : Prop := f.length ≤ 1048576 ∧ ∀ x ∈ f, x.f2.length ≤ 1048576
theorem flashX (b : List Int) (i h : Int) (hc : Cur b i) (hb : Cb b) : EvX (fun k => spec_l05Flash.f k b i h) (fun t => flashB t.1 = true ∧ t.2.1 = b ∧ Cur b t.2.2.1) := by
  obtain ⟨f, i', h', e, h1, h2⟩ := flash_draw b i h hc.1 hc.2 hb
  exact ⟨_, ev_rel e (fun k r hh m hm => spec_l05Flash.rel k b i h r hh m hm), h1, rfl, h2⟩
theorem copyX {f : List S83} (h : Small f) : EvX (fun k => spec_l05Copy.f k f) (fun t => t = f) :=
  ⟨_, ev_rel (sCopyF_ev f h.1 h.2) (fun k r hh m hm => spec_l05Copy.rel k f r hh m hm), rfl⟩
theorem doX (kd b a : Int) (t : ByteArray) {f : List S83} (h : Small f) : EvX (fun k => spec_DoStep.f k f kd b a t) (fun t => Small t.1) :=
  ⟨_, ev_rel (sDo_ev f kd b a t h.1 h.2) (fun k r hh m hm => spec_DoStep.rel k f kd b a t r hh m hm), doB_le kd b a t h.1 h.2⟩
theorem iStepsX {f : List S83} {L : List S56} (h : Small f) (hL : L.length ≤ 1048576) : EvX (fun k => impl_DoSteps.f k f L) (fun t => t = runB L L.length 0 f) :=
  ⟨_, ev_rel (iSteps_ev f L h.1 h.2 hL) (fun k r hh m hm => impl_DoSteps.rel k f L r hh m hm), rfl⟩
theorem sStepsX {f : List S83} {L : List S56} (h : Small f) (hL : L.length ≤ 1048576) : EvX (fun k => spec_DoSteps.f k f L) (fun t => t = runB L L.length 0 f) :=
  ⟨_, ev_rel (sSteps_ev f L h.1 h.2 hL) (fun k r hh m hm => spec_DoSteps.rel k f L r hh m hm), rfl⟩
theorem placeX {f : List S83} (h : Small f) : EvX (fun k => spec_PlaceOf.f k f) (fun t => True) :=
  ⟨_, ev_rel (sPlace_ev f h.1 h.2) (fun k r hh m hm => spec_PlaceOf.rel k f r hh m hm), trivial⟩
theorem small_of {f : List S83} (h : flashB f = true) : Small f := flash_small h
theorem small_set {f : List S83} {i : Nat} {y : S83} (h : Small f) (hy : y.f2.length ≤ 1048576) : Small (f.set i y) := by
  refine ⟨by rw [List.length_set]; exact h.1, fun x hx => ?_⟩
  rcases List.mem_or_eq_of_mem_set hx with hx | rfl
  · exact h.2 x hx
  · exact hy
theorem anyX (b : List Int) (i h : Int) (hc : Cur b i) (hb : Cb b) : EvX (fun k => spec_l05Any.f k b i h) (fun t => Small t.1 ∧ t.2.1 = b ∧ Cur b t.2.2.1) := by
  simp only [spec_l05Any.f]
  refine evx_bind (flashX b i h hc hb) fun ⟨f, b0, i0, h0⟩ ⟨hf, rfl, hc⟩ => ?_
  try dsimp only at *
  have hs := small_of hf
  have hlen := (flash_iff.1 hf).2
  refine evx_bind (copyX hs) fun t2 e2 => ?_
  try dsimp only at *
  subst e2
  refine evx_bind (belowX (t2.length : Int) b0 i0 h0 (by omega) hc hb) fun ⟨v, b1, i1, h1⟩ ⟨hv, rfl, hc⟩ => ?_
  try dsimp only at *
  have hv0 : 0 ≤ v := hv.1
  have hv1 : v < (t2.length : Int) := hv.2
  have h4 : ((rd_T83 t2 v).f2).length = 4 := four_of hf (i := v.toNat) (by omega)
  refine evx_bind (belowX 16 b1 i1 h1 (by omega) hc hb) fun ⟨w, b2, i2, h2⟩ ⟨hw, rfl, hc⟩ => ?_
  try dsimp only at *
  refine evx_ite (fun _ => ?_) (fun _ => evx_ite (fun _ => ?_) (fun _ => evx_ite (fun _ => ?_) (fun _ => evx_ite (fun _ => ?_) (fun _ => ?_))))
  · refine evx_pos hv0 (evx_pos hv1 ?_)
    refine evx_bind (belowX 4 b2 i2 h2 (by omega) hc hb) fun ⟨u, b3, i3, h3⟩ ⟨hu, rfl, hc⟩ => ?_
    try dsimp only at *
    refine evx_bind (belowX 5 b3 i3 h3 (by omega) hc hb) fun ⟨z, b4, i4, h5⟩ ⟨hz, rfl, hc⟩ => ?_
    try dsimp only at *
    refine evx_pos hu.1 (evx_pos (by rw [h4]; exact hu.2) (evx_some ⟨small_set hs ?_, rfl, hc⟩))
    simp only [List.length_set, h4]; omega
  · refine evx_pos hv0 (evx_pos hv1 (evx_pos (by simp only [h4]; omega) (evx_pos hv0 (evx_pos hv1 (evx_pos (Nat.beq_refl _) (evx_some ⟨small_set hs ?_, rfl, hc⟩))))))
    simp only [List.length_take, List.length_drop, h4]; omega
  · refine evx_bind (pickIntX _ b2 i2 h2 (by simp) hc hb) fun ⟨u, b3, i3, h3⟩ ⟨hu, rfl, hc⟩ => ?_
    refine evx_pos hv0 (evx_pos hv1 (evx_some ⟨small_set hs ?_, rfl, hc⟩))
    simp only [h4]; omega
  · refine evx_bind (belowX 3 b2 i2 h2 (by omega) hc hb) fun ⟨u, b3, i3, h3⟩ ⟨hu, rfl, hc⟩ => ?_
    have hu0 : 0 ≤ u := hu.1
    have hu1 : u < 3 := hu.2
    refine evx_pos hu0 (evx_pos (by simp only; omega) (evx_some ⟨⟨?_, fun x hx => ?_⟩, rfl, hc⟩))
    · have := hs.1; simp only [List.length_take, List.length_drop]; omega
    · exact hs.2 x (List.mem_of_mem_drop (List.mem_of_mem_take hx))
  · exact evx_some ⟨hs, rfl, hc⟩
theorem stepsLX (b : List Int) (hb : Cb b) : ∀ (d : Nat) (x i h : Int) (acc : List S56) (now : List S83), 0 ≤ x → x + d = 7 → (acc.length : Int) = x → Small now → Cur b i →
    EvX (fun k => spec_l08Steps.c4 k x b i h acc now) (fun t => t.1.length ≤ 7 ∧ t.2.1 = b ∧ Cur b t.2.2.1) := by
  intro d
  induction d with
  | zero =>
    intro x i h acc now h0 hd hl hs hc
    refine evx_step (fun k => by rw [spec_l08Steps.c4]) ?_
    refine evx_bind (belowX 7 b i h (by omega) hc hb) fun ⟨v, b1, i1, h1⟩ ⟨hv, rfl, hc⟩ => ?_
    try dsimp only at *
    have hv1 : v < 7 := hv.2
    exact evx_neg (by show ¬ x < v; omega) (evx_some ⟨by show acc.length ≤ 7; omega, rfl, hc⟩)
  | succ d ih =>
    intro x i h acc now h0 hd hl hs hc
    refine evx_step (fun k => by rw [spec_l08Steps.c4]) ?_
    refine evx_bind (belowX 7 b i h (by omega) hc hb) fun ⟨v, b1, i1, h1⟩ ⟨hv, rfl, hc⟩ => ?_
    try dsimp only at *
    refine evx_ite (fun _ => ?_) (fun _ => evx_some ⟨by show acc.length ≤ 7; omega, rfl, hc⟩)
    have next : ∀ (i h : Int) (y : S56) (now : List S83), Small now → Cur b1 i → EvX (fun k => if acc.length + ([y] : List S56).length ≤ 3518437208883 then spec_l08Steps.c4 k (M2.w64 (x + 1)) b1 i h (acc ++ [y]) now else none) (fun t => t.1.length ≤ 7 ∧ t.2.1 = b1 ∧ Cur b1 t.2.2.1) := by
      intro i h y now hs hc
      have e : M2.w64 (x + 1) = x + 1 := by rw [w64_eq]; exact Pu.w64 (by omega) (by omega)
      rw [e]
      exact evx_pos (by simp; omega) (ih (x + 1) i h (acc ++ [y]) now (by omega) (by omega) (by simp; omega) hs hc)
    refine evx_bind (belowX 5 b1 i1 h1 (by omega) hc hb) fun ⟨u, b2, i2, h2⟩ ⟨hu, e, hc⟩ => ?_
    try dsimp only at *
    obtain rfl : b2 = b1 := e
    have hu0 : 0 ≤ u := hu.1
    have hu1 : u < 5 := hu.2
    have e1 : M2.w64 (1 + u) = 1 + u := by rw [w64_eq]; exact Pu.w64 (by omega) (by omega)
    simp only [e1]
    refine evx_bind (textX (1 + u) b2 i2 h2 (by omega) (by omega) hc hb) fun ⟨s, b3, i3, h3⟩ ⟨hs3, e, hc⟩ => ?_
    try dsimp only at *
    obtain rfl : b3 = b2 := e
    refine evx_bind (placeX hs) fun ⟨pb, pl, pk⟩ _ => ?_
    try dsimp only at *
    refine evx_ite (fun _ => ?_) (fun _ => ?_)
    · refine evx_bind (onceX 5 b3 i3 h3 (by omega) hc hb) fun ⟨o, b4, i4, h4⟩ ⟨e, hc⟩ => ?_
      obtain rfl : b4 = b3 := e
      refine evx_ite (fun _ => ?_) (fun _ => ?_)
      · refine evx_bind (belowX 4 b4 i4 h4 (by omega) hc hb) fun ⟨q, b5, i5, h5⟩ ⟨_, e, hc⟩ => ?_
        obtain rfl : b5 = b4 := e
        refine evx_bind (onceX 24 b5 i5 h5 (by omega) hc hb) fun ⟨o2, b6, i6, h6⟩ ⟨e, hc⟩ => ?_
        try dsimp only at *
        obtain rfl : b6 = b5 := e
        refine evx_ite (fun _ => ?_) (fun _ => ?_)
        · refine evx_bind (belowX 4 b6 i6 h6 (by omega) hc hb) fun ⟨q2, b7, i7, h7⟩ ⟨_, e, hc⟩ => ?_
          obtain rfl : b7 = b6 := e
          exact evx_bind (doX _ _ _ _ hs) fun t ht => next _ _ _ _ ht hc
        · exact evx_bind (doX _ _ _ _ hs) fun t ht => next _ _ _ _ ht hc
      · refine evx_bind (onceX 24 b4 i4 h4 (by omega) hc hb) fun ⟨o2, b6, i6, h6⟩ ⟨e, hc⟩ => ?_
        obtain rfl : b6 = b4 := e
        refine evx_ite (fun _ => ?_) (fun _ => ?_)
        · refine evx_bind (belowX 4 b6 i6 h6 (by omega) hc hb) fun ⟨q2, b7, i7, h7⟩ ⟨_, e, hc⟩ => ?_
          obtain rfl : b7 = b6 := e
          exact evx_bind (doX _ _ _ _ hs) fun t ht => next _ _ _ _ ht hc
        · exact evx_bind (doX _ _ _ _ hs) fun t ht => next _ _ _ _ ht hc
    · refine evx_bind (belowX 4 b3 i3 h3 (by omega) hc hb) fun ⟨q, b5, i5, h5⟩ ⟨_, e, hc⟩ => ?_
      obtain rfl : b5 = b3 := e
      refine evx_bind (onceX 24 b5 i5 h5 (by omega) hc hb) fun ⟨o2, b6, i6, h6⟩ ⟨e, hc⟩ => ?_
      try dsimp only at *
      obtain rfl : b6 = b5 := e
      refine evx_ite (fun _ => ?_) (fun _ => ?_)
      · refine evx_bind (belowX 4 b6 i6 h6 (by omega) hc hb) fun ⟨q2, b7, i7, h7⟩ ⟨_, e, hc⟩ => ?_
        obtain rfl : b7 = b6 := e
        exact evx_bind (doX _ _ _ _ hs) fun t ht => next _ _ _ _ ht hc
      · exact evx_bind (doX _ _ _ _ hs) fun t ht => next _ _ _ _ ht hc
theorem stepsX {f : List S83} (b : List Int) (i h : Int) (hs : Small f) (hc : Cur b i) (hb : Cb b) : EvX (fun k => spec_l08Steps.f k f b i h) (fun t => t.1.length ≤ 7 ∧ t.2.1 = b ∧ Cur b t.2.2.1) := by
  simp only [spec_l08Steps.f]
  exact stepsLX b hb 7 0 i h [] f (by omega) (by omega) rfl hs hc
theorem drawStepsX (b : List Int) (hb : Cb b) : EvX (fun k => spec_DrawDoSteps.f k b) (fun t => Small t.1 ∧ t.2.length ≤ 7) := by
  simp only [spec_DrawDoSteps.f]
  refine evx_bind (newX b hb) fun ⟨b0, i, h⟩ ⟨rfl, hc⟩ => ?_
  refine evx_bind (anyX b0 i h hc hb) fun ⟨f, b1, i1, h1⟩ ⟨hs, rfl, hc⟩ => ?_
  refine evx_bind (stepsX b1 i1 h1 hs hc hb) fun ⟨L, b2, i2, h2⟩ ⟨hL, _⟩ => ?_
  exact evx_some ⟨hs, hL⟩
end Go.Proofs.Ytklkhnomnanpoaa.M2.Mp

/- The reference's draw of places. -/
namespace Go.Proofs.Ytklkhnomnanpoaa.Pu
set_option linter.unusedVariables false
set_option linter.unusedSimpArgs false
open Go.RowKit Go.Proofs.Ytklkhnomnanpoaa.PK Go.Proofs.YtklkhnomnanpoaaW.PrintWords

theorem places_ev (b : List Int) (hb : b.length ≤ 9223372036854775807) : ∃ p, Ev (fun k => spec_DrawPlaces.f k b) p ∧ p.length = 12 ∧ ∀ x ∈ p, 0 ≤ x ∧ x < 10000 := by
  unfold spec_DrawPlaces.f
  obtain ⟨h, hnew⟩ := new_ev b hb
  obtain ⟨v, i1, g1, e1, _, a1, b1⟩ := byte_eq b 0 h (by omega) (by omega) hb
  have main : ∀ (d i : Nat) (acc : List Int) (j g : Int), i + d = 12 → acc.length = i → (∀ x ∈ acc, 0 ≤ x ∧ x < 10000) → 0 ≤ j → j ≤ b.length → ∃ p, Ev (fun k => spec_DrawPlaces.l0 k acc (i : Int) b j g) p ∧ p.length = 12 ∧ ∀ x ∈ p, 0 ≤ x ∧ x < 10000 := by
    intro d
    induction d with
    | zero => intro i acc j g hi hl ha _ _; exact ⟨acc, ev_some fun k => by simp only [spec_DrawPlaces.l0]; rw [if_neg (by omega)], by omega, ha⟩
    | succ d ih =>
      intro i acc j g hi hl ha hj0 hj1
      obtain ⟨y, j2, g2, e2, hy, a2, b2⟩ := below_eq b j g 10000 hj0 hj1 hb (by omega)
      obtain ⟨p, hp, hp2, hp3⟩ := ih (i + 1) (acc ++ [y]) j2 g2 (by omega) (by simp; omega) (fun x hx => by
        rcases List.mem_append.1 hx with hx | hx
        · exact ha x hx
        · obtain rfl := List.mem_singleton.1 hx; exact hy) a2 b2
      refine ⟨p, Ev.step (fun k => ?_) hp, hp2, hp3⟩
      simp only [spec_DrawPlaces.l0]
      rw [if_pos (by omega), e2]
      simp only [Option.bind_some]
      rw [if_pos (by omega), wsucc (n := 12) (by omega) (by omega)]
  obtain ⟨p, hp, hp2, hp3⟩ := main 12 0 [] i1 g1 rfl rfl (fun x hx => by cases hx) a1 b1
  refine ⟨p, ev_bind hnew ?_, hp2, hp3⟩
  simp only [e1, Option.bind_some]
  exact hp
end Go.Proofs.Ytklkhnomnanpoaa.Pu

/- A flash is the same as itself; twelve drawn places; what is not too great. -/
namespace Go.Proofs.Ytklkhnomnanpoaa.M2.Mp
set_option linter.unusedVariables false
set_option linter.unusedSimpArgs false
open Go.RowKit Go.Proofs.Ytklkhnomnanpoaa.PK Go.Proofs.YtklkhnomnanpoaaW.PrintWords Go.Proofs.Ytklkhnomnanpoaa.Pu

theorem m64 {i : Nat} {n : Nat} (h : i < n) (hn : n ≤ 9223372036854775807) : M2.w64 ((i : Int) + 1) = ((i + 1 : Nat) : Int) := by
  rw [w64_eq]; exact wsucc h hn
theorem m64i {x : Int} (h1 : -9223372036854775808 ≤ x) (h2 : x ≤ 9223372036854775807) : M2.w64 x = x := by
  rw [w64_eq]; exact Pu.w64 h1 h2
theorem sameX {f : List S83} (h : Small f) : EvX (fun k => laws_sameFlash.f k f f) (fun r => r = true) := by
  have outer : ∀ (d i : Nat), i + d = f.length → EvX (fun k => laws_sameFlash.c4 k (i : Int) f f) (fun r => r = true) := by
    intro d
    induction d with
    | zero =>
      intro i hi
      refine evx_step (fun k => by rw [laws_sameFlash.c4]) ?_
      exact evx_neg (by omega) (evx_some rfl)
    | succ d ih =>
      intro i hi
      have hm : (rd_T83 f (i : Int)).f2.length ≤ 1048576 := h.2 _ (getD_mem' (z := z83) (show i < f.length by omega))
      have inner : ∀ (e j : Nat), j + e = (rd_T83 f (i : Int)).f2.length → ∀ x40 x42 x43 x47 x48 x50 x51 x52 a0 a1 b0 b1, EvX (fun k => laws_sameFlash.c11 k (i : Int) (j : Int) x40 x42 x43 x47 x48 x50 x51 x52 f f a0 a1 (rd_T83 f (i : Int)).f2 b0 b1 (rd_T83 f (i : Int)).f2) (fun r => r = true) := by
        intro e
        induction e with
        | zero =>
          intro j hj x40 x42 x43 x47 x48 x50 x51 x52 a0 a1 b0 b1
          refine evx_step (fun k => by rw [laws_sameFlash.c11]) ?_
          refine evx_neg (by omega) ?_
          rw [m64 (n := f.length) (by omega) (by have := h.1; omega)]
          exact ih (i + 1) (by omega)
        | succ e ihe =>
          intro j hj x40 x42 x43 x47 x48 x50 x51 x52 a0 a1 b0 b1
          refine evx_step (fun k => by rw [laws_sameFlash.c11]) ?_
          refine evx_pos (by omega) (evx_pos (by omega) (evx_pos (by omega) (evx_pos (by omega) (evx_pos (by omega) (evx_pos (by simp [seq]) ?_)))))
          rw [m64 (n := (rd_T83 f (i : Int)).f2.length) (by omega) (by omega)]
          exact ihe (j + 1) (by omega) _ _ _ _ _ _ _ _ _ _ _ _
      refine evx_step (fun k => by rw [laws_sameFlash.c4]) ?_
      refine evx_pos (by omega) (evx_pos (by omega) (evx_pos (by omega) (evx_pos (by omega) (evx_pos (by omega) (evx_pos (by simp) (evx_pos rfl (evx_pos rfl ?_)))))))
      exact inner (rd_T83 f (i : Int)).f2.length 0 (by omega) _ _ _ _ _ _ _ _ _ _ _ _
  unfold laws_sameFlash.f
  exact evx_pos rfl (outer f.length 0 (by omega))
theorem placesX (b : List Int) (hb : Cb b) : EvX (fun k => spec_DrawPlaces.f k b) (fun p => p.length = 12 ∧ ∀ x ∈ p, 0 ≤ x ∧ x < 10000) := by
  obtain ⟨p, e, h1, h2⟩ := places_ev b hb
  exact ⟨p, ev_rel e (fun k r hh m hm => spec_DrawPlaces.rel k b r hh m hm), h1, h2⟩
theorem bigX (b : List Int) : EvX (fun k => laws_big.f k b) (fun r => r = decide ((b.length : Int) > 1048576)) := by
  simp only [laws_big.f]; exact evx_some rfl
end Go.Proofs.Ytklkhnomnanpoaa.M2.Mp
