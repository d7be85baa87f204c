/- FnExactNeededOn: functions of the translation as Lean functions with what their calls come to, plain lemmas on them, and, at the end, the row. Parts of one proof, merged by a program of this session; each part's own sentence stands at its head. -/
import Derived.Laws.BitsLemmas
import Derived.Below
import Derived.ChangeArms
import Derived.DataReads
import Derived.Test.YtibhkbljjnlpjaaGreatRows
import Derived.WalkKit
import Derived.ProofKit
import Derived.OpenShut
import Derived.ShutString
import Derived.ChangeOld
import Derived.SizedLaws
import Derived.ChangeSlices
import Derived.Test.YtibhkbljjnlpjaaGreatMFnExactNeededOnd
namespace Go.Proofs.YtibhkbljjnlpjaaGreat.M2
open Go Go.RowKit Go.Proofs.YtibhkbljjnlpjaaGreatW.PrintWords Go.Proofs.YtibhkbljjnlpjaaGreat.PK
set_option linter.unusedVariables false
set_option linter.unusedSimpArgs false
set_option maxHeartbeats 1600000
theorem laws_szBlockS.rel_l (k : Nat) : (∀ x0 x1 x5 r,PK.laws_szBlockS.l0 k x0 x1 x5 = some r → ∀ m,k ≤ m → laws_szBlockS.c5 m x0 x1 x5 = some r):=by
 induction k using Nat.strongRecOn with
 | _ k ih =>
 have il0:=fun k' hk'=>(ih k' hk');clear ih;intro x0 x1 x5 r h m hm;cases k with
 | zero=>simp only [PK.laws_szBlockS.l0] at h;cases h
 | succ k =>
  obtain ⟨m,rfl⟩ : ∃ m',m = m' + 1:=⟨m - 1,by omega⟩;rw [PK.laws_szBlockS.l0] at h;rw [laws_szBlockS.c5]
  try simp only [w64_eq,wu8_eq,gt_iff_lt,ge_iff_le,int_beq,fdiv33,fdiv45,bt_eq,tmodN,rdOfB,rdOfL] at h
  try simp only [shlR]
  try simp only [w64_eq,wu8_eq,gt_iff_lt,ge_iff_le,int_beq,fdiv33,fdiv45,bt_eq,tmodN,rdOfB,rdOfL,rdT3_eq,rdT5_eq,seq,maxI,minI,emp_eq,rdn3,rdn132,rdn72,rdn87,rdn101,rdn92,rdn76,rdn5,rdn63,rdn65,rdn4,rdn111,rdn83]
  refine (itE h (fun q h=>(itE h (fun q h=>(bnE h (fun _ g h=>(fun g=>(itE h (fun q h=>?_) (fun q h=>((fun h=>?_) (il0 _ (by omega) _ _ _ _ h m (by omega)))))) (laws_szBlock.rel _ _ _ _ _ _ g m (by omega))))) (fun q h=>(noE h)))) (fun q h=>?_))
  all_goals clear il0
  all_goals (try cases h)
  all_goals (try simp only [*,if_true,if_false,↓reduceIte,Option.bind_some,List.length_cons,List.length_nil,List.length_append,Bool.not_true,Bool.not_false,Bool.true_eq_false,Bool.false_eq_true])
  all_goals (repeat first | rw [if_pos (by omega)] | rw [if_neg (by omega)])
  all_goals first | exact h | apply h | rfl | (simp_all [-Bool.forall_bool];done) | (simp_all [-Bool.forall_bool];first | exact h | apply h) | (simp_all [-Bool.forall_bool,emp_eq,int_beq];done) | (simp_all [-Bool.forall_bool];(intros;simp_all;done)) | (simp_all [-Bool.forall_bool,rdset3,rdset132,rdset72,rdset87,rdset101,rdset92,rdset76,rdset5,rdset63,rdset65,rdset4,rdset111,rdset83];done) | grind
theorem laws_szBlockS.rel (k : Nat) (l0 : List (S72)) (a1 : Int) (r) (h : PK.laws_szBlockS.f k l0 a1 = some r) (m : Nat) (hm : k ≤ m) : laws_szBlockS.f m l0 a1 = some r:=by
 have il0:=fun k' (_ : k' < k + 1)=>(laws_szBlockS.rel_l k');rw [PK.laws_szBlockS.f] at h;rw [laws_szBlockS.f]
 try simp only [w64_eq,wu8_eq,gt_iff_lt,ge_iff_le,int_beq,fdiv33,fdiv45,bt_eq,tmodN,rdOfB,rdOfL] at h
 try simp only [shlR]
 try simp only [w64_eq,wu8_eq,gt_iff_lt,ge_iff_le,int_beq,fdiv33,fdiv45,bt_eq,tmodN,rdOfB,rdOfL,rdT3_eq,rdT5_eq,seq,maxI,minI,emp_eq,rdn3,rdn132,rdn72,rdn87,rdn101,rdn92,rdn76,rdn5,rdn63,rdn65,rdn4,rdn111,rdn83]
 refine (itE h (fun q h=>?_) (fun q h=>((fun h=>?_) (il0 _ (by omega) _ _ _ _ h m (by omega)))))
 all_goals clear il0
 all_goals (try cases h)
 all_goals (try simp only [*,if_true,if_false,↓reduceIte,Option.bind_some,List.length_cons,List.length_nil,List.length_append,Bool.not_true,Bool.not_false,Bool.true_eq_false,Bool.false_eq_true])
 all_goals (repeat first | rw [if_pos (by omega)] | rw [if_neg (by omega)])
 all_goals first | exact h | apply h | rfl | (simp_all [-Bool.forall_bool];done) | (simp_all [-Bool.forall_bool];first | exact h | apply h) | (simp_all [-Bool.forall_bool,emp_eq,int_beq];done) | (simp_all [-Bool.forall_bool];(intros;simp_all;done)) | (simp_all [-Bool.forall_bool,rdset3,rdset132,rdset72,rdset87,rdset101,rdset92,rdset76,rdset5,rdset63,rdset65,rdset4,rdset111,rdset83];done) | grind
theorem laws_szFlash.rel (k : Nat) (l0_0 : List (S72)) (a1 : Int) (r) (h : PK.laws_szFlash.f k l0_0 a1 = some r) (m : Nat) (hm : k ≤ m) : laws_szFlash.f m l0_0 a1 = some r:=by
 rw [PK.laws_szFlash.f] at h;rw [laws_szFlash.f]
 try simp only [w64_eq,wu8_eq,gt_iff_lt,ge_iff_le,int_beq,fdiv33,fdiv45,bt_eq,tmodN,rdOfB,rdOfL] at h
 try simp only [shlR]
 try simp only [w64_eq,wu8_eq,gt_iff_lt,ge_iff_le,int_beq,fdiv33,fdiv45,bt_eq,tmodN,rdOfB,rdOfL,rdT3_eq,rdT5_eq,seq,maxI,minI,emp_eq,rdn3,rdn132,rdn72,rdn87,rdn101,rdn92,rdn76,rdn5,rdn63,rdn65,rdn4,rdn111,rdn83]
 refine (bnE h (fun _ g h=>(fun g=>(itE h (fun q h=>?_) (fun q h=>?_))) (laws_szBlockS.rel _ _ _ _ g m (by omega))))
 all_goals (try cases h)
 all_goals (try simp only [*,if_true,if_false,↓reduceIte,Option.bind_some,List.length_cons,List.length_nil,List.length_append,Bool.not_true,Bool.not_false,Bool.true_eq_false,Bool.false_eq_true])
 all_goals (repeat first | rw [if_pos (by omega)] | rw [if_neg (by omega)])
 all_goals first | exact h | apply h | rfl | (simp_all [-Bool.forall_bool];done) | (simp_all [-Bool.forall_bool];first | exact h | apply h) | (simp_all [-Bool.forall_bool,emp_eq,int_beq];done) | (simp_all [-Bool.forall_bool];(intros;simp_all;done)) | (simp_all [-Bool.forall_bool,rdset3,rdset132,rdset72,rdset87,rdset101,rdset92,rdset76,rdset5,rdset63,rdset65,rdset4,rdset111,rdset83];done) | grind
theorem laws_toLeaf.rel (k : Nat) (a0_0 : Int) (a0_1 : ByteArray) (r) (h : PK.laws_toLeaf.f a0_0 a0_1 = some r) (m : Nat) (hm : k ≤ m) : laws_toLeaf.f m a0_0 a0_1 = some (r.1,r.2):=by
 rw [PK.laws_toLeaf.f] at h;rw [laws_toLeaf.f]
 try simp only [w64_eq,wu8_eq,gt_iff_lt,ge_iff_le,int_beq,fdiv33,fdiv45,bt_eq,tmodN,rdOfB,rdOfL] at h
 try simp only [shlR]
 try simp only [w64_eq,wu8_eq,gt_iff_lt,ge_iff_le,int_beq,fdiv33,fdiv45,bt_eq,tmodN,rdOfB,rdOfL,rdT3_eq,rdT5_eq,seq,maxI,minI,emp_eq,rdn3,rdn132,rdn72,rdn87,rdn101,rdn92,rdn76,rdn5,rdn63,rdn65,rdn4,rdn111,rdn83]
 refine ?_
 all_goals (try cases h)
 all_goals (try simp only [*,if_true,if_false,↓reduceIte,Option.bind_some,List.length_cons,List.length_nil,List.length_append,Bool.not_true,Bool.not_false,Bool.true_eq_false,Bool.false_eq_true])
 all_goals (repeat first | rw [if_pos (by omega)] | rw [if_neg (by omega)])
 all_goals first | exact h | apply h | rfl | (simp_all [-Bool.forall_bool];done) | (simp_all [-Bool.forall_bool];first | exact h | apply h) | (simp_all [-Bool.forall_bool,emp_eq,int_beq];done) | (simp_all [-Bool.forall_bool];(intros;simp_all;done)) | (simp_all [-Bool.forall_bool,rdset3,rdset132,rdset72,rdset87,rdset101,rdset92,rdset76,rdset5,rdset63,rdset65,rdset4,rdset111,rdset83];done) | grind
end Go.Proofs.YtibhkbljjnlpjaaGreat.M2

namespace Go.Proofs.YtibhkbljjnlpjaaGreat.M2
open Go Go.RowKit Go.Proofs.YtibhkbljjnlpjaaGreatW.PrintWords Go.Proofs.YtibhkbljjnlpjaaGreat.PK
set_option linter.unusedVariables false
set_option linter.unusedSimpArgs false
set_option maxHeartbeats 1600000
theorem laws_toLeafS.rel_l (k : Nat) : (∀ x0 x3 x4 r,PK.laws_toLeafS.l0 k x0 x3 x4 = some r → ∀ m,k ≤ m → laws_toLeafS.c3 m x0 x4 x3 = some r):=by
 induction k using Nat.strongRecOn with
 | _ k ih =>
 have il0:=fun k' hk'=>(ih k' hk');clear ih;intro x0 x3 x4 r h m hm;cases k with
 | zero=>simp only [PK.laws_toLeafS.l0] at h;cases h
 | succ k =>
  obtain ⟨m,rfl⟩ : ∃ m',m = m' + 1:=⟨m - 1,by omega⟩;rw [PK.laws_toLeafS.l0] at h;rw [laws_toLeafS.c3]
  try simp only [w64_eq,wu8_eq,gt_iff_lt,ge_iff_le,int_beq,fdiv33,fdiv45,bt_eq,tmodN,rdOfB,rdOfL] at h
  try simp only [shlR]
  try simp only [w64_eq,wu8_eq,gt_iff_lt,ge_iff_le,int_beq,fdiv33,fdiv45,bt_eq,tmodN,rdOfB,rdOfL,rdT3_eq,rdT5_eq,seq,maxI,minI,emp_eq,rdn3,rdn132,rdn72,rdn87,rdn101,rdn92,rdn76,rdn5,rdn63,rdn65,rdn4,rdn111,rdn83]
  refine (itE h (fun q h=>(itE h (fun q h=>(bnE h (fun _ g h=>(fun g=>(itE h (fun q h=>((fun h=>?_) (il0 _ (by omega) _ _ _ _ h m (by omega)))) (fun q h=>(noE h)))) (laws_toLeaf.rel m _ _ _ g m (by omega))))) (fun q h=>(noE h)))) (fun q h=>?_))
  all_goals clear il0
  all_goals (try cases h)
  all_goals (try simp only [*,if_true,if_false,↓reduceIte,Option.bind_some,List.length_cons,List.length_nil,List.length_append,Bool.not_true,Bool.not_false,Bool.true_eq_false,Bool.false_eq_true])
  all_goals (repeat first | rw [if_pos (by omega)] | rw [if_neg (by omega)])
  all_goals first | exact h | apply h | rfl | (simp_all [-Bool.forall_bool];done) | (simp_all [-Bool.forall_bool];first | exact h | apply h) | (simp_all [-Bool.forall_bool,emp_eq,int_beq];done) | (simp_all [-Bool.forall_bool];(intros;simp_all;done)) | (simp_all [-Bool.forall_bool,rdset3,rdset132,rdset72,rdset87,rdset101,rdset92,rdset76,rdset5,rdset63,rdset65,rdset4,rdset111,rdset83];done) | grind
theorem laws_toLeafS.rel (k : Nat) (l0 : List (S132)) (r) (h : PK.laws_toLeafS.f k l0 = some r) (m : Nat) (hm : k ≤ m) : laws_toLeafS.f m l0 = some r:=by
 have il0:=fun k' (_ : k' < k + 1)=>(laws_toLeafS.rel_l k');rw [PK.laws_toLeafS.f] at h;rw [laws_toLeafS.f]
 try simp only [w64_eq,wu8_eq,gt_iff_lt,ge_iff_le,int_beq,fdiv33,fdiv45,bt_eq,tmodN,rdOfB,rdOfL] at h
 try simp only [shlR]
 try simp only [w64_eq,wu8_eq,gt_iff_lt,ge_iff_le,int_beq,fdiv33,fdiv45,bt_eq,tmodN,rdOfB,rdOfL,rdT3_eq,rdT5_eq,seq,maxI,minI,emp_eq,rdn3,rdn132,rdn72,rdn87,rdn101,rdn92,rdn76,rdn5,rdn63,rdn65,rdn4,rdn111,rdn83]
 refine (itE h (fun q h=>(itE h (fun q h=>((fun h=>?_) (il0 _ (by omega) _ _ _ _ h m (by omega)))) (fun q h=>(noE h)))) (fun q h=>(noE h)))
 all_goals clear il0
 all_goals (try cases h)
 all_goals (try simp only [*,if_true,if_false,↓reduceIte,Option.bind_some,List.length_cons,List.length_nil,List.length_append,Bool.not_true,Bool.not_false,Bool.true_eq_false,Bool.false_eq_true])
 all_goals (repeat first | rw [if_pos (by omega)] | rw [if_neg (by omega)])
 all_goals first | exact h | apply h | rfl | (simp_all [-Bool.forall_bool];done) | (simp_all [-Bool.forall_bool];first | exact h | apply h) | (simp_all [-Bool.forall_bool,emp_eq,int_beq];done) | (simp_all [-Bool.forall_bool];(intros;simp_all;done)) | (simp_all [-Bool.forall_bool,rdset3,rdset132,rdset72,rdset87,rdset101,rdset92,rdset76,rdset5,rdset63,rdset65,rdset4,rdset111,rdset83];done) | grind
theorem laws_toBlock.rel (k : Nat) (a0_0 : Bool) (a0_1 : Int) (l0_2 : List (S132)) (r) (h : PK.laws_toBlock.f k a0_0 a0_1 l0_2 = some r) (m : Nat) (hm : k ≤ m) : laws_toBlock.f m a0_0 a0_1 l0_2 = some (r.1,r.2.1,r.2.2):=by
 rw [PK.laws_toBlock.f] at h;rw [laws_toBlock.f]
 try simp only [w64_eq,wu8_eq,gt_iff_lt,ge_iff_le,int_beq,fdiv33,fdiv45,bt_eq,tmodN,rdOfB,rdOfL] at h
 try simp only [shlR]
 try simp only [w64_eq,wu8_eq,gt_iff_lt,ge_iff_le,int_beq,fdiv33,fdiv45,bt_eq,tmodN,rdOfB,rdOfL,rdT3_eq,rdT5_eq,seq,maxI,minI,emp_eq,rdn3,rdn132,rdn72,rdn87,rdn101,rdn92,rdn76,rdn5,rdn63,rdn65,rdn4,rdn111,rdn83]
 refine (bnE h (fun _ g h=>(fun g=>?_) (laws_toLeafS.rel _ _ _ g m (by omega))))
 all_goals (try cases h)
 all_goals (try simp only [*,if_true,if_false,↓reduceIte,Option.bind_some,List.length_cons,List.length_nil,List.length_append,Bool.not_true,Bool.not_false,Bool.true_eq_false,Bool.false_eq_true])
 all_goals (repeat first | rw [if_pos (by omega)] | rw [if_neg (by omega)])
 all_goals first | exact h | apply h | rfl | (simp_all [-Bool.forall_bool];done) | (simp_all [-Bool.forall_bool];first | exact h | apply h) | (simp_all [-Bool.forall_bool,emp_eq,int_beq];done) | (simp_all [-Bool.forall_bool];(intros;simp_all;done)) | (simp_all [-Bool.forall_bool,rdset3,rdset132,rdset72,rdset87,rdset101,rdset92,rdset76,rdset5,rdset63,rdset65,rdset4,rdset111,rdset83];done) | grind
theorem laws_toBlockS.rel_l (k : Nat) : (∀ x0 x3 x4 r,PK.laws_toBlockS.l0 k x0 x3 x4 = some r → ∀ m,k ≤ m → laws_toBlockS.c3 m x0 x4 x3 = some r):=by
 induction k using Nat.strongRecOn with
 | _ k ih =>
 have il0:=fun k' hk'=>(ih k' hk');clear ih;intro x0 x3 x4 r h m hm;cases k with
 | zero=>simp only [PK.laws_toBlockS.l0] at h;cases h
 | succ k =>
  obtain ⟨m,rfl⟩ : ∃ m',m = m' + 1:=⟨m - 1,by omega⟩;rw [PK.laws_toBlockS.l0] at h;rw [laws_toBlockS.c3]
  try simp only [w64_eq,wu8_eq,gt_iff_lt,ge_iff_le,int_beq,fdiv33,fdiv45,bt_eq,tmodN,rdOfB,rdOfL] at h
  try simp only [shlR]
  try simp only [w64_eq,wu8_eq,gt_iff_lt,ge_iff_le,int_beq,fdiv33,fdiv45,bt_eq,tmodN,rdOfB,rdOfL,rdT3_eq,rdT5_eq,seq,maxI,minI,emp_eq,rdn3,rdn132,rdn72,rdn87,rdn101,rdn92,rdn76,rdn5,rdn63,rdn65,rdn4,rdn111,rdn83]
  refine (itE h (fun q h=>(itE h (fun q h=>(bnE h (fun _ g h=>(fun g=>(itE h (fun q h=>((fun h=>?_) (il0 _ (by omega) _ _ _ _ h m (by omega)))) (fun q h=>(noE h)))) (laws_toBlock.rel _ _ _ _ _ g m (by omega))))) (fun q h=>(noE h)))) (fun q h=>?_))
  all_goals clear il0
  all_goals (try cases h)
  all_goals (try simp only [*,if_true,if_false,↓reduceIte,Option.bind_some,List.length_cons,List.length_nil,List.length_append,Bool.not_true,Bool.not_false,Bool.true_eq_false,Bool.false_eq_true])
  all_goals (repeat first | rw [if_pos (by omega)] | rw [if_neg (by omega)])
  all_goals first | exact h | apply h | rfl | (simp_all [-Bool.forall_bool];done) | (simp_all [-Bool.forall_bool];first | exact h | apply h) | (simp_all [-Bool.forall_bool,emp_eq,int_beq];done) | (simp_all [-Bool.forall_bool];(intros;simp_all;done)) | (simp_all [-Bool.forall_bool,rdset3,rdset132,rdset72,rdset87,rdset101,rdset92,rdset76,rdset5,rdset63,rdset65,rdset4,rdset111,rdset83];done) | grind
theorem laws_toBlockS.rel (k : Nat) (l0 : List (S72)) (r) (h : PK.laws_toBlockS.f k l0 = some r) (m : Nat) (hm : k ≤ m) : laws_toBlockS.f m l0 = some r:=by
 have il0:=fun k' (_ : k' < k + 1)=>(laws_toBlockS.rel_l k');rw [PK.laws_toBlockS.f] at h;rw [laws_toBlockS.f]
 try simp only [w64_eq,wu8_eq,gt_iff_lt,ge_iff_le,int_beq,fdiv33,fdiv45,bt_eq,tmodN,rdOfB,rdOfL] at h
 try simp only [shlR]
 try simp only [w64_eq,wu8_eq,gt_iff_lt,ge_iff_le,int_beq,fdiv33,fdiv45,bt_eq,tmodN,rdOfB,rdOfL,rdT3_eq,rdT5_eq,seq,maxI,minI,emp_eq,rdn3,rdn132,rdn72,rdn87,rdn101,rdn92,rdn76,rdn5,rdn63,rdn65,rdn4,rdn111,rdn83]
 refine (itE h (fun q h=>(itE h (fun q h=>((fun h=>?_) (il0 _ (by omega) _ _ _ _ h m (by omega)))) (fun q h=>(noE h)))) (fun q h=>(noE h)))
 all_goals clear il0
 all_goals (try cases h)
 all_goals (try simp only [*,if_true,if_false,↓reduceIte,Option.bind_some,List.length_cons,List.length_nil,List.length_append,Bool.not_true,Bool.not_false,Bool.true_eq_false,Bool.false_eq_true])
 all_goals (repeat first | rw [if_pos (by omega)] | rw [if_neg (by omega)])
 all_goals first | exact h | apply h | rfl | (simp_all [-Bool.forall_bool];done) | (simp_all [-Bool.forall_bool];first | exact h | apply h) | (simp_all [-Bool.forall_bool,emp_eq,int_beq];done) | (simp_all [-Bool.forall_bool];(intros;simp_all;done)) | (simp_all [-Bool.forall_bool,rdset3,rdset132,rdset72,rdset87,rdset101,rdset92,rdset76,rdset5,rdset63,rdset65,rdset4,rdset111,rdset83];done) | grind
end Go.Proofs.YtibhkbljjnlpjaaGreat.M2

namespace Go.Proofs.YtibhkbljjnlpjaaGreat.M2
open Go Go.RowKit Go.Proofs.YtibhkbljjnlpjaaGreatW.PrintWords Go.Proofs.YtibhkbljjnlpjaaGreat.PK
set_option linter.unusedVariables false
set_option linter.unusedSimpArgs false
set_option maxHeartbeats 1600000
theorem laws_toFlash.rel (k : Nat) (l0_0 : List (S72)) (r) (h : PK.laws_toFlash.f k l0_0 = some r) (m : Nat) (hm : k ≤ m) : laws_toFlash.f m l0_0 = some r:=by
 rw [PK.laws_toFlash.f] at h;rw [laws_toFlash.f]
 try simp only [w64_eq,wu8_eq,gt_iff_lt,ge_iff_le,int_beq,fdiv33,fdiv45,bt_eq,tmodN,rdOfB,rdOfL] at h
 try simp only [shlR]
 try simp only [w64_eq,wu8_eq,gt_iff_lt,ge_iff_le,int_beq,fdiv33,fdiv45,bt_eq,tmodN,rdOfB,rdOfL,rdT3_eq,rdT5_eq,seq,maxI,minI,emp_eq,rdn3,rdn132,rdn72,rdn87,rdn101,rdn92,rdn76,rdn5,rdn63,rdn65,rdn4,rdn111,rdn83]
 refine (bnE h (fun _ g h=>(fun g=>?_) (laws_toBlockS.rel _ _ _ g m (by omega))))
 all_goals (try cases h)
 all_goals (try simp only [*,if_true,if_false,↓reduceIte,Option.bind_some,List.length_cons,List.length_nil,List.length_append,Bool.not_true,Bool.not_false,Bool.true_eq_false,Bool.false_eq_true])
 all_goals (repeat first | rw [if_pos (by omega)] | rw [if_neg (by omega)])
 all_goals first | exact h | apply h | rfl | (simp_all [-Bool.forall_bool];done) | (simp_all [-Bool.forall_bool];first | exact h | apply h) | (simp_all [-Bool.forall_bool,emp_eq,int_beq];done) | (simp_all [-Bool.forall_bool];(intros;simp_all;done)) | (simp_all [-Bool.forall_bool,rdset3,rdset132,rdset72,rdset87,rdset101,rdset92,rdset76,rdset5,rdset63,rdset65,rdset4,rdset111,rdset83];done) | grind
theorem laws_eqLeaf.rel (k : Nat) (a0_0 : Int) (a0_1 : ByteArray) (a1_0 : Int) (a1_1 : ByteArray) (r) (h : PK.laws_eqLeaf.f a0_0 a0_1 a1_0 a1_1 = some r) (m : Nat) (hm : k ≤ m) : laws_eqLeaf.f m a0_0 a0_1 a1_0 a1_1 = some r:=by
 rw [PK.laws_eqLeaf.f] at h;rw [laws_eqLeaf.f]
 try simp only [w64_eq,wu8_eq,gt_iff_lt,ge_iff_le,int_beq,fdiv33,fdiv45,bt_eq,tmodN,rdOfB,rdOfL] at h
 try simp only [shlR]
 try simp only [w64_eq,wu8_eq,gt_iff_lt,ge_iff_le,int_beq,fdiv33,fdiv45,bt_eq,tmodN,rdOfB,rdOfL,rdT3_eq,rdT5_eq,seq,maxI,minI,emp_eq,rdn3,rdn132,rdn72,rdn87,rdn101,rdn92,rdn76,rdn5,rdn63,rdn65,rdn4,rdn111,rdn83]
 refine (itE h (fun q h=>(itE h (fun q h=>?_) (fun q h=>?_))) (fun q h=>?_))
 all_goals (try cases h)
 all_goals (try simp only [*,if_true,if_false,↓reduceIte,Option.bind_some,List.length_cons,List.length_nil,List.length_append,Bool.not_true,Bool.not_false,Bool.true_eq_false,Bool.false_eq_true])
 all_goals (repeat first | rw [if_pos (by omega)] | rw [if_neg (by omega)])
 all_goals first | exact h | apply h | rfl | (simp_all [-Bool.forall_bool];done) | (simp_all [-Bool.forall_bool];first | exact h | apply h) | (simp_all [-Bool.forall_bool,emp_eq,int_beq];done) | (simp_all [-Bool.forall_bool];(intros;simp_all;done)) | (simp_all [-Bool.forall_bool,rdset3,rdset132,rdset72,rdset87,rdset101,rdset92,rdset76,rdset5,rdset63,rdset65,rdset4,rdset111,rdset83];done) | grind
theorem laws_eqLeafS.rel_l (k : Nat) : (∀ x0 x1 x5 r,PK.laws_eqLeafS.l0 k x0 x1 x5 = some r → ∀ m,k ≤ m → laws_eqLeafS.c4 m x0 x1 x5 = some r):=by
 induction k using Nat.strongRecOn with
 | _ k ih =>
 have il0:=fun k' hk'=>(ih k' hk');clear ih;intro x0 x1 x5 r h m hm;cases k with
 | zero=>simp only [PK.laws_eqLeafS.l0] at h;cases h
 | succ k =>
  obtain ⟨m,rfl⟩ : ∃ m',m = m' + 1:=⟨m - 1,by omega⟩;rw [PK.laws_eqLeafS.l0] at h;rw [laws_eqLeafS.c4]
  try simp only [w64_eq,wu8_eq,gt_iff_lt,ge_iff_le,int_beq,fdiv33,fdiv45,bt_eq,tmodN,rdOfB,rdOfL] at h
  try simp only [shlR]
  try simp only [w64_eq,wu8_eq,gt_iff_lt,ge_iff_le,int_beq,fdiv33,fdiv45,bt_eq,tmodN,rdOfB,rdOfL,rdT3_eq,rdT5_eq,seq,maxI,minI,emp_eq,rdn3,rdn132,rdn72,rdn87,rdn101,rdn92,rdn76,rdn5,rdn63,rdn65,rdn4,rdn111,rdn83]
  refine (itE h (fun q h=>(itE h (fun q h=>(itE h (fun q h=>(bnE h (fun _ g h=>(fun g=>(itE h (fun q h=>((fun h=>?_) (il0 _ (by omega) _ _ _ _ h m (by omega)))) (fun q h=>?_))) (laws_eqLeaf.rel m _ _ _ _ _ g m (by omega))))) (fun q h=>(noE h)))) (fun q h=>(noE h)))) (fun q h=>?_))
  all_goals clear il0
  all_goals (try cases h)
  all_goals (try simp only [*,if_true,if_false,↓reduceIte,Option.bind_some,List.length_cons,List.length_nil,List.length_append,Bool.not_true,Bool.not_false,Bool.true_eq_false,Bool.false_eq_true])
  all_goals (repeat first | rw [if_pos (by omega)] | rw [if_neg (by omega)])
  all_goals first | exact h | apply h | rfl | (simp_all [-Bool.forall_bool];done) | (simp_all [-Bool.forall_bool];first | exact h | apply h) | (simp_all [-Bool.forall_bool,emp_eq,int_beq];done) | (simp_all [-Bool.forall_bool];(intros;simp_all;done)) | (simp_all [-Bool.forall_bool,rdset3,rdset132,rdset72,rdset87,rdset101,rdset92,rdset76,rdset5,rdset63,rdset65,rdset4,rdset111,rdset83];done) | grind
theorem laws_eqLeafS.rel (k : Nat) (l0 : List (S92)) (l1 : List (S92)) (r) (h : PK.laws_eqLeafS.f k l0 l1 = some r) (m : Nat) (hm : k ≤ m) : laws_eqLeafS.f m l0 l1 = some r:=by
 have il0:=fun k' (_ : k' < k + 1)=>(laws_eqLeafS.rel_l k');rw [PK.laws_eqLeafS.f] at h;rw [laws_eqLeafS.f]
 try simp only [w64_eq,wu8_eq,gt_iff_lt,ge_iff_le,int_beq,fdiv33,fdiv45,bt_eq,tmodN,rdOfB,rdOfL] at h
 try simp only [shlR]
 try simp only [w64_eq,wu8_eq,gt_iff_lt,ge_iff_le,int_beq,fdiv33,fdiv45,bt_eq,tmodN,rdOfB,rdOfL,rdT3_eq,rdT5_eq,seq,maxI,minI,emp_eq,rdn3,rdn132,rdn72,rdn87,rdn101,rdn92,rdn76,rdn5,rdn63,rdn65,rdn4,rdn111,rdn83]
 refine (itE h (fun q h=>((fun h=>?_) (il0 _ (by omega) _ _ _ _ h m (by omega)))) (fun q h=>?_))
 all_goals clear il0
 all_goals (try cases h)
 all_goals (try simp only [*,if_true,if_false,↓reduceIte,Option.bind_some,List.length_cons,List.length_nil,List.length_append,Bool.not_true,Bool.not_false,Bool.true_eq_false,Bool.false_eq_true])
 all_goals (repeat first | rw [if_pos (by omega)] | rw [if_neg (by omega)])
 all_goals first | exact h | apply h | rfl | (simp_all [-Bool.forall_bool];done) | (simp_all [-Bool.forall_bool];first | exact h | apply h) | (simp_all [-Bool.forall_bool,emp_eq,int_beq];done) | (simp_all [-Bool.forall_bool];(intros;simp_all;done)) | (simp_all [-Bool.forall_bool,rdset3,rdset132,rdset72,rdset87,rdset101,rdset92,rdset76,rdset5,rdset63,rdset65,rdset4,rdset111,rdset83];done) | grind
end Go.Proofs.YtibhkbljjnlpjaaGreat.M2

namespace Go.Proofs.YtibhkbljjnlpjaaGreat.M2
open Go Go.RowKit Go.Proofs.YtibhkbljjnlpjaaGreatW.PrintWords Go.Proofs.YtibhkbljjnlpjaaGreat.PK
set_option linter.unusedVariables false
set_option linter.unusedSimpArgs false
set_option maxHeartbeats 1600000
theorem laws_eqBlock.rel (k : Nat) (a0_0 : Bool) (a0_1 : Int) (l0_2 : List (S92)) (a1_0 : Bool) (a1_1 : Int) (l1_2 : List (S92)) (r) (h : PK.laws_eqBlock.f k a0_0 a0_1 l0_2 a1_0 a1_1 l1_2 = some r) (m : Nat) (hm : k ≤ m) : laws_eqBlock.f m a0_0 a0_1 l0_2 a1_0 a1_1 l1_2 = some r:=by
 rw [PK.laws_eqBlock.f] at h;rw [laws_eqBlock.f]
 try simp only [w64_eq,wu8_eq,gt_iff_lt,ge_iff_le,int_beq,fdiv33,fdiv45,bt_eq,tmodN,rdOfB,rdOfL] at h
 try simp only [shlR]
 try simp only [w64_eq,wu8_eq,gt_iff_lt,ge_iff_le,int_beq,fdiv33,fdiv45,bt_eq,tmodN,rdOfB,rdOfL,rdT3_eq,rdT5_eq,seq,maxI,minI,emp_eq,rdn3,rdn132,rdn72,rdn87,rdn101,rdn92,rdn76,rdn5,rdn63,rdn65,rdn4,rdn111,rdn83]
 refine (itE h (fun q h=>?_) (fun q h=>(itE h (fun q h=>(bnE h (fun _ g h=>(fun g=>(itE h (fun q h=>?_) (fun q h=>?_))) (laws_eqLeafS.rel _ _ _ _ g m (by omega))))) (fun q h=>?_))))
 all_goals (try cases h)
 all_goals (try simp only [*,if_true,if_false,↓reduceIte,Option.bind_some,List.length_cons,List.length_nil,List.length_append,Bool.not_true,Bool.not_false,Bool.true_eq_false,Bool.false_eq_true])
 all_goals (repeat first | rw [if_pos (by omega)] | rw [if_neg (by omega)])
 all_goals first | exact h | apply h | rfl | (simp_all [-Bool.forall_bool];done) | (simp_all [-Bool.forall_bool];first | exact h | apply h) | (simp_all [-Bool.forall_bool,emp_eq,int_beq];done) | (simp_all [-Bool.forall_bool];(intros;simp_all;done)) | (simp_all [-Bool.forall_bool,rdset3,rdset132,rdset72,rdset87,rdset101,rdset92,rdset76,rdset5,rdset63,rdset65,rdset4,rdset111,rdset83];done) | grind
theorem laws_eqBlockS.rel_l (k : Nat) : (∀ x0 x1 x5 r,PK.laws_eqBlockS.l0 k x0 x1 x5 = some r → ∀ m,k ≤ m → laws_eqBlockS.c4 m x0 x1 x5 = some r):=by
 induction k using Nat.strongRecOn with
 | _ k ih =>
 have il0:=fun k' hk'=>(ih k' hk');clear ih;intro x0 x1 x5 r h m hm;cases k with
 | zero=>simp only [PK.laws_eqBlockS.l0] at h;cases h
 | succ k =>
  obtain ⟨m,rfl⟩ : ∃ m',m = m' + 1:=⟨m - 1,by omega⟩;rw [PK.laws_eqBlockS.l0] at h;rw [laws_eqBlockS.c4]
  try simp only [w64_eq,wu8_eq,gt_iff_lt,ge_iff_le,int_beq,fdiv33,fdiv45,bt_eq,tmodN,rdOfB,rdOfL] at h
  try simp only [shlR]
  try simp only [w64_eq,wu8_eq,gt_iff_lt,ge_iff_le,int_beq,fdiv33,fdiv45,bt_eq,tmodN,rdOfB,rdOfL,rdT3_eq,rdT5_eq,seq,maxI,minI,emp_eq,rdn3,rdn132,rdn72,rdn87,rdn101,rdn92,rdn76,rdn5,rdn63,rdn65,rdn4,rdn111,rdn83]
  refine (itE h (fun q h=>(itE h (fun q h=>(itE h (fun q h=>(bnE h (fun _ g h=>(fun g=>(itE h (fun q h=>((fun h=>?_) (il0 _ (by omega) _ _ _ _ h m (by omega)))) (fun q h=>?_))) (laws_eqBlock.rel _ _ _ _ _ _ _ _ g m (by omega))))) (fun q h=>(noE h)))) (fun q h=>(noE h)))) (fun q h=>?_))
  all_goals clear il0
  all_goals (try cases h)
  all_goals (try simp only [*,if_true,if_false,↓reduceIte,Option.bind_some,List.length_cons,List.length_nil,List.length_append,Bool.not_true,Bool.not_false,Bool.true_eq_false,Bool.false_eq_true])
  all_goals (repeat first | rw [if_pos (by omega)] | rw [if_neg (by omega)])
  all_goals first | exact h | apply h | rfl | (simp_all [-Bool.forall_bool];done) | (simp_all [-Bool.forall_bool];first | exact h | apply h) | (simp_all [-Bool.forall_bool,emp_eq,int_beq];done) | (simp_all [-Bool.forall_bool];(intros;simp_all;done)) | (simp_all [-Bool.forall_bool,rdset3,rdset132,rdset72,rdset87,rdset101,rdset92,rdset76,rdset5,rdset63,rdset65,rdset4,rdset111,rdset83];done) | grind
theorem laws_eqBlockS.rel (k : Nat) (l0 : List (S76)) (l1 : List (S76)) (r) (h : PK.laws_eqBlockS.f k l0 l1 = some r) (m : Nat) (hm : k ≤ m) : laws_eqBlockS.f m l0 l1 = some r:=by
 have il0:=fun k' (_ : k' < k + 1)=>(laws_eqBlockS.rel_l k');rw [PK.laws_eqBlockS.f] at h;rw [laws_eqBlockS.f]
 try simp only [w64_eq,wu8_eq,gt_iff_lt,ge_iff_le,int_beq,fdiv33,fdiv45,bt_eq,tmodN,rdOfB,rdOfL] at h
 try simp only [shlR]
 try simp only [w64_eq,wu8_eq,gt_iff_lt,ge_iff_le,int_beq,fdiv33,fdiv45,bt_eq,tmodN,rdOfB,rdOfL,rdT3_eq,rdT5_eq,seq,maxI,minI,emp_eq,rdn3,rdn132,rdn72,rdn87,rdn101,rdn92,rdn76,rdn5,rdn63,rdn65,rdn4,rdn111,rdn83]
 refine (itE h (fun q h=>((fun h=>?_) (il0 _ (by omega) _ _ _ _ h m (by omega)))) (fun q h=>?_))
 all_goals clear il0
 all_goals (try cases h)
 all_goals (try simp only [*,if_true,if_false,↓reduceIte,Option.bind_some,List.length_cons,List.length_nil,List.length_append,Bool.not_true,Bool.not_false,Bool.true_eq_false,Bool.false_eq_true])
 all_goals (repeat first | rw [if_pos (by omega)] | rw [if_neg (by omega)])
 all_goals first | exact h | apply h | rfl | (simp_all [-Bool.forall_bool];done) | (simp_all [-Bool.forall_bool];first | exact h | apply h) | (simp_all [-Bool.forall_bool,emp_eq,int_beq];done) | (simp_all [-Bool.forall_bool];(intros;simp_all;done)) | (simp_all [-Bool.forall_bool,rdset3,rdset132,rdset72,rdset87,rdset101,rdset92,rdset76,rdset5,rdset63,rdset65,rdset4,rdset111,rdset83];done) | grind
theorem laws_eqFlash.rel (k : Nat) (l0_0 : List (S76)) (l1_0 : List (S76)) (r) (h : PK.laws_eqFlash.f k l0_0 l1_0 = some r) (m : Nat) (hm : k ≤ m) : laws_eqFlash.f m l0_0 l1_0 = some r:=by
 rw [PK.laws_eqFlash.f] at h;rw [laws_eqFlash.f]
 try simp only [w64_eq,wu8_eq,gt_iff_lt,ge_iff_le,int_beq,fdiv33,fdiv45,bt_eq,tmodN,rdOfB,rdOfL] at h
 try simp only [shlR]
 try simp only [w64_eq,wu8_eq,gt_iff_lt,ge_iff_le,int_beq,fdiv33,fdiv45,bt_eq,tmodN,rdOfB,rdOfL,rdT3_eq,rdT5_eq,seq,maxI,minI,emp_eq,rdn3,rdn132,rdn72,rdn87,rdn101,rdn92,rdn76,rdn5,rdn63,rdn65,rdn4,rdn111,rdn83]
 refine (bnE h (fun _ g h=>(fun g=>(itE h (fun q h=>?_) (fun q h=>?_))) (laws_eqBlockS.rel _ _ _ _ g m (by omega))))
 all_goals (try cases h)
 all_goals (try simp only [*,if_true,if_false,↓reduceIte,Option.bind_some,List.length_cons,List.length_nil,List.length_append,Bool.not_true,Bool.not_false,Bool.true_eq_false,Bool.false_eq_true])
 all_goals (repeat first | rw [if_pos (by omega)] | rw [if_neg (by omega)])
 all_goals first | exact h | apply h | rfl | (simp_all [-Bool.forall_bool];done) | (simp_all [-Bool.forall_bool];first | exact h | apply h) | (simp_all [-Bool.forall_bool,emp_eq,int_beq];done) | (simp_all [-Bool.forall_bool];(intros;simp_all;done)) | (simp_all [-Bool.forall_bool,rdset3,rdset132,rdset72,rdset87,rdset101,rdset92,rdset76,rdset5,rdset63,rdset65,rdset4,rdset111,rdset83];done) | grind
end Go.Proofs.YtibhkbljjnlpjaaGreat.M2



namespace Go.Proofs.YtibhkbljjnlpjaaGreat.Pu
set_option linter.unusedVariables false
set_option linter.unusedSimpArgs false
open Go.RowKit Go.Proofs.YtibhkbljjnlpjaaGreatW.PrintWords
theorem w64 {x : Int} (h1 : -9223372036854775808 ≤ x) (h2 : x ≤ 9223372036854775807) : wrap64 x = x:=by
 unfold wrap64;omega
theorem wsucc {i n : Nat} (h : i < n) (hn : n ≤ 9223372036854775807) : wrap64 ((i : Int) + 1) = ((i + 1 : Nat) : Int):=by
 rw [w64 (by omega) (by omega)];rfl
theorem ev_some {α : Type} {g : Nat → Option α} {r : α} (h : ∀ k,g (k + 1) = some r) : Ev g r:=Ev.step h (Ev.now r)
theorem ev_const {α : Type} {o : Option α} {r : α} (h : o = some r) : Ev (fun _=>o) r:=⟨0,fun _ _=>h⟩
theorem ev_bind {α β : Type} {g : Nat → Option α} {f : Nat → α → Option β} {a : α} {r : β} (h : Ev g a) (k : Ev (fun n=>f n a) r) : Ev (fun n=>(g n).bind (f n)) r:=Ev.bind h k
theorem ev_uniq {α : Type} {g : Nat → Option α} {a b : α} (h : Ev g a) (k : Ev g b) : a = b:=by
 obtain ⟨K,hK⟩:=h;obtain ⟨M,hM⟩:=k;have h1:=hK (max K M) (Nat.le_max_left _ _);rw [hM (max K M) (Nat.le_max_right _ _)] at h1;injection h1 with h1;exact h1.symm
theorem ev_ext {α : Type} {g f : Nat → Option α} {r : α} (h : ∀ k,g k = f k) (k : Ev f r) : Ev g r:=Ev.congr h k
theorem ev_fill {β : Type} {L : Nat → List β → Int → Option (List β)} {E : Nat → Int → Option β} {n : Nat} {e : Nat → β} (hn : n ≤ 9223372036854775807)
  (hs : ∀ k xs i,L (k + 1) xs i = if i < (n : Int) then (if 0 ≤ i then ((E k i).bind fun b=>if i < (xs.length : Int) then L k (xs.set i.toNat b) (wrap64 (i + 1)) else none) else none) else some xs)
  (hE : ∀ i,i < n → Ev (fun k=>E k (i : Int)) (e i)) :
  ∀ (d i : Nat) (xs : List β),xs.length = n → i + d = n → Ev (fun k=>L k xs (i : Int)) (xs.take i ++ (List.range' i d).map e):=by
 intro d
 induction d with
 | zero =>
  intro i xs hl hi;refine ev_some fun k=>?_;rw [hs,if_neg (by omega)];simp [List.take_of_length_le (show xs.length ≤ i by omega)]
 | succ d ih =>
  intro i xs hl hi;refine Ev.step (f:=fun k=>(E k (i : Int)).bind fun b=>L k (xs.set i b) ((i + 1 : Nat) : Int)) (fun k=>?_) ?_
  ·rw [hs,if_pos (by omega),if_pos (by omega),wsucc (n:=n) (by omega) hn]
   congr 1
   funext b
   rw [if_pos (by omega)];rfl
  refine ev_bind (hE i (by omega)) ?_;have h:=ih (i + 1) (xs.set i (e i)) (by rw [List.length_set];exact hl) (by omega)
  have e1 : (xs.set i (e i)).take (i + 1) ++ (List.range' (i + 1) d).map e = xs.take i ++ (List.range' i (d + 1)).map e:=by
   rw [List.range'_succ,List.map_cons,List.take_succ_eq_append_getElem (by rw [List.length_set];omega),List.getElem_set_self,List.take_set_of_le (Nat.le_refl _)];simp
  rw [e1] at h;exact h
theorem map_range {α β : Type} (l : List α) (z : α) (g : α → β) : (List.range' 0 l.length).map (fun i=>g (l.getD i z)) = l.map g:=by
 apply List.ext_getElem
 ·simp
 intro i h1 h2;simp only [List.length_map] at h2;simp [List.getD_eq_getElem?_getD,List.getElem?_eq_getElem h2]
theorem ev_fill_all {α β : Type} {L : Nat → List β → Int → Option (List β)} {E : Nat → Int → Option β} {l : List α} {z : α} {g : α → β} {xs : List β} (hn : l.length ≤ 9223372036854775807)
  (hs : ∀ k xs i,L (k + 1) xs i = if i < (l.length : Int) then (if 0 ≤ i then ((E k i).bind fun b=>if i < (xs.length : Int) then L k (xs.set i.toNat b) (wrap64 (i + 1)) else none) else none) else some xs)
  (hE : ∀ i,i < l.length → Ev (fun k=>E k (i : Int)) (g (l.getD i z))) (hx : xs.length = l.length) : Ev (fun k=>L k xs 0) (l.map g):=by
 have h:=ev_fill (e:=fun i=>g (l.getD i z)) hn hs hE l.length 0 xs hx (by omega);rw [map_range] at h
 simpa using h
theorem ev_all {L E : Nat → Int → Option Bool} {n m : Nat} (hn : n ≤ 9223372036854775807) (hnm : n ≤ m)
  (hs : ∀ k i,L (k + 1) i = if i < (n : Int) then (if 0 ≤ i then (if i < (m : Int) then ((E k i).bind fun b=>if b = true then L k (wrap64 (i + 1)) else some false) else none) else none) else some true)
  (hE : ∀ i,i < n → Ev (fun k=>E k (i : Int)) true) : ∀ (d i : Nat),i + d = n → Ev (fun k=>L k (i : Int)) true:=by
 intro d
 induction d with
 | zero=>intro i hi;exact ev_some fun k=>by rw [hs,if_neg (by omega)]
 | succ d ih =>
  intro i hi;refine Ev.step (f:=fun k=>(E k (i : Int)).bind fun b=>if b = true then L k ((i + 1 : Nat) : Int) else some false) (fun k=>?_) (ev_bind (hE i (by omega)) (by simpa using ih (i + 1) (by omega)));rw [hs,if_pos (by omega),if_pos (by omega),if_pos (by omega),wsucc (n:=n) (by omega) hn]
theorem ev_size {L E : Nat → Int → Int → Option Int} {n : Nat} {P : Nat → Prop} (hn : n ≤ 9223372036854775807)
  (hs : ∀ k a i,L (k + 1) a i = if i < (n : Int) then (if 0 ≤ i then ((E k i a).bind fun t=>if t < 0 then some (-1) else L k t (wrap64 (i + 1))) else none) else some a)
  (hE : ∀ i a,i < n → 0 ≤ a → a ≤ 1048576 → ∃ t,Ev (fun k=>E k (i : Int) a) t ∧ t ≤ a ∧ (0 ≤ t → P i)) :
  ∀ (d i : Nat) (a : Int),i + d = n → 0 ≤ a → a ≤ 1048576 → ∃ r,Ev (fun k=>L k a (i : Int)) r ∧ r ≤ a ∧ (0 ≤ r → ∀ m,i ≤ m → m < n → P m):=by
 intro d
 induction d with
 | zero=>intro i a hi h0 h1;exact ⟨a,ev_some fun k=>by rw [hs,if_neg (by omega)],Int.le_refl _,fun _ m h2 h3=>by omega⟩
 | succ d ih =>
  intro i a hi h0 h1;obtain ⟨t,ht,hta,hp⟩:=hE i a (by omega) h0 h1
  have hst : ∀ k,L (k + 1) a (i : Int) = (E k (i : Int) a).bind fun t=>if t < 0 then some (-1) else L k t ((i + 1 : Nat) : Int):=fun k=>by
   rw [hs,if_pos (by omega),if_pos (by omega),wsucc (n:=n) (by omega) hn]
  by_cases hneg : t < 0
  ·exact ⟨-1,Ev.step hst (ev_bind ht (by simp only [if_pos hneg];exact Ev.now _)),by omega,fun h=>by omega⟩
  obtain ⟨r,hr,hra,hq⟩:=ih (i + 1) t (by omega) (by omega) (by omega);refine ⟨r,Ev.step hst (ev_bind ht (by simp only [if_neg hneg];exact hr)),by omega,fun h0r m h2 h3=>?_⟩
  by_cases e : m = i
  ·subst e;exact hp (by omega)
  exact hq h0r m (by omega) h3
end Go.Proofs.YtibhkbljjnlpjaaGreat.Pu

namespace Go.Proofs.YtibhkbljjnlpjaaGreat.Pu
set_option linter.unusedVariables false
set_option linter.unusedSimpArgs false
open Go.RowKit Go.Proofs.YtibhkbljjnlpjaaGreatW.PrintWords
def findI (T : Nat → Bool) : Nat → Nat → Int
 | _,0=>-1
 | i,d + 1=>if T i = true then (i : Int) else findI T (i + 1) d
theorem getD_mem' {α : Type} {l : List α} {i : Nat} {z : α} (hi : i < l.length) : l.getD i z ∈ l:=by
 rw [List.getD_eq_getElem?_getD,List.getElem?_eq_getElem hi];exact List.getElem_mem hi
end Go.Proofs.YtibhkbljjnlpjaaGreat.Pu

namespace Go.Proofs.YtibhkbljjnlpjaaGreat.Pu
set_option linter.unusedVariables false
set_option linter.unusedSimpArgs false
open Go.RowKit Go.Proofs.YtibhkbljjnlpjaaGreat.PK Go.Proofs.YtibhkbljjnlpjaaGreatW.PrintWords
end Go.Proofs.YtibhkbljjnlpjaaGreat.Pu

namespace Go.Proofs.YtibhkbljjnlpjaaGreat.Pu
set_option linter.unusedVariables false
set_option linter.unusedSimpArgs false
open Go.RowKit Go.Proofs.YtibhkbljjnlpjaaGreat.PK Go.Proofs.YtibhkbljjnlpjaaGreatW.PrintWords
end Go.Proofs.YtibhkbljjnlpjaaGreat.Pu

namespace Go.Proofs.YtibhkbljjnlpjaaGreat.M2.Mp
set_option linter.unusedVariables false
set_option linter.unusedSimpArgs false
open Go.RowKit Go.Proofs.YtibhkbljjnlpjaaGreat.PK Go.Proofs.YtibhkbljjnlpjaaGreatW.PrintWords Go.Proofs.YtibhkbljjnlpjaaGreat.Pu
def EvX {α : Type} (g : Nat → Option α) (P : α → Prop) : Prop:=∃ r,Ev g r ∧ P r
theorem ev_rel {α β : Type} {g : Nat → Option α} {f : Nat → Option β} {a : α} {c : α → β} (h : Ev g a) (hr : ∀ k r,g k = some r → ∀ m,k ≤ m → f m = some (c r)) : Ev f (c a):=by
 obtain ⟨K,hK⟩:=h;exact ⟨K,fun m hm=>hr K a (hK K (Nat.le_refl _)) m hm⟩
theorem evx_out {g : Nat → Option Bool} (h : EvX g (fun r=>r = true)) : ∃ k,g k = some true:=by
 obtain ⟨r,⟨K,hK⟩,rfl⟩:=h;exact ⟨K,hK K (Nat.le_refl _)⟩
def Cur (b : List Int) (i : Int) : Prop:=0 ≤ i ∧ i ≤ b.length
abbrev Cb (b : List Int) : Prop:=b.length ≤ 9223372036854775807
end Go.Proofs.YtibhkbljjnlpjaaGreat.M2.Mp

namespace Go.Proofs.YtibhkbljjnlpjaaGreat.Pu
set_option linter.unusedVariables false
set_option linter.unusedSimpArgs false
open Go.RowKit Go.Proofs.YtibhkbljjnlpjaaGreat.PK Go.Proofs.YtibhkbljjnlpjaaGreatW.PrintWords
def varL (n : Nat) : List Int:=if h : n > 127 then ((n % 128 + 128 : Nat) : Int) :: varL (n / 128) else [(n : Int)]
theorem varL_long {n : Nat} (h : n > 127) : varL n = ((n % 128 + 128 : Nat) : Int) :: varL (n / 128):=by rw [varL,dif_pos h]
theorem varL_short {n : Nat} (h : ¬ n > 127) : varL n = [(n : Int)]:=by rw [varL,dif_neg h]
theorem varL_len : ∀ (d n : Nat),n < 128 ^ (d + 1) → (varL n).length ≤ d + 1 ∧ 1 ≤ (varL n).length
 | 0,n,h=>by rw [varL_short (by omega)];simp
 | d + 1,n,h=>by
  by_cases hn : n > 127
  ·rw [varL_long hn];have:=varL_len d (n / 128) (by rw [Nat.pow_succ] at h;omega);simp only [List.length_cons];omega
  rw [varL_short hn];simp
theorem varL_len5 {n : Nat} (h : n ≤ 1000000000) : (varL n).length ≤ 5 ∧ 1 ≤ (varL n).length:=varL_len 4 n (by omega)
theorem wbyte {n : Nat} (h : n > 127) (hn : n ≤ 1000000000) : wrap64 (Int.tdiv (n : Int) 128) = ((n / 128 : Nat) : Int) ∧ wrap64 (Int.tmod (n : Int) 128 + 128) % 256 = ((n % 128 + 128 : Nat) : Int):=by
 rw [Int.tdiv_eq_ediv_of_nonneg (by omega),Int.tmod_eq_emod_of_nonneg (by omega),w64 (by omega) (by omega),w64 (by omega) (by omega)];omega
theorem sVar_ev : ∀ (d n : Nat) (acc : List Int),n < 128 ^ (d + 1) → n ≤ 1000000000 → acc.length + d ≤ 100 → Ev (fun k=>spec_l01Var.l0 k n acc) (strOfNums (acc ++ varL n))
 | 0,n,acc,h,hn,ha=>ev_some fun k=>by
  simp only [spec_l01Var.l0];rw [if_neg (by omega),if_pos (by omega),varL_short (by omega),show (n : Int) % 256 = n by omega]
 | d + 1,n,acc,h,hn,ha=>by
  by_cases h1 : n > 127
  ·have:=sVar_ev d (n / 128) (acc ++ [((n % 128 + 128 : Nat) : Int)]) (by rw [Nat.pow_succ] at h;omega) (by omega) (by simp;omega);rw [varL_long h1,show acc ++ ((n % 128 + 128 : Nat) : Int) :: varL (n / 128) = (acc ++ [((n % 128 + 128 : Nat) : Int)]) ++ varL (n / 128) by simp];refine Ev.step (fun k=>?_) this;simp only [spec_l01Var.l0];rw [if_pos (by omega),if_pos (by omega),(wbyte h1 hn).1,(wbyte h1 hn).2]
  refine ev_some fun k=>?_;simp only [spec_l01Var.l0];rw [if_neg (by omega),if_pos (by omega),varL_short h1,show (n : Int) % 256 = n by omega]
theorem l01Var_ev {n : Int} (h0 : 0 ≤ n) (h : n ≤ 1000000000) : Ev (fun k=>spec_l01Var.f k n) (strOfNums (varL n.toNat)):=by
 have:=sVar_ev 4 n.toNat [] (by omega) (by omega) (by simp);rw [List.nil_append,show ((n.toNat : Nat) : Int) = n by omega] at this;exact this
theorem strOf_size (l : List Int) : (strOfNums l).size = l.length:=by
 unfold strOfNums;simp [ByteArray.size]
end Go.Proofs.YtibhkbljjnlpjaaGreat.Pu

namespace Go.Proofs.YtibhkbljjnlpjaaGreat.Pu
set_option linter.unusedVariables false
set_option linter.unusedSimpArgs false
open Go.RowKit Go.Proofs.YtibhkbljjnlpjaaGreat.PK Go.Proofs.YtibhkbljjnlpjaaGreatW.PrintWords
def byt (t : ByteArray) : List Nat:=t.data.toList.map UInt8.toNat
theorem byt_len (t : ByteArray) : (byt t).length = t.size:=by unfold byt;rw [List.length_map,Array.length_toList];rfl
theorem bt_byt (t : ByteArray) (i : Nat) : bt t (i : Int) = (((byt t).getD i 0 : Nat) : Int):=by
 unfold bt
 by_cases h : i < t.size
 ·rw [dif_pos (show ((i : Int)).toNat < t.size from h)];rw [List.getD_eq_getElem?_getD,List.getElem?_eq_getElem (by rw [byt_len];exact h)];unfold byt;rw [List.getElem_map,Array.getElem_toList];rfl
 rw [dif_neg (show ¬ ((i : Int)).toNat < t.size from h),List.getD_eq_getElem?_getD,List.getElem?_eq_none (by rw [byt_len];omega)];rfl
theorem byt_lt (t : ByteArray) : ∀ b ∈ byt t,b < 256:=by
 intro b hb;obtain ⟨x,_,rfl⟩:=List.mem_map.1 hb;exact UInt8.toNat_lt x
theorem byt_get_lt (t : ByteArray) (i : Nat) : (byt t).getD i 0 < 256:=by
 by_cases h : i < (byt t).length
 ·exact byt_lt t _ (getD_mem' h)
 rw [List.getD_eq_getElem?_getD,List.getElem?_eq_none (by omega)];exact by decide
theorem byt_inj {s t : ByteArray} (h : byt s = byt t) : s = t:=by
 unfold byt at h;have h2:=(List.map_inj_right (fun a b e=>UInt8.toNat_inj.1 e)).1 h;have h3:=Array.toList_inj.1 h2;cases s;cases t;simp only at h3;rw [h3]
theorem byt_app (s t : ByteArray) : byt (s ++ t) = byt s ++ byt t:=by
 unfold byt;rw [show (s ++ t).data = s.data ++ t.data from ByteArray.data_append,Array.toList_append,List.map_append]
theorem byt_str (l : List Int) (h : ∀ x ∈ l,0 ≤ x ∧ x < 256) : byt (strOfNums l) = l.map Int.toNat:=by
 unfold byt strOfNums;rw [List.map_map];refine List.map_congr_left fun x hx=>?_;have:=h x hx;show (UInt8.ofNat x.toNat).toNat = x.toNat;rw [UInt8.toNat_ofNat'];omega
theorem byt_sub (t : ByteArray) (a b : Nat) : byt (t.extract a b) = ((byt t).drop a).take (b - a):=by
 unfold byt;rw [ByteArray.data_extract,Array.toList_extract,List.extract_eq_take_drop,List.map_take,List.map_drop]
theorem toList_iff (s t : ByteArray) : s.toList = t.toList ↔ byt s = byt t:=by
 rw [ByteArray.toList_eq,ByteArray.toList_eq];constructor
 ·intro h;unfold byt;rw [h]
 intro h;rw [byt_inj h]
theorem varL_byte (n : Nat) : ∀ y ∈ varL n,0 ≤ y ∧ y < 256:=by
 induction n using Nat.strongRecOn with
 | _ n ih =>
  intro y hy
  by_cases hn : n > 127
  ·rw [varL_long hn] at hy;rcases List.mem_cons.1 hy with hy | hy
   ·omega
   exact ih (n / 128) (by omega) y hy
  rw [varL_short hn] at hy;obtain rfl:=List.mem_singleton.1 hy;omega
def valB : List Nat → Nat
 | []=>0
 | b :: r=>b % 128 + 128 * valB r
theorem val_snoc : ∀ (l : List Nat) (x : Nat),valB (l ++ [x]) = valB l + x % 128 * 128 ^ l.length
 | [],x=>by simp [valB]
 | b :: r,x=>by
  show b % 128 + 128 * valB (r ++ [x]) = b % 128 + 128 * valB r + x % 128 * 128 ^ (r.length + 1);rw [val_snoc r x,Nat.mul_add,Nat.pow_succ,← Nat.add_assoc]
  congr 1
  rw [Nat.mul_comm 128,Nat.mul_assoc]
theorem val_lt : ∀ l : List Nat,valB l < 128 ^ l.length
 | []=>by decide
 | b :: r=>by
  have:=val_lt r;show b % 128 + 128 * valB r < 128 ^ (r.length + 1);rw [Nat.pow_succ];omega
theorem val_pos : ∀ (pre : List Nat) {x : Nat},x < 128 → x ≠ 0 → 1 ≤ valB (pre ++ [x])
 | [],x,h,h0=>by show 1 ≤ x % 128 + 128 * 0;omega
 | b :: r,x,h,h0=>by
  have:=val_pos r h h0;show 1 ≤ b % 128 + 128 * valB (r ++ [x]);omega
theorem canon1 : ∀ (pre : List Nat) {x : Nat},(∀ b ∈ pre,128 ≤ b ∧ b < 256) → x < 128 → (pre = [] ∨ x ≠ 0) → varL (valB (pre ++ [x])) = (pre ++ [x]).map fun b : Nat=>(b : Int)
 | [],x,_,hx,_=>by
  have e : valB ([] ++ [x]) = x:=by show x % 128 + 128 * 0 = x;omega
  rw [e,varL_short (by omega)];rfl
 | b :: r,x,h,hx,h0=>by
  have hx0 : x ≠ 0:=by
   rcases h0 with h0 | h0
   ·cases h0
   exact h0
  have hp:=val_pos r hx hx0;have hb:=h b List.mem_cons_self;have e : valB (b :: r ++ [x]) = b % 128 + 128 * valB (r ++ [x]):=rfl;rw [e,varL_long (by omega),show (b % 128 + 128 * valB (r ++ [x])) / 128 = valB (r ++ [x]) by omega,canon1 r (fun c hc=>h c (List.mem_cons_of_mem _ hc)) hx (.inr hx0)];have e3 : (((b % 128 + 128 * valB (r ++ [x])) % 128 + 128 : Nat) : Int) = (b : Int):=by omega
  rw [e3];rfl
theorem varL_zero {n : Nat} (h : varL n = [0]) : n = 0:=by
 by_cases hn : n > 127
 ·rw [varL_long hn] at h;have h1:=congrArg List.length h
  have h2:=(varL_len n (n / 128) (by
   have : n < 128 ^ n:=Nat.lt_pow_self (by decide)
   rw [Nat.pow_succ];omega)).2
  simp only [List.length_cons,List.length_nil] at h1;omega
 rw [varL_short hn] at h;injection h with h1;omega
theorem canon2 : ∀ (n : Nat) (l : List Int),varL n = l ++ [0] → l = []:=by
 intro n
 induction n using Nat.strongRecOn with
 | _ n ih =>
  intro l h
  by_cases hn : n > 127
  ·rw [varL_long hn] at h;cases l with
   | nil=>rfl
   | cons c l =>
    injection h with h1 h2;have:=ih (n / 128) (by omega) l h2;subst this;have:=varL_zero h2;omega
  rw [varL_short hn] at h;cases l with
  | nil=>rfl
  | cons c l =>
   injection h with h1 h2;have:=congrArg List.length h2;simp at this
def rvL : List Nat → Nat → Nat → Nat → Option (Nat × Nat)
 | _,0,_,_=>none
 | [],_ + 1,_,_=>none
 | x :: r,d + 1,k,n=>if x ≥ 128 then rvL r d (k + 1) (n + x % 128 * 128 ^ k) else if (x = 0 ∧ k > 0) ∨ n + x % 128 * 128 ^ k > 1000000000 then none else some (n + x % 128 * 128 ^ k,k + 1)
def rvRes (a : Int) : Option (Nat × Nat) → Int × Int × Bool
 | none=>(0,0,false)
 | some z=>((z.1 : Int),a + (z.2 : Int),true)
def rvB (t : ByteArray) (a : Int) : Int × Int × Bool:=if 0 ≤ a ∧ a ≤ (t.size : Int) then rvRes a (rvL ((byt t).drop a.toNat) 5 0 0) else (0,0,false)
theorem drop_byt {t : ByteArray} {i : Nat} (h : i < t.size) : (byt t).drop i = (byt t).getD i 0 :: (byt t).drop (i + 1):=by
 rw [List.drop_eq_getElem_cons (by rw [byt_len];exact h),List.getD_eq_getElem?_getD,List.getElem?_eq_getElem (by rw [byt_len];exact h)];rfl
theorem shl7 {x k : Nat} (hx : x < 128) (hk : k < 5) : shl .i64 (x : Int) (wrap64 (7 * (k : Int))) = ((x * 128 ^ k : Nat) : Int):=by
 have e : wrap64 (7 * (k : Int)) = 7 * (k : Int):=w64 (by omega) (by omega);rw [e];have h:=shl_small (k:=.i64) (x:=(x : Int)) (y:=7 * (k : Int)) rfl (by show (7 * (k : Int)) ≤ ((IntKind.bits .i64 : Nat) : Int);rw [show IntKind.bits .i64 = 64 from rfl];omega);rw [← h,show (7 * (k : Int)).toNat = 7 * k by omega];have p : (128 : Nat) ^ k = 2 ^ (7 * k):=by rw [Nat.pow_mul]
 have q : (128 : Nat) ^ k ≤ 128 ^ 4:=Nat.pow_le_pow_right (by decide) (by omega);have e2 : (x : Int) * 2 ^ (7 * k) = ((x * 128 ^ k : Nat) : Int):=by rw [p];push_cast;rfl
 rw [e2,Go.IntKind.wrap_i64];have : x * 128 ^ k ≤ 127 * 128 ^ 4:=Nat.mul_le_mul (by omega) q;omega
theorem tmod128' {x : Nat} (h : x < 256) : Int.tmod (wrap64 ((x : Nat) : Int)) 128 = ((x % 128 : Nat) : Int):=by
 rw [w64 (by omega) (by omega),Int.tmod_eq_emod_of_nonneg (by omega)];omega
theorem pow5 {k : Nat} (h : k ≤ 5) : (128 : Nat) ^ k ≤ 34359738368:=Nat.le_trans (Nat.pow_le_pow_right (by decide) h) (by decide)
theorem step_lt {n x k : Nat} (hn : n < 128 ^ k) : n + x % 128 * 128 ^ k < 128 ^ (k + 1):=by
 rw [Nat.pow_succ];have : x % 128 * 128 ^ k ≤ 127 * 128 ^ k:=Nat.mul_le_mul_right _ (by omega);omega
theorem rvL_zero (l : List Nat) (k n : Nat) : rvL l 0 k n = none:=by cases l <;> rfl
theorem rvL_nil (d k n : Nat) : rvL [] d k n = none:=by cases d <;> rfl
theorem rvL_cons (x : Nat) (r : List Nat) (d k n : Nat) : rvL (x :: r) (d + 1) k n = if x ≥ 128 then rvL r d (k + 1) (n + x % 128 * 128 ^ k) else if (x = 0 ∧ k > 0) ∨ n + x % 128 * 128 ^ k > 1000000000 then none else some (n + x % 128 * 128 ^ k,k + 1):=by rw [rvL]
theorem res_some {a : Int} {M k : Nat} {b : Int} (h : b = a + ((k + 1 : Nat) : Int)) : some ((M : Int),b,true) = some (rvRes a (some (M,k + 1))):=by subst h;rfl
theorem iRV_step (K : Nat) (t : ByteArray) (a k n x M : Nat) (hs : t.size ≤ 1099511627776) (hk : k < 5) (hlt : a + k < t.size) (hx : x < 256) (eb : bt t ((a + k : Nat) : Int) = (x : Int)) (hM : n + x % 128 * 128 ^ k = M) (hM2 : M ≤ 34359738368) :
  impl_ReadVar.j1 (K + 1) t (a : Int) (n : Int) (k : Int) true = if x ≥ 128 then impl_ReadVar.l0 K t (a : Int) (M : Int) ((k + 1 : Nat) : Int) else some (rvRes (a : Int) (if (x = 0 ∧ k > 0) ∨ M > 1000000000 then none else some (M,k + 1))):=by
 have en : wrap64 ((n : Int) + shl .i64 (Int.tmod (wrap64 ((x : Nat) : Int)) 128) (wrap64 (7 * (k : Int)))) = (M : Int):=by
  rw [tmod128' hx,shl7 (by omega) hk,w64 (by omega) (by omega)];omega
 have ea : wrap64 ((a : Int) + (k : Int)) = ((a + k : Nat) : Int):=by rw [w64 (by omega) (by omega)];omega
 have wx : wrap64 ((x : Nat) : Int) = (x : Int):=w64 (by omega) (by omega);have e7 : (0 : Int) ≤ wrap64 (7 * (k : Int)):=by rw [w64 (by omega) (by omega)];omega
 clear hM;rw [wx] at en;simp only [impl_ReadVar.j1,ea,eb,en,wx,if_true,if_pos (show (0 : Int) ≤ ((a + k : Nat) : Int) by omega),if_pos (show ((a + k : Nat) : Int) < (t.size : Int) by omega),if_pos e7,wsucc (n:=5) hk (by omega),wsucc (n:=t.size) hlt (by omega)]
 by_cases h1 : x ≥ 128
 ·rw [if_pos (by omega),if_pos h1]
 rw [if_neg (by omega),if_neg h1]
 by_cases h4 : M > 1000000000
 ·rw [if_pos (show (x = 0 ∧ k > 0) ∨ M > 1000000000 from .inr h4)]
  by_cases h2 : (x : Int) = 0
  ·rw [if_pos h2]
   by_cases h3 : (k : Int) > 0
   ·rw [if_pos h3];rfl
   rw [if_neg h3,if_pos (by omega)];rfl
  rw [if_neg h2,if_pos (by omega)];rfl
 by_cases h2 : (x : Int) = 0
 ·rw [if_pos h2]
  by_cases h3 : (k : Int) > 0
  ·rw [if_pos h3,if_pos (show (x = 0 ∧ k > 0) ∨ M > 1000000000 from .inl ⟨by omega,by omega⟩)];rfl
  rw [if_neg h3,if_neg (by omega),if_neg (by omega)];exact res_some (by omega)
 rw [if_neg h2,if_neg (by omega),if_neg (by omega)];exact res_some (by omega)
theorem iReadVar_ev (t : ByteArray) (a : Int) (hs : t.size ≤ 1099511627776) (ha : a ≤ (t.size : Int)) : Ev (fun k=>impl_ReadVar.f k t a) (rvB t a):=by
 unfold impl_ReadVar.f rvB
 by_cases h0 : 0 ≤ a
 ·rw [if_pos ⟨h0,ha⟩];obtain ⟨a,rfl⟩ : ∃ m : Nat,a = (m : Int):=⟨a.toNat,by omega⟩;rw [Int.toNat_natCast]
  have main : ∀ (d k n : Nat),k + d = 5 → n < 128 ^ k → Ev (fun K=>impl_ReadVar.l0 K t (a : Int) (n : Int) (k : Int)) (rvRes (a : Int) (rvL ((byt t).drop (a + k)) d k n)):=by
   intro d
   induction d with
   | zero =>
    intro k n hk hn;rw [rvL_zero];refine Ev.step (f:=fun K=>impl_ReadVar.j1 K t (a : Int) (n : Int) (k : Int) false) (fun K=>by simp only [impl_ReadVar.l0];rw [if_neg (by omega)]) (ev_some fun K=>?_);simp only [impl_ReadVar.j1];rfl
   | succ d ih =>
    intro k n hk hn;refine Ev.step (f:=fun K=>impl_ReadVar.j1 K t (a : Int) (n : Int) (k : Int) (decide ((a + k : Nat) < t.size))) (fun K=>?_) ?_
    ·simp only [impl_ReadVar.l0];rw [if_pos (by omega),if_pos (by omega),w64 (x:=(t.size : Int) - k) (by omega) (by omega)]
     congr 1
     exact decide_eq_decide.2 (by omega)
    by_cases hlt : a + k < t.size
    ·rw [decide_eq_true hlt,drop_byt hlt,rvL_cons];have hx:=byt_get_lt t (a + k);have eb:=bt_byt t (a + k);generalize (byt t).getD (a + k) 0 = x at hx eb ⊢;have sl:=step_lt (x:=x) hn;have p6:=pow5 (show k + 1 ≤ 5 by omega);have st:=fun K=>iRV_step K t a k n x _ hs (by omega) hlt hx eb rfl (by omega)
     by_cases h1 : x ≥ 128
     ·rw [if_pos h1];exact Ev.step (fun K=>by rw [st K,if_pos h1]) (ih (k + 1) _ (by omega) sl)
     rw [if_neg h1];exact ev_some fun K=>by rw [st K,if_neg h1]
    rw [decide_eq_false hlt,List.drop_eq_nil_of_le (by rw [byt_len];omega),rvL_nil];refine ev_some fun K=>?_;simp only [impl_ReadVar.j1];rfl
  exact main 5 0 0 rfl (by decide)
 rw [if_neg (fun h=>h0 h.1)];refine Ev.step (f:=fun K=>impl_ReadVar.j1 K t a 0 0 false) (fun K=>by simp only [impl_ReadVar.l0];rw [if_pos (by omega),if_neg (by omega)]) (ev_some fun K=>?_);simp only [impl_ReadVar.j1];rfl
theorem natcast_map {V : List Int} (h : ∀ y ∈ V,0 ≤ y) : (V.map Int.toNat).map (fun b : Nat=>(b : Int)) = V:=by
 induction V with
 | nil=>rfl
 | cons y V ih =>
  have:=h y List.mem_cons_self;show ((y.toNat : Nat) : Int) :: (V.map Int.toNat).map (fun b : Nat=>(b : Int)) = y :: V;rw [ih fun z hz=>h z (List.mem_cons_of_mem _ hz),show ((y.toNat : Nat) : Int) = y by omega]
theorem toNat_map : ∀ l : List Nat,(l.map fun b : Nat=>(b : Int)).map Int.toNat = l
 | []=>rfl
 | y :: l=>by
  show ((y : Nat) : Int).toNat :: (l.map fun b : Nat=>(b : Int)).map Int.toNat = y :: l;rw [toNat_map l,Int.toNat_natCast]
theorem sRV_key {t : ByteArray} {a k x : Nat} {pre : List Nat} (hl : pre.length = k) (es : (byt t).drop a = (pre ++ [x]) ++ (byt t).drop (a + (k + 1))) (hb : ∀ b ∈ pre,128 ≤ b ∧ b < 256) (hx : x < 128) :
  (strOfNums (varL (valB (pre ++ [x])))).toList = (t.extract a (a + k + 1)).toList ↔ (pre = [] ∨ x ≠ 0):=by
 have seg : byt (t.extract a (a + k + 1)) = pre ++ [x]:=by
  rw [byt_sub,es,show a + k + 1 - a = (pre ++ [x]).length by simp;omega,List.take_left]
 have vb:=varL_byte (valB (pre ++ [x]));rw [toList_iff,seg,byt_str _ vb];constructor
 ·intro h
  by_cases h0 : x = 0
  ·left
   subst h0;have e2:=congrArg (List.map fun b : Nat=>(b : Int)) h;rw [natcast_map fun y hy=>(vb y hy).1] at e2;rw [List.map_append] at e2;exact List.map_eq_nil_iff.1 (canon2 _ _ e2)
  exact .inr h0
 intro h;rw [canon1 pre hb hx h,toNat_map]
theorem sRV_step (K : Nat) (t : ByteArray) (a k n x M P : Nat) (hs : t.size ≤ 1099511627776) (hk : k < 5) (hlt : a + k < t.size) (hx : x < 256) (eb : bt t ((a + k : Nat) : Int) = (x : Int)) (hP : 128 ^ k = P) (hM : n + x % 128 * P = M) (hM2 : M ≤ 34359738368) (hP2 : P ≤ 268435456) :
  spec_ReadVar.j1 (K + 1) t (a : Int) (n : Int) (P : Int) ((a + k : Nat) : Int) true = if x ≥ 128 then spec_ReadVar.l0 K t (a : Int) (M : Int) ((P * 128 : Nat) : Int) ((a + (k + 1) : Nat) : Int) else if M > 1000000000 then some (0,0,false) else (spec_l01Var.f K (M : Int)).bind fun t116=>if t116.toList = (t.extract a (a + k + 1)).toList then some ((M : Int),((a + k + 1 : Nat) : Int),true) else some (0,0,false):=by
 have en : wrap64 ((n : Int) + wrap64 (Int.tmod (wrap64 ((x : Nat) : Int)) 128 * (P : Int))) = (M : Int):=by
  rw [tmod128' hx,← Int.natCast_mul,w64 (x:=((x % 128 * P : Nat) : Int)) (by omega) (by omega),w64 (by omega) (by omega)];omega
 have ep : wrap64 ((P : Int) * 128) = ((P * 128 : Nat) : Int):=by rw [w64 (by omega) (by omega)];omega
 clear hM hP;simp only [spec_ReadVar.j1,eb,en,ep,if_true,if_pos (show (0 : Int) ≤ ((a + k : Nat) : Int) by omega),if_pos (show ((a + k : Nat) : Int) < (t.size : Int) by omega),wsucc (n:=t.size) hlt (by omega),Int.toNat_natCast,if_pos (show (0 : Int) ≤ (a : Int) by omega),if_pos (show (a : Int) ≤ ((a + k + 1 : Nat) : Int) by omega),if_pos (show ((a + k + 1 : Nat) : Int) ≤ (t.size : Int) by omega)]
 by_cases h1 : x ≥ 128
 ·rw [if_neg (by omega),if_pos h1];rfl
 rw [if_pos (by omega),if_neg h1]
 by_cases h4 : M > 1000000000
 ·rw [if_pos (by omega),if_pos h4]
 rw [if_neg (by omega),if_neg h4]
theorem sReadVar_ev (t : ByteArray) (a : Int) (hs : t.size ≤ 1099511627776) : Ev (fun k=>spec_ReadVar.f k t a) (rvB t a):=by
 unfold spec_ReadVar.f rvB
 have hin : spec_l01In.f a 0 (t.size : Int) = some (decide (0 ≤ a ∧ a ≤ (t.size : Int))):=by
  unfold spec_l01In.f
  by_cases h1 : a ≥ 0
  ·rw [if_pos h1];congr 1;simp;omega
  rw [if_neg h1];congr 1;simp;omega
 simp only [hin,Option.bind_some,decide_eq_true_eq]
 by_cases h0 : 0 ≤ a ∧ a ≤ (t.size : Int)
 ·simp only [if_pos h0];obtain ⟨a,rfl⟩ : ∃ m : Nat,a = (m : Int):=⟨a.toNat,by omega⟩;rw [Int.toNat_natCast]
  have main : ∀ (d k : Nat) (pre : List Nat),k + d = 5 → pre.length = k → (byt t).drop a = pre ++ (byt t).drop (a + k) → (∀ b ∈ pre,128 ≤ b ∧ b < 256) → Ev (fun K=>spec_ReadVar.l0 K t (a : Int) (valB pre : Int) ((128 ^ k : Nat) : Int) ((a + k : Nat) : Int)) (rvRes (a : Int) (rvL ((byt t).drop (a + k)) d k (valB pre))):=by
   intro d
   induction d with
   | zero =>
    intro k pre hk hl hp hb;rw [rvL_zero];refine Ev.step (f:=fun K=>spec_ReadVar.j1 K t (a : Int) (valB pre : Int) ((128 ^ k : Nat) : Int) ((a + k : Nat) : Int) false) (fun K=>?_) (ev_some fun K=>?_)
    ·simp only [spec_ReadVar.l0]
     by_cases h : ((a + k : Nat) : Int) < (t.size : Int)
     ·rw [if_pos h,w64 (x:=(a : Int) + 5) (by omega) (by omega),decide_eq_false (by omega)]
     rw [if_neg h]
    simp only [spec_ReadVar.j1];rfl
   | succ d ih =>
    intro k pre hk hl hp hb;have hn : valB pre < 128 ^ k:=hl ▸ val_lt pre;refine Ev.step (f:=fun K=>spec_ReadVar.j1 K t (a : Int) (valB pre : Int) ((128 ^ k : Nat) : Int) ((a + k : Nat) : Int) (decide ((a + k : Nat) < t.size))) (fun K=>?_) ?_
    ·simp only [spec_ReadVar.l0]
     by_cases h : ((a + k : Nat) : Int) < (t.size : Int)
     ·rw [if_pos h,w64 (x:=(a : Int) + 5) (by omega) (by omega),decide_eq_true (show ((a + k : Nat) : Int) < (a : Int) + 5 by omega),decide_eq_true (show a + k < t.size by omega)]
     rw [if_neg h,decide_eq_false (show ¬ a + k < t.size by omega)]
    by_cases hlt : a + k < t.size
    ·rw [decide_eq_true hlt,drop_byt hlt,rvL_cons];have hx:=byt_get_lt t (a + k);have hd:=drop_byt hlt;have eb:=bt_byt t (a + k);generalize (byt t).getD (a + k) 0 = x at hx eb hd ⊢;have sl:=step_lt (x:=x) hn;have p6:=pow5 (show k + 1 ≤ 5 by omega);have q4 : (128 : Nat) ^ k ≤ 268435456:=Nat.le_trans (Nat.pow_le_pow_right (by decide) (show k ≤ 4 by omega)) (by decide);have vs : valB (pre ++ [x]) = valB pre + x % 128 * 128 ^ k:=by rw [val_snoc,hl]
     have es : (byt t).drop a = (pre ++ [x]) ++ (byt t).drop (a + (k + 1)):=by rw [hp,hd];simp [Nat.add_assoc]
     rw [← vs] at sl ⊢;have st:=fun K=>sRV_step K t a k (valB pre) x (valB (pre ++ [x])) _ hs (by omega) hlt hx eb rfl vs.symm (by omega) q4
     by_cases h1 : x ≥ 128
     ·rw [if_pos h1]
      exact Ev.step (fun K=>by rw [st K,if_pos h1,← Nat.pow_succ]) (ih (k + 1) (pre ++ [x]) (by omega) (by simp;omega) es (fun b hb'=>by
       rcases List.mem_append.1 hb' with hb' | hb'
       ·exact hb b hb'
       obtain rfl:=List.mem_singleton.1 hb';exact ⟨h1,hx⟩))
     rw [if_neg h1];have key:=sRV_key hl es hb (by omega);have hv:=fun h=>l01Var_ev (n:=(valB (pre ++ [x]) : Int)) (by omega) h;rw [Int.toNat_natCast] at hv;clear vs;generalize valB (pre ++ [x]) = M at st key hv sl ⊢
     by_cases h4 : M > 1000000000
     ·rw [if_pos (.inr h4)];exact ev_some fun K=>by rw [st K,if_neg h1,if_pos h4];rfl
     refine Ev.step (fun K=>by rw [st K,if_neg h1,if_neg h4]) (ev_bind (hv (by omega)) ?_)
     by_cases h2 : pre = [] ∨ x ≠ 0
     ·rw [if_pos (key.2 h2),if_neg (fun h=>by
       rcases h with ⟨h5,h6⟩ | h
       ·rcases h2 with h2 | h2
        ·rw [h2] at hl;simp at hl;omega
        exact h2 h5
       exact h4 h)]
      exact ev_const (res_some (by omega))
     rw [if_neg (fun h=>h2 (key.1 h)),if_pos (.inl ⟨by
      by_cases h5 : x = 0
      ·exact h5
      ·exact absurd (.inr h5) h2,by
      cases pre with
      | nil=>exact absurd (.inl rfl) h2
      | cons b r=>simp at hl;omega⟩)]
     exact Ev.now _
    rw [decide_eq_false hlt,List.drop_eq_nil_of_le (by rw [byt_len];omega),rvL_nil];refine ev_some fun K=>?_;simp only [spec_ReadVar.j1];rfl
  exact main 5 0 [] rfl rfl rfl (fun b hb=>by cases hb)
 simp only [if_neg h0];exact Ev.now _
end Go.Proofs.YtibhkbljjnlpjaaGreat.Pu

namespace Go.Proofs.YtibhkbljjnlpjaaGreat.M2.Mp
set_option linter.unusedVariables false
set_option linter.unusedSimpArgs false
open Go.RowKit Go.Proofs.YtibhkbljjnlpjaaGreat.PK Go.Proofs.YtibhkbljjnlpjaaGreatW.PrintWords Go.Proofs.YtibhkbljjnlpjaaGreat.Pu
theorem m64 {i : Nat} {n : Nat} (h : i < n) (hn : n ≤ 9223372036854775807) : M2.w64 ((i : Int) + 1) = ((i + 1 : Nat) : Int):=by
 rw [w64_eq];exact wsucc h hn
theorem x64 {x : Int} (h1 : -9223372036854775808 ≤ x) (h2 : x ≤ 9223372036854775807) : M2.w64 x = x:=by
 rw [w64_eq];exact Pu.w64 h1 h2
theorem ev_pos {α : Type} {c : Prop} [Decidable c] {g f : Nat → Option α} {r : α} (h : c) (h1 : Ev g r) : Ev (fun n=>if c then g n else f n) r:=by
 simp only [if_pos h];exact h1
theorem ev_neg {α : Type} {c : Prop} [Decidable c] {g f : Nat → Option α} {r : α} (h : ¬ c) (h1 : Ev f r) : Ev (fun n=>if c then g n else f n) r:=by
 simp only [if_neg h];exact h1
theorem seq_iff (a b : ByteArray) : M2.seq a b = true ↔ a = b:=by
 unfold M2.seq;rw [beq_iff_eq,toList_iff];exact ⟨byt_inj,fun h=>by rw [h]⟩
def rng (x : Int) : Prop:=0 ≤ x ∧ x < 4294967296
theorem xor_rng (a b : Int) : rng (Go.bits .xor .u32 a b):=by
 unfold Go.bits rng;rw [IntKind.wrap_u32];omega
theorem wraps_u32 (n : Int) (h₀ : 0 ≤ n) (h₁ : n < 2 ^ 32) : IntKind.u32.wrap n = n:=by rw [IntKind.wrap_u32];omega
theorem and_one {x : Int} (h : rng x) : Go.bits .and .u32 x 1 = x % 2:=bits_mask .u32 32 (by decide) wraps_u32 1 (by decide) x h.1 h.2
theorem half_s {x : Int} (h : rng x) : Go.IntKind.wrap .u32 (Int.tdiv x 2) = x / 2:=by
 rw [IntKind.wrap_u32,Int.tdiv_eq_ediv_of_nonneg h.1];have:=h.2;have:=h.1;omega
theorem half_i (x : Int) : Int.fdiv x 2 = x / 2:=Int.fdiv_eq_ediv_of_nonneg _ (by decide)
theorem half_rng {x : Int} (h : rng x) : rng (x / 2):=by
 have:=h.2;have:=h.1;exact ⟨by omega,by omega⟩
noncomputable def c8 : Nat → Int → Int
 | 0,x=>x
 | n + 1,x=>c8 n (if x % 2 = 1 then Go.bits .xor .u32 (x / 2) 3558460437 else x / 2)
noncomputable def crc (t : ByteArray) : Nat → Nat → Int → Int
 | _,0,x=>x
 | i,d + 1,x=>crc t (i + 1) d (c8 8 (Go.bits .xor .u32 x (Go.IntKind.wrap .u32 (bt t (i : Int)))))
theorem sSum6 (t : ByteArray) (i : Nat) (hi : i < t.size) (hs : t.size ≤ 9223372036854775807) : ∀ (d j : Nat) (x r : Int),j + d = 8 → rng x → Ev (fun k=>spec_SumMore.c2 k (c8 d x) t ((i + 1 : Nat) : Int)) r → Ev (fun k=>spec_SumMore.c6 k x t (i : Int) (j : Int)) r
 | 0,j,x,r,hj,hx,h=>by
  refine Ev.step (fun k=>?_) h;rw [spec_SumMore.c6,if_neg (by omega),m64 hi hs];rfl
 | d + 1,j,x,r,hj,hx,h=>by
  have hx0:=hx.1;have e : Int.tmod x 2 = x % 2:=Int.tmod_eq_emod_of_nonneg hx0
  by_cases h1 : x % 2 = 1
  ·rw [c8,if_pos h1] at h;refine Ev.step (fun k=>?_) (sSum6 t i hi hs d (j + 1) _ r (by omega) (xor_rng _ _) h);rw [spec_SumMore.c6,if_pos (by omega),if_pos (by rw [e];exact h1),half_s hx,m64 (n:=9) (by omega) (by omega)]
  rw [c8,if_neg h1] at h;refine Ev.step (fun k=>?_) (sSum6 t i hi hs d (j + 1) _ r (by omega) (half_rng hx) h);rw [spec_SumMore.c6,if_pos (by omega),if_neg (by rw [e];exact h1),half_s hx,m64 (n:=9) (by omega) (by omega)]
theorem sSum2 (t : ByteArray) (hs : t.size ≤ 9223372036854775807) : ∀ (d i : Nat) (x : Int),i + d = t.size → Ev (fun k=>spec_SumMore.c2 k x t (i : Int)) (crc t i d x)
 | 0,i,x,hi=>by
  refine Ev.step (f:=fun _=>some x) (fun k=>?_) (Ev.now _);rw [spec_SumMore.c2,if_neg (by omega)]
 | d + 1,i,x,hi=>by
  refine Ev.step (fun k=>?_) (sSum6 t i (by omega) hs 8 0 _ _ rfl (xor_rng _ _) (sSum2 t hs d (i + 1) _ (by omega)));rw [spec_SumMore.c2,if_pos (by omega),if_pos (by omega),if_pos (by omega)];rfl
theorem iSum6 (t : ByteArray) (i : Nat) (hi : i < t.size) (hs : t.size ≤ 9223372036854775807) : ∀ (d j : Nat) (x r : Int),j + d = 8 → rng x → Ev (fun k=>impl_SumMore.c2 k (c8 d x) t ((i + 1 : Nat) : Int)) r → Ev (fun k=>impl_SumMore.c6 k x t (i : Int) (j : Int)) r
 | 0,j,x,r,hj,hx,h=>by
  refine Ev.step (fun k=>?_) h;rw [impl_SumMore.c6,if_neg (by omega),m64 hi hs];rfl
 | d + 1,j,x,r,hj,hx,h=>by
  by_cases h1 : x % 2 = 1
  ·rw [c8,if_pos h1] at h;refine Ev.step (fun k=>?_) (iSum6 t i hi hs d (j + 1) _ r (by omega) (xor_rng _ _) h);rw [impl_SumMore.c6,if_pos (by omega),if_pos (by rw [and_one hx];exact h1),half_i,m64 (n:=9) (by omega) (by omega)]
  rw [c8,if_neg h1] at h;refine Ev.step (fun k=>?_) (iSum6 t i hi hs d (j + 1) _ r (by omega) (half_rng hx) h);rw [impl_SumMore.c6,if_pos (by omega),if_neg (by rw [and_one hx];exact h1),half_i,m64 (n:=9) (by omega) (by omega)]
theorem iSum2 (t : ByteArray) (hs : t.size ≤ 9223372036854775807) : ∀ (d i : Nat) (x : Int),i + d = t.size → Ev (fun k=>impl_SumMore.c2 k x t (i : Int)) (crc t i d x)
 | 0,i,x,hi=>by
  refine Ev.step (f:=fun _=>some x) (fun k=>?_) (Ev.now _);rw [impl_SumMore.c2,if_neg (by omega)]
 | d + 1,i,x,hi=>by
  refine Ev.step (fun k=>?_) (iSum6 t i (by omega) hs 8 0 _ _ rfl (xor_rng _ _) (iSum2 t hs d (i + 1) _ (by omega)));rw [impl_SumMore.c2,if_pos (by omega),if_pos (by omega),if_pos (by omega)];rfl
noncomputable def sumT (t : ByteArray) : Int:=crc t 0 t.size 4294967295
theorem sSumOf (t : ByteArray) (hs : t.size ≤ 9223372036854775807) : Ev (fun k=>spec_SumOf.f k t) (sumT t):=by
 simp only [spec_SumOf.f,spec_SumMore.f];exact Ev.bind (sSum2 t hs t.size 0 _ (by omega)) (Ev.now _)
theorem iSumOf (t : ByteArray) (hs : t.size ≤ 9223372036854775807) : Ev (fun k=>impl_SumOf.f k t) (sumT t):=by
 simp only [impl_SumOf.f,impl_SumMore.f];exact Ev.bind (iSum2 t hs t.size 0 _ (by omega)) (Ev.now _)
noncomputable def four (v : Int) : ByteArray:=strOfNums [Go.IntKind.wrap .u8 (Int.fdiv v 16777216),Go.IntKind.wrap .u8 (Int.fdiv v 65536),Go.IntKind.wrap .u8 (Int.fdiv v 256),Go.IntKind.wrap .u8 v]
theorem four_size (v : Int) : (four v).size = 4:=strOf_size _
noncomputable def sealT (t : ByteArray) : ByteArray:=t ++ four (sumT t)
noncomputable def sealed (t : ByteArray) : ByteArray × Bool:=if t.size ≤ 20000 then (sealT t,true) else (⟨#[]⟩,false)
theorem sSealed (t : ByteArray) (hs : t.size ≤ 9223372036854775807) : Ev (fun k=>spec_Sealed.f k t) (sealed t):=by
 simp only [spec_Sealed.f]
 by_cases h : t.size ≤ 20000
 ·simp only [if_neg (show ¬ (t.size : Int) > 20000 by omega),sealed,if_pos h];refine Ev.bind (sSumOf t hs) (Ev.bind (Ev.now (four (sumT t))) ?_);rw [if_pos (by rw [four_size];omega)];exact Ev.now _
 simp only [if_pos (show (t.size : Int) > 20000 by omega),sealed,if_neg h];exact Ev.now _
theorem iSealed (t : ByteArray) (hs : t.size ≤ 9223372036854775807) : Ev (fun k=>impl_Sealed.f k t) (sealed t):=by
 simp only [impl_Sealed.f]
 by_cases h : t.size ≤ 20000
 ·simp only [if_neg (show ¬ (t.size : Int) > 20000 by omega),sealed,if_pos h];refine Ev.bind (iSumOf t hs) ?_;rw [if_pos (by rw [show (strOfNums _).size = 4 from strOf_size _];omega)];exact Ev.now _
 simp only [if_pos (show (t.size : Int) > 20000 by omega),sealed,if_neg h];exact Ev.now _
theorem split_at (t : ByteArray) {n : Nat} (h : n ≤ t.size) : t = t.extract 0 n ++ t.extract n t.size:=by
 refine byt_inj ?_;rw [byt_app,byt_sub,byt_sub,Nat.sub_zero,List.drop_zero];have : (byt t).length = t.size:=byt_len t
 conv=>lhs;rw [← List.take_append_drop n (byt t)]
 rw [List.take_of_length_le (l:=(byt t).drop n) (by rw [List.length_drop];omega)]
theorem app_cancel {a b c : ByteArray} (h : a ++ b = a ++ c) : b = c:=by
 refine byt_inj ?_;have:=congrArg byt h;rw [byt_app,byt_app] at this;exact List.append_cancel_left this
open Classical in
noncomputable def unsealed (t : ByteArray) : ByteArray × Bool:=if 4 ≤ t.size ∧ t.size - 4 ≤ 20000 ∧ sealT (t.extract 0 (t.size - 4)) = t then (t.extract 0 (t.size - 4),true) else (⟨#[]⟩,false)
theorem ext_size (t : ByteArray) {n : Nat} (h : n ≤ t.size) : (t.extract 0 n).size = n:=by
 rw [ByteArray.size_extract];omega
theorem sUnsealed (t : ByteArray) (hs : t.size ≤ 9223372036854775807) : Ev (fun k=>spec_Unsealed.f k t) (unsealed t):=by
 simp only [spec_Unsealed.f]
 by_cases h4 : 4 ≤ t.size
 ·obtain ⟨n,hn⟩ : ∃ n,t.size = n + 4:=⟨t.size - 4,by omega⟩;have e : M2.w64 ((t.size : Int) - 4) = (n : Int):=by rw [x64 (by omega) (by omega)];omega
  have en : t.size - 4 = n:=by omega
  simp only [e,if_neg (show ¬ (n : Int) < 0 by omega),if_pos (show 0 ≤ (n : Int) by omega),if_pos (show (n : Int) ≤ (t.size : Int) by omega),Int.toNat_natCast]
  by_cases hb : n ≤ 20000
  ·simp only [if_neg (show ¬ (n : Int) > 20000 by omega)];refine Ev.bind (sSumOf _ (by rw [ext_size t (by omega)];omega)) (Ev.bind (Ev.now (four (sumT (t.extract 0 n)))) ?_);have hsp:=split_at t (n:=n) (by omega)
   by_cases hq : sealT (t.extract 0 n) = t
   ·have hx : t.extract n t.size = four (sumT (t.extract 0 n)):=by
     refine (app_cancel (a:=t.extract 0 n) ?_).symm;exact hq.trans hsp
    rw [if_pos (by rw [seq_iff];exact hx),unsealed,if_pos ⟨h4,by omega,by rw [en];exact hq⟩,en];exact Ev.now _
   have hx : ¬ t.extract n t.size = four (sumT (t.extract 0 n)):=fun hx=>hq (by
    unfold sealT
    rw [← hx];exact hsp.symm)
   rw [if_neg (by rw [seq_iff];exact hx),unsealed,if_neg (by rw [en];exact fun h=>hq h.2.2)];exact Ev.now _
  simp only [if_pos (show (n : Int) > 20000 by omega)];rw [unsealed,if_neg (fun h=>absurd h.2.1 (by omega))];exact Ev.now _
 simp only [if_pos (show M2.w64 ((t.size : Int) - 4) < 0 by rw [x64 (by omega) (by omega)];omega)];rw [unsealed,if_neg (fun h=>absurd h.1 (by omega))];exact Ev.now _
theorem iUnsealed (t : ByteArray) (hs : t.size ≤ 9223372036854775807) : Ev (fun k=>impl_Unsealed.f k t) (unsealed t):=by
 simp only [impl_Unsealed.f]
 by_cases h4 : 4 ≤ t.size
 ·obtain ⟨n,hn⟩ : ∃ n,t.size = n + 4:=⟨t.size - 4,by omega⟩;have e : M2.w64 ((t.size : Int) - 4) = (n : Int):=by rw [x64 (by omega) (by omega)];omega
  have en : t.size - 4 = n:=by omega
  simp only [e,if_neg (show ¬ (t.size : Int) < 4 by omega),if_pos (show 0 ≤ (n : Int) by omega),if_pos (show (n : Int) ≤ (t.size : Int) by omega),Int.toNat_natCast];refine Ev.bind (iSealed _ (by rw [ext_size t (by omega)];omega)) ?_;rw [sealed,ext_size t (by omega)]
  by_cases hb : n ≤ 20000
  ·rw [if_pos hb]
   by_cases hq : sealT (t.extract 0 n) = t
   ·rw [if_pos rfl,if_pos (by rw [seq_iff];exact hq),unsealed,if_pos ⟨h4,by omega,by rw [en];exact hq⟩,en];exact Ev.now _
   rw [if_pos rfl,if_neg (by rw [seq_iff];exact hq),unsealed,if_neg (by rw [en];exact fun h=>hq h.2.2)];exact Ev.now _
  rw [if_neg hb];simp only [Bool.false_eq_true,if_false];rw [unsealed,if_neg (fun h=>absurd h.2.1 (by omega))];exact Ev.now _
 simp only [if_pos (show (t.size : Int) < 4 by omega)];rw [unsealed,if_neg (fun h=>absurd h.1 (by omega))];exact Ev.now _
end Go.Proofs.YtibhkbljjnlpjaaGreat.M2.Mp

namespace Go.Proofs.YtibhkbljjnlpjaaGreat.M2.Mp
set_option linter.unusedVariables false
set_option linter.unusedSimpArgs false
open Go.RowKit Go.Proofs.YtibhkbljjnlpjaaGreat.PK Go.Proofs.YtibhkbljjnlpjaaGreatW.PrintWords Go.Proofs.YtibhkbljjnlpjaaGreat.Pu
theorem rvL_spec : ∀ (d k : Nat) (pre r : List Nat) (M j : Nat),rvL r d k (valB pre) = some (M,j) → pre.length = k → (∀ b ∈ pre,128 ≤ b ∧ b < 256) → (∀ b ∈ r,b < 256) →
  ∃ mid x post,r = mid ++ x :: post ∧ j = k + mid.length + 1 ∧ M = valB ((pre ++ mid) ++ [x]) ∧ x < 128 ∧ (pre ++ mid = [] ∨ x ≠ 0) ∧ (∀ b ∈ mid,128 ≤ b ∧ b < 256) ∧ M ≤ 1000000000
 | 0,k,pre,r,M,j,h,_,_,_=>by rw [rvL_zero] at h;cases h
 | d + 1,k,pre,[],M,j,h,_,_,_=>by rw [rvL_nil] at h;cases h
 | d + 1,k,pre,x :: r,M,j,h,hl,hp,hr=>by
  rw [rvL_cons] at h;have hx:=hr x (by simp);have hv:=val_snoc pre x;rw [hl] at hv
  split at h
  ·rename_i h1;rw [← hv] at h;obtain ⟨mid,y,post,e1,e2,e3,e4,e5,e6,e7⟩:=rvL_spec d (k + 1) (pre ++ [x]) r M j h (by simp [hl]) (fun b hb=>by rcases List.mem_append.1 hb with hb | hb;exact hp b hb;simp at hb;subst hb;exact ⟨h1,hx⟩) (fun b hb=>hr b (by simp [hb]));exact ⟨x :: mid,y,post,by rw [e1];rfl,by rw [e2,List.length_cons];omega,by rw [e3];simp,e4,.inr (by rcases e5 with e5 | e5;simp at e5;exact e5),fun b hb=>by rcases List.mem_cons.1 hb with rfl | hb;exact ⟨h1,hx⟩;exact e6 b hb,e7⟩
  split at h
  ·cases h
  rename_i h1 h2;cases h;refine ⟨[],x,r,rfl,rfl,by rw [List.append_nil,hv],by omega,?_,by simp,by omega⟩;rw [List.append_nil];rcases Nat.eq_zero_or_pos k with h0 | h0
  ·left;exact List.length_eq_zero_iff.1 (by omega)
  right;intro hx0;exact h2 (.inl ⟨hx0,h0⟩)
theorem rv_cases (t : ByteArray) (a : Int) : rvB t a = (0,0,false) ∨ ∃ (i M j : Nat),a = (i : Int) ∧ rvB t a = ((M : Int),((i + j : Nat) : Int),true) ∧ 1 ≤ j ∧ i + j ≤ t.size ∧ M ≤ 1000000000 ∧ t.extract i (i + j) = strOfNums (varL M):=by
 unfold rvB
 by_cases h0 : 0 ≤ a ∧ a ≤ (t.size : Int)
 ·rw [if_pos h0];cases h : rvL ((byt t).drop a.toNat) 5 0 0 with
  | none=>left;rfl
  | some z =>
   obtain ⟨M,j⟩:=z;obtain ⟨mid,x,post,e1,e2,e3,e4,e5,e6,e7⟩:=rvL_spec 5 0 [] _ M j h rfl (by simp) (fun b hb=>byt_lt t b (List.mem_of_mem_drop hb));rw [List.nil_append] at e3 e5
   have hlen : mid.length + 1 ≤ t.size - a.toNat:=by
    have:=congrArg List.length e1;rw [List.length_drop,byt_len,List.length_append,List.length_cons] at this;omega
   refine .inr ⟨a.toNat,M,j,by omega,?_,by omega,by omega,e7,byt_inj ?_⟩
   ·show (((M : Int),a + (j : Int),true) : Int × Int × Bool) = _;rw [show a + (j : Int) = ((a.toNat + j : Nat) : Int) by omega]
   rw [byt_str _ (varL_byte M),byt_sub,e1,e3,canon1 mid e6 e4 e5,toNat_map,show a.toNat + j - a.toNat = (mid ++ [x]).length by rw [List.length_append];simp;omega,show mid ++ x :: post = (mid ++ [x]) ++ post by simp,List.take_left]
 rw [if_neg h0];left;rfl
theorem sRV (t : ByteArray) (a : Int) (hs : t.size ≤ 1099511627776) : Ev (fun k=>spec_ReadVar.f k t a) (rvB t a):=ev_rel (c:=id) (sReadVar_ev t a hs) (fun k r h m hm=>spec_ReadVar.rel k t a r h m hm)
theorem iRV (t : ByteArray) (a : Int) (hs : t.size ≤ 1099511627776) (ha : a ≤ (t.size : Int)) : Ev (fun k=>impl_ReadVar.f k t a) (rvB t a):=ev_rel (c:=id) (iReadVar_ev t a hs ha) (fun k r h m hm=>impl_ReadVar.rel k t a r h m hm)
theorem sVar {n : Int} (h0 : 0 ≤ n) (h : n ≤ 1000000000) : Ev (fun k=>spec_l01Var.f k n) (strOfNums (varL n.toNat)):=ev_rel (c:=id) (l01Var_ev h0 h) (fun k r h m hm=>spec_l01Var.rel k n r h m hm)
def okP (kind seq tx part count : Int) (text : ByteArray) : Bool:=decide ((1 ≤ kind ∧ kind ≤ 2) ∧ (1 ≤ seq ∧ seq ≤ 1000000000) ∧ (1 ≤ tx ∧ tx ≤ 1000000000) ∧ (1 ≤ count ∧ count ≤ 9) ∧ (0 ≤ part ∧ part ≤ count - 1) ∧ text.size ≤ 90 ∧ (kind = 2 ∨ count = 1))
theorem sIn (k : Nat) (n a b : Int) : spec_l01In.f k n a b = some (decide (a ≤ n ∧ n ≤ b)):=by
 simp only [spec_l01In.f]
 by_cases h : n ≥ a
 ·rw [if_pos h];congr 1;simp only [Bool.decide_and];rw [decide_eq_true (show a ≤ n from h)];simp
 rw [if_neg h];congr 1;rw [decide_eq_false (fun hh=>h hh.1)]
theorem iIn (k : Nat) (n a b : Int) : impl_in.f k n a b = some (decide (a ≤ n ∧ n ≤ b)):=by
 simp only [impl_in.f]
 by_cases h : n ≥ a
 ·rw [if_pos h];congr 1;simp only [Bool.decide_and];rw [decide_eq_true (show a ≤ n from h)];simp
 rw [if_neg h];congr 1;rw [decide_eq_false (fun hh=>h hh.1)]
theorem sPageOk (k : Nat) (kind seq tx part count : Int) (text : ByteArray) : spec_PageOk.f k kind seq tx part count text = some (okP kind seq tx part count text):=by
 simp only [spec_PageOk.f,sIn,Option.bind_some,decide_eq_true_eq];unfold okP
 by_cases h1 : 1 ≤ kind ∧ kind ≤ 2
 ·by_cases h2 : 1 ≤ seq ∧ seq ≤ 1000000000
  ·by_cases h3 : 1 ≤ tx ∧ tx ≤ 1000000000
   ·by_cases h4 : 1 ≤ count ∧ count ≤ 9
    ·have e : M2.w64 (count - 1) = count - 1:=x64 (by omega) (by omega)
     by_cases h5 : 0 ≤ part ∧ part ≤ count - 1
     ·by_cases h6 : (text.size : Int) > 90
      ·rw [if_pos h1,if_pos h2,if_pos h3,if_pos h4,e,if_pos h5,if_pos h6];congr 1;simp;omega
      by_cases h7 : kind = 2
      ·rw [if_pos h1,if_pos h2,if_pos h3,if_pos h4,e,if_pos h5,if_neg h6,if_pos h7];congr 1;simp;omega
      rw [if_pos h1,if_pos h2,if_pos h3,if_pos h4,e,if_pos h5,if_neg h6,if_neg h7];congr 1;rw [decide_eq_decide];omega
     rw [if_pos h1,if_pos h2,if_pos h3,if_pos h4,e,if_neg h5];congr 1;simp;omega
    rw [if_pos h1,if_pos h2,if_pos h3,if_neg h4];congr 1;simp;omega
   rw [if_pos h1,if_pos h2,if_neg h3];congr 1;simp;omega
  rw [if_pos h1,if_neg h2];congr 1;simp;omega
 rw [if_neg h1];congr 1;simp;omega
theorem iPageOk (k : Nat) (kind seq tx part count : Int) (text : ByteArray) : impl_PageOk.f k kind seq tx part count text = some (okP kind seq tx part count text):=by
 simp only [impl_PageOk.f,iIn,Option.bind_some,decide_eq_true_eq];unfold okP
 by_cases h2 : 1 ≤ seq ∧ seq ≤ 1000000000
 ·by_cases h3 : 1 ≤ tx ∧ tx ≤ 1000000000
  ·by_cases h4 : 1 ≤ count ∧ count ≤ 9
   ·have e : M2.w64 (count - 1) = count - 1:=x64 (by omega) (by omega)
    by_cases h5 : 0 ≤ part ∧ part ≤ count - 1
    ·by_cases h6 : (text.size : Int) > 90
     ·rw [if_pos h2,if_pos h3,if_pos h4,e,if_pos h5,if_pos h6];congr 1;simp;omega
     by_cases h7 : kind = 2
     ·rw [if_pos h2,if_pos h3,if_pos h4,e,if_pos h5,if_neg h6,if_pos h7];congr 1;simp;omega
     by_cases h8 : kind = 1
     ·rw [if_pos h2,if_pos h3,if_pos h4,e,if_pos h5,if_neg h6,if_neg h7,if_pos h8];congr 1;rw [decide_eq_decide];omega
     rw [if_pos h2,if_pos h3,if_pos h4,e,if_pos h5,if_neg h6,if_neg h7,if_neg h8];congr 1;simp;omega
    rw [if_pos h2,if_pos h3,if_pos h4,e,if_neg h5];congr 1;simp;omega
   rw [if_pos h2,if_pos h3,if_neg h4];congr 1;simp;omega
  rw [if_pos h2,if_neg h3];congr 1;simp;omega
 rw [if_neg h2];congr 1;simp;omega
abbrev PageV:=Int × Int × Int × Int × Int × ByteArray × Bool
def noPage : PageV:=(0,0,0,0,0,⟨#[]⟩,false)
noncomputable def pageIn (s : ByteArray) : PageV :=
 if (rvB s 1).2.2 = true then if (rvB s (rvB s 1).2.1).2.2 = true then if (rvB s (rvB s (rvB s 1).2.1).2.1).2.2 = true then if (rvB s (rvB s (rvB s (rvB s 1).2.1).2.1).2.1).2.2 = true then
  if okP (bt s 0) (rvB s 1).1 (rvB s (rvB s 1).2.1).1 (rvB s (rvB s (rvB s 1).2.1).2.1).1 (rvB s (rvB s (rvB s (rvB s 1).2.1).2.1).2.1).1 (s.extract (rvB s (rvB s (rvB s (rvB s 1).2.1).2.1).2.1).2.1.toNat s.size) = true then
   (bt s 0,(rvB s 1).1,(rvB s (rvB s 1).2.1).1,(rvB s (rvB s (rvB s 1).2.1).2.1).1,(rvB s (rvB s (rvB s (rvB s 1).2.1).2.1).2.1).1,s.extract (rvB s (rvB s (rvB s (rvB s 1).2.1).2.1).2.1).2.1.toNat s.size,true)
  else noPage else noPage else noPage else noPage else noPage
noncomputable def pageT (t : ByteArray) : PageV:=if (unsealed t).2 = true ∧ (unsealed t).1.size ≠ 0 then pageIn (unsealed t).1 else noPage
theorem bt_rng (s : ByteArray) (i : Nat) : 0 ≤ bt s (i : Int) ∧ bt s (i : Int) < 256:=by
 have h:=byt_get_lt s i;rw [M2.bt_eq,Pu.bt_byt];omega
theorem unsealed_size (t : ByteArray) : (unsealed t).1.size ≤ 20000 ∧ (unsealed t).1.size ≤ t.size:=by
 unfold unsealed
 split
 ·rename_i h;rw [ext_size t (by omega)];exact ⟨h.2.1,by omega⟩
 exact ⟨Nat.zero_le _,Nat.zero_le _⟩
theorem rv_le {s : ByteArray} {a : Int} (h : (rvB s a).2.2 = true) : 0 ≤ (rvB s a).2.1 ∧ (rvB s a).2.1 ≤ (s.size : Int):=by
 rcases rv_cases s a with h1 | ⟨i,M,j,e1,e2,e3,e4,e5,e6⟩
 ·rw [h1] at h;cases h
 rw [e2];exact ⟨by show (0 : Int) ≤ ((i + j : Nat) : Int);omega,by show ((i + j : Nat) : Int) ≤ _;omega⟩
theorem iPage7 (s : ByteArray) (hs : s.size ≤ 20000) (h0 : s.size ≠ 0) : Ev (fun k=>impl_ReadPage.c7 k s 1 0 0 0 0 0 0 (⟨#[]⟩ : ByteArray) (List.replicate 4 z3)) (pageIn s):=by
 have step : ∀ (p : Int) (j : Nat) (l : List Int) (r : PageV),p ≤ (s.size : Int) → j < 4 → l.length = 4 → ((rvB s p).2.2 = true → Ev (fun k=>impl_ReadPage.c7 k s (rvB s p).2.1 ((j + 1 : Nat) : Int) 0 0 0 0 0 (⟨#[]⟩ : ByteArray) (l.set j (rvB s p).1)) r) → ((rvB s p).2.2 ≠ true → r = noPage) →
   Ev (fun k=>impl_ReadPage.c7 k s p (j : Int) 0 0 0 0 0 (⟨#[]⟩ : ByteArray) l) r:=by
  intro p j l r hp hj hl h1 h2;refine Ev.step (f:=fun k=>(impl_ReadVar.f k s p).bind fun t2=>if t2.2.2 = true then impl_ReadPage.c7 k s t2.2.1 ((j + 1 : Nat) : Int) 0 0 0 0 0 (⟨#[]⟩ : ByteArray) (l.set j t2.1) else some noPage) (fun k=>?_) (Ev.bind (iRV s p (by omega) hp) ?_)
  ·rw [impl_ReadPage.c7,if_pos (by omega)]
   congr 1;funext t2
   rw [if_pos (show Nat.beq 4 l.length = true by rw [hl];rfl),if_pos (show (0 : Int) ≤ (j : Int) by omega),if_pos (show (j : Int) < (l.length : Int) by omega),m64 (n:=4) hj (by omega),Int.toNat_natCast];rfl
  by_cases h : (rvB s p).2.2 = true
  ·simp only [if_pos h];exact h1 h
  simp only [if_neg h];rw [h2 h];exact Ev.now _
 unfold pageIn;refine step 1 0 _ _ (by omega) (by omega) rfl (fun q1=>?_) (fun q=>by rw [if_neg q]);rw [if_pos q1];refine step _ 1 _ _ (rv_le q1).2 (by omega) rfl (fun q2=>?_) (fun q=>by rw [if_neg q]);rw [if_pos q2];refine step _ 2 _ _ (rv_le q2).2 (by omega) rfl (fun q3=>?_) (fun q=>by rw [if_neg q]);rw [if_pos q3];refine step _ 3 _ _ (rv_le q3).2 (by omega) rfl (fun q4=>?_) (fun q=>by rw [if_neg q]);rw [if_pos q4];have hb : 0 ≤ bt s 0 ∧ bt s 0 < 256:=bt_rng s 0;have eb : M2.w64 (bt s 0) = bt s 0:=x64 (by omega) (by omega);refine Ev.step (f:=fun _=>some _) (fun k=>?_) (Ev.now _);have q5:=(rv_le q4).1;have q6:=(rv_le q4).2;generalize (rvB s (rvB s (rvB s (rvB s 1).2.1).2.1).2.1).1 = E at *;generalize (rvB s (rvB s (rvB s (rvB s 1).2.1).2.1).2.1).2.1 = p at *;generalize (rvB s (rvB s (rvB s 1).2.1).2.1).1 = C;generalize (rvB s (rvB s 1).2.1).1 = B;generalize (rvB s 1).1 = A;rw [impl_ReadPage.c7,if_neg (by omega),if_pos (by omega),show ((((List.replicate 4 z3).set 0 A).set 1 B).set 2 C).set 3 E = [A,B,C,E] from rfl];have l4 : (([A,B,C,E] : List Int).length : Int) = 4:=rfl;have b4 : Nat.beq 4 ([A,B,C,E] : List Int).length = true:=rfl;simp only [eb,iPageOk,Option.bind_some,if_pos q5,if_pos q6,l4,b4,if_true,if_pos (show (0 : Int) < 4 by omega),if_pos (show (1 : Int) < 4 by omega),if_pos (show (2 : Int) < 4 by omega),if_pos (show (3 : Int) < 4 by omega)];show (if okP (bt s 0) A B C E (s.extract p.toNat s.size) = true then some ((bt s 0,A,B,C,E,s.extract p.toNat s.size,true) : PageV) else some noPage) = some (if okP (bt s 0) A B C E (s.extract p.toNat s.size) = true then (bt s 0,A,B,C,E,s.extract p.toNat s.size,true) else noPage)
 split <;> rfl
theorem iReadPage (t : ByteArray) (hs : t.size ≤ 1099511627776) : Ev (fun k=>impl_ReadPage.f k t) (pageT t):=by
 simp only [impl_ReadPage.f];refine Ev.bind (iUnsealed t (by omega)) ?_;have hz:=unsealed_size t;unfold pageT
 by_cases h1 : (unsealed t).2 = true
 ·simp only [if_pos h1]
  by_cases h2 : (unsealed t).1.size = 0
  ·rw [if_neg (fun h=>h.2 h2)]
   have e : M2.seq (unsealed t).1 (⟨#[]⟩ : ByteArray) = true:=by
    rw [seq_iff];refine byt_inj (List.length_eq_zero_iff.1 ?_);rw [byt_len];exact h2
   simp only [if_pos e];exact Ev.now _
  rw [if_pos ⟨h1,h2⟩]
  have e : ¬ M2.seq (unsealed t).1 (⟨#[]⟩ : ByteArray) = true:=by
   rw [seq_iff];intro e;exact h2 (by rw [e];rfl)
  simp only [if_neg e];exact iPage7 _ hz.1 h2
 rw [if_neg (fun h=>h1 h.1)];simp only [if_neg h1];exact Ev.now _
end Go.Proofs.YtibhkbljjnlpjaaGreat.M2.Mp

namespace Go.Proofs.YtibhkbljjnlpjaaGreat.M2.Mp
set_option linter.unusedVariables false
set_option linter.unusedSimpArgs false
open Go.RowKit Go.Proofs.YtibhkbljjnlpjaaGreat.PK Go.Proofs.YtibhkbljjnlpjaaGreatW.PrintWords Go.Proofs.YtibhkbljjnlpjaaGreat.Pu
theorem ext_app (s : ByteArray) {a b c : Nat} (h1 : a ≤ b) (h2 : b ≤ c) : s.extract a b ++ s.extract b c = s.extract a c:=by
 refine byt_inj ?_;rw [byt_app,byt_sub,byt_sub,byt_sub,show c - a = (b - a) + (c - b) by omega,List.take_add,List.drop_drop,show a + (b - a) = b by omega]
theorem ext_all (s : ByteArray) : s.extract 0 s.size = s:=by
 refine byt_inj ?_;rw [byt_sub,List.drop_zero,Nat.sub_zero,List.take_of_length_le (by rw [byt_len];exact Nat.le_refl _)]
theorem ext_one (s : ByteArray) (h : s.size ≠ 0) : s.extract 0 1 = strOfNums [Go.IntKind.wrap .u8 (bt s 0)]:=by
 have hb : 0 ≤ bt s 0 ∧ bt s 0 < 256:=bt_rng s 0;have hw : Go.IntKind.wrap .u8 (bt s 0) = bt s 0:=by rw [IntKind.wrap_u8];omega
 refine byt_inj ?_;rw [hw,byt_str _ (by simpa using hb),byt_sub,List.drop_zero];have e : bt s 0 = (((byt s).getD 0 0 : Nat) : Int):=Pu.bt_byt s 0;rw [e];cases hl : byt s with
 | nil=>exact absurd (by rw [← byt_len,hl];rfl) h
 | cons x l=>simp
noncomputable def pageBytes (kind seq tx part count : Int) (text : ByteArray) : ByteArray:=((((strOfNums [Go.IntKind.wrap .u8 kind] ++ strOfNums (varL seq.toNat)) ++ strOfNums (varL tx.toNat)) ++ strOfNums (varL part.toNat)) ++ strOfNums (varL count.toNat)) ++ text
theorem sPageText (kind seq tx part count : Int) (text : ByteArray) (ht : text.size ≤ 1099511627776) : Ev (fun k=>spec_PageText.f k kind seq tx part count text) (if okP kind seq tx part count text = true then sealed (pageBytes kind seq tx part count text) else (⟨#[]⟩,false)):=by
 simp only [spec_PageText.f,sPageOk,Option.bind_some,spec_l06Byte.f]
 by_cases h : okP kind seq tx part count text = true
 ·simp only [if_pos h];have ho:=h;unfold okP at ho;rw [decide_eq_true_eq] at ho;obtain ⟨h1,h2,h3,h4,h5,h6,h7⟩:=ho;have v2:=(varL_len5 (n:=seq.toNat) (by omega)).1;have v3:=(varL_len5 (n:=tx.toNat) (by omega)).1;have v5:=(varL_len5 (n:=part.toNat) (by omega)).1;have v4:=(varL_len5 (n:=count.toNat) (by omega)).1;have sz : ∀ l : List Int,(strOfNums l).size = l.length:=strOf_size;refine Ev.bind (sVar (by omega) (by omega)) (ev_pos (by rw [sz,sz];simp;omega) ?_);refine Ev.bind (sVar (by omega) (by omega)) (ev_pos (by rw [ByteArray.size_append,sz,sz,sz];simp;omega) ?_);refine Ev.bind (sVar (by omega) (by omega)) (ev_pos (by rw [ByteArray.size_append,ByteArray.size_append,sz,sz,sz,sz];simp;omega) ?_);refine Ev.bind (sVar (by omega) (by omega)) (ev_pos (by rw [ByteArray.size_append,ByteArray.size_append,ByteArray.size_append,sz,sz,sz,sz,sz];simp;omega) (ev_pos (by rw [ByteArray.size_append,ByteArray.size_append,ByteArray.size_append,ByteArray.size_append,sz,sz,sz,sz,sz];simp;omega) ?_));refine Ev.bind (sSealed _ (by rw [ByteArray.size_append,ByteArray.size_append,ByteArray.size_append,ByteArray.size_append,ByteArray.size_append,sz,sz,sz,sz,sz];simp;omega)) (Ev.now _)
 simp only [if_neg h];exact Ev.now _
noncomputable def l06V (s : ByteArray) (a : Int) (b : Bool) : Int × ByteArray × Int × Bool:=if b = true then (0,s,a,true) else if (rvB s a).2.2 = true then ((rvB s a).1,s,(rvB s a).2.1,b) else (0,s,a,true)
theorem s06 (s : ByteArray) (a : Int) (b : Bool) (hs : s.size ≤ 1099511627776) : Ev (fun k=>spec_l06Var.f k s a b) (l06V s a b):=by
 simp only [spec_l06Var.f];refine Ev.bind (sRV s a hs) ?_;unfold l06V
 by_cases h1 : b = true
 ·simp only [if_pos h1];exact Ev.now _
 by_cases h2 : (rvB s a).2.2 = true
 ·simp only [if_neg h1,if_pos h2];exact Ev.now _
 simp only [if_neg h1,if_neg h2];exact Ev.now _
theorem bad06 (s : ByteArray) (a : Int) : l06V s a true = (0,s,a,true):=by unfold l06V;rw [if_pos rfl]
theorem no06 {s : ByteArray} {a : Int} (h : (rvB s a).2.2 ≠ true) : l06V s a false = (0,s,a,true):=by
 unfold l06V;rw [if_neg (by simp),if_neg h]
theorem ok06 {s : ByteArray} {a : Int} (h : (rvB s a).2.2 = true) : l06V s a false = ((rvB s a).1,s,(rvB s a).2.1,false):=by
 unfold l06V;rw [if_neg (by simp),if_pos h]
theorem page_back {s : ByteArray} (h0 : s.size ≠ 0) (q1 : (rvB s 1).2.2 = true) (q2 : (rvB s (rvB s 1).2.1).2.2 = true) (q3 : (rvB s (rvB s (rvB s 1).2.1).2.1).2.2 = true) (q4 : (rvB s (rvB s (rvB s (rvB s 1).2.1).2.1).2.1).2.2 = true) :
  pageBytes (bt s 0) (rvB s 1).1 (rvB s (rvB s 1).2.1).1 (rvB s (rvB s (rvB s 1).2.1).2.1).1 (rvB s (rvB s (rvB s (rvB s 1).2.1).2.1).2.1).1 (s.extract (rvB s (rvB s (rvB s (rvB s 1).2.1).2.1).2.1).2.1.toNat s.size) = s:=by
 rcases rv_cases s 1 with h | ⟨i1,M1,j1,a1,e1,b1,c1,d1,f1⟩
 ·rw [h] at q1;cases q1
 rw [e1] at q2 q3 q4 ⊢;rcases rv_cases s ((i1 + j1 : Nat) : Int) with h | ⟨i2,M2,j2,a2,e2,b2,c2,d2,f2⟩
 ·rw [h] at q2;cases q2
 rw [e2] at q3 q4 ⊢;rcases rv_cases s ((i2 + j2 : Nat) : Int) with h | ⟨i3,M3,j3,a3,e3,b3,c3,d3,f3⟩
 ·rw [h] at q3;cases q3
 rw [e3] at q4 ⊢;rcases rv_cases s ((i3 + j3 : Nat) : Int) with h | ⟨i4,M4,j4,a4,e4,b4,c4,d4,f4⟩
 ·rw [h] at q4;cases q4
 rw [e4];have k1 : i1 = 1:=by omega
 have k2 : i2 = i1 + j1:=by omega
 have k3 : i3 = i2 + j2:=by omega
 have k4 : i4 = i3 + j3:=by omega
 simp only [Int.toNat_natCast];unfold pageBytes;simp only [Int.toNat_natCast];rw [← f1,← f2,← f3,← f4,← ext_one s h0,k1,ext_app s (by omega) (by omega),k2,k1,ext_app s (by omega) (by omega),k3,k2,k1,ext_app s (by omega) (by omega),k4,k3,k2,k1,ext_app s (by omega) (by omega),ext_app s (by omega) (by omega),ext_all]
theorem sReadPage (t : ByteArray) (hs : t.size ≤ 1099511627776) : Ev (fun k=>spec_ReadPage.f k t) (pageT t):=by
 simp only [spec_ReadPage.f];refine Ev.bind (sUnsealed t (by omega)) ?_;have hz:=unsealed_size t;have hz2 : (unsealed t).1.size ≤ 1099511627776:=by omega
 unfold pageT
 by_cases h1 : (unsealed t).2 = true
 ·simp only [if_pos h1]
  by_cases h2 : (unsealed t).1.size = 0
  ·rw [if_neg (fun h=>h.2 h2)];refine Ev.bind (s06 _ _ _ hz2) ?_;rw [show decide (((unsealed t).1.size : Int) < 1) = true by rw [h2];rfl,bad06];refine Ev.bind (s06 _ _ _ hz2) ?_;rw [bad06];refine Ev.bind (s06 _ _ _ hz2) ?_;rw [bad06];refine Ev.bind (s06 _ _ _ hz2) ?_;rw [bad06];exact Ev.now _
  rw [if_pos ⟨h1,h2⟩]
  have hq : sealT (unsealed t).1 = t:=by
   unfold unsealed at h1 ⊢
   split
   ·rename_i h;exact h.2.2
   rename_i h;rw [if_neg h] at h1;cases h1
  generalize (unsealed t).1 = s at *;have hb : 0 ≤ bt s 0 ∧ bt s 0 < 256:=bt_rng s 0;have eb : M2.w64 (bt s 0) = bt s 0:=x64 (by omega) (by omega);simp only [eb];refine Ev.bind (s06 _ _ _ hz2) ?_;rw [show decide ((s.size : Int) < 1) = false by rw [decide_eq_false];omega];unfold pageIn
  by_cases q1 : (rvB s 1).2.2 = true
  ·rw [ok06 q1,if_pos q1];refine Ev.bind (s06 _ _ _ hz2) ?_
   by_cases q2 : (rvB s (rvB s 1).2.1).2.2 = true
   ·rw [ok06 q2,if_pos q2];refine Ev.bind (s06 _ _ _ hz2) ?_
    by_cases q3 : (rvB s (rvB s (rvB s 1).2.1).2.1).2.2 = true
    ·rw [ok06 q3,if_pos q3];refine Ev.bind (s06 _ _ _ hz2) ?_
     by_cases q4 : (rvB s (rvB s (rvB s (rvB s 1).2.1).2.1).2.1).2.2 = true
     ·rw [ok06 q4,if_pos q4];have pb:=page_back h2 q1 q2 q3 q4;have p1:=(rv_le q4).1;have p2:=(rv_le q4).2;generalize (rvB s (rvB s (rvB s (rvB s 1).2.1).2.1).2.1).1 = E at *;generalize (rvB s (rvB s (rvB s (rvB s 1).2.1).2.1).2.1).2.1 = p at *;generalize (rvB s (rvB s (rvB s 1).2.1).2.1).1 = C at *;generalize (rvB s (rvB s 1).2.1).1 = B at *;generalize (rvB s 1).1 = A at *;simp only [Bool.false_eq_true,if_false,if_pos (show (0 : Int) < (s.size : Int) by omega),if_pos p1,if_pos p2];refine Ev.bind (sPageText _ _ _ _ _ _ (by rw [ByteArray.size_extract];omega)) ?_
      by_cases ho : okP (bt s 0) A B C E (s.extract p.toNat s.size) = true
      ·rw [if_pos ho,if_pos ho,pb,sealed,if_pos hz.1];simp only [if_true,if_pos (show M2.seq (sealT s) t = true by rw [seq_iff];exact hq)];exact Ev.now _
      rw [if_neg ho,if_neg ho];exact Ev.now _
     rw [no06 q4,if_neg q4];exact Ev.now _
    rw [no06 q3,if_neg q3];refine Ev.bind (s06 _ _ _ hz2) ?_;rw [bad06];exact Ev.now _
   rw [no06 q2,if_neg q2];refine Ev.bind (s06 _ _ _ hz2) ?_;rw [bad06];refine Ev.bind (s06 _ _ _ hz2) ?_;rw [bad06];exact Ev.now _
  rw [no06 q1,if_neg q1];refine Ev.bind (s06 _ _ _ hz2) ?_;rw [bad06];refine Ev.bind (s06 _ _ _ hz2) ?_;rw [bad06];refine Ev.bind (s06 _ _ _ hz2) ?_;rw [bad06];exact Ev.now _
 rw [if_neg (fun h=>h1 h.1)];simp only [if_neg h1];refine Ev.bind (s06 _ _ _ hz2) ?_;rw [bad06];refine Ev.bind (s06 _ _ _ hz2) ?_;rw [bad06];refine Ev.bind (s06 _ _ _ hz2) ?_;rw [bad06];refine Ev.bind (s06 _ _ _ hz2) ?_;rw [bad06];exact Ev.now _
end Go.Proofs.YtibhkbljjnlpjaaGreat.M2.Mp

namespace Go.Proofs.YtibhkbljjnlpjaaGreat.Pu
set_option linter.unusedVariables false
set_option linter.unusedSimpArgs false
open Go.RowKit Go.Proofs.YtibhkbljjnlpjaaGreat.PK Go.Proofs.YtibhkbljjnlpjaaGreatW.PrintWords
theorem rdLB_nat (l : List S72) (i : Nat) : rd_T72 l (i : Int) = l.getD i z72:=rfl
theorem rdIB_nat (l : List S76) (i : Nat) : rd_T76 l (i : Int) = l.getD i z76:=rfl
theorem rdLL_nat (l : List S132) (i : Nat) : rd_T132 l (i : Int) = l.getD i z132:=rfl
def toLf (x : S132) : S92:=⟨x.f0,x.f1⟩
def toBk (x : S72) : S76:=⟨x.f0,x.f1,x.f2.map toLf⟩
def toFl (l : List S72) : List S76:=l.map toBk
theorem toLeafS_ev (l : List S132) (h : l.length ≤ 1048576) : Ev (fun k=>laws_toLeafS.f k l) (l.map toLf):=by
 have h1:=ev_fill_all (E:=fun _ i=>(laws_toLeaf.f (rd_T132 l i).f0 (rd_T132 l i).f1).bind fun bt=>some (⟨bt.1,bt.2⟩ : S92)) (l:=l) (z:=z132) (g:=toLf) (xs:=List.replicate l.length z92) (L:=fun k xs i=>laws_toLeafS.l0 k l xs i) (by omega) (fun k xs i=>by
  simp only [laws_toLeafS.l0,Option.bind_assoc,Option.bind_some]) (fun i hi=>by rw [rdLL_nat];exact Ev.now _) (by simp)
 refine ev_ext (fun k=>?_) h1;unfold laws_toLeafS.f;rw [if_pos (by omega),if_pos (by simp;omega)];simp
theorem toBlock_ev (b : Bool) (n : Int) (l : List S132) (h : l.length ≤ 1048576) : Ev (fun k=>laws_toBlock.f k b n l) (b,n,l.map toLf):=by
 unfold laws_toBlock.f;exact ev_bind (toLeafS_ev l h) (Ev.now _)
theorem toFlash_ev (l : List S72) (h : l.length ≤ 1048576) (hk : ∀ x ∈ l,x.f2.length ≤ 1048576) : Ev (fun k=>laws_toFlash.f k l) (toFl l):=by
 have h1:=ev_fill_all (E:=fun k i=>(laws_toBlock.f k (rd_T72 l i).f0 (rd_T72 l i).f1 (rd_T72 l i).f2).bind fun bt=>some (⟨bt.1,bt.2.1,bt.2.2⟩ : S76)) (l:=l) (z:=z72) (g:=toBk) (xs:=List.replicate l.length z76) (L:=fun k xs i=>laws_toBlockS.l0 k l xs i) (by omega) (fun k xs i=>by
  simp only [laws_toBlockS.l0,Option.bind_assoc,Option.bind_some]) (fun i hi=>by
   rw [rdLB_nat]
   exact ev_bind (toBlock_ev _ _ _ (hk _ (getD_mem' hi))) (Ev.now _)) (by simp)
 unfold laws_toFlash.f;refine ev_bind (ev_ext (fun k=>?_) h1) (Ev.now _);unfold laws_toBlockS.f;rw [if_pos (by omega),if_pos (by simp;omega)];simp
theorem eqLeafS_ev (l : List S92) (hn : l.length ≤ 1048576) : Ev (fun k=>laws_eqLeafS.f k l l) true:=by
 have h1:=ev_all (n:=l.length) (m:=l.length) (L:=fun k i=>laws_eqLeafS.l0 k l l i) (E:=fun _ i=>laws_eqLeaf.f (rd_T92 l i).f0 (rd_T92 l i).f1 (rd_T92 l i).f0 (rd_T92 l i).f1) (by omega) (Nat.le_refl _) (fun k i=>by simp only [laws_eqLeafS.l0])
  (fun i _=>ev_const (by simp [laws_eqLeaf.f])) l.length 0 (by omega)
 refine ev_ext (fun k=>?_) h1;unfold laws_eqLeafS.f;rw [if_pos rfl];rfl
theorem eqFlash_ev (l : List S76) (hn : l.length ≤ 1048576) (hk : ∀ x ∈ l,x.f2.length ≤ 1048576) : Ev (fun k=>laws_eqFlash.f k l l) true:=by
 have h1:=ev_all (n:=l.length) (m:=l.length) (L:=fun k i=>laws_eqBlockS.l0 k l l i) (E:=fun k i=>laws_eqBlock.f k (rd_T76 l i).f0 (rd_T76 l i).f1 (rd_T76 l i).f2 (rd_T76 l i).f0 (rd_T76 l i).f1 (rd_T76 l i).f2) (by omega) (Nat.le_refl _) (fun k i=>by simp only [laws_eqBlockS.l0])
  (fun i hi=>by
   rw [rdIB_nat];unfold laws_eqBlock.f;simp only [bne_self_eq_false,Bool.false_eq_true,if_false,if_true]
   exact ev_bind (eqLeafS_ev _ (hk _ (getD_mem' hi))) (by simp only [if_true];exact Ev.now _)) l.length 0 (by omega)
 unfold laws_eqFlash.f;refine ev_bind (ev_ext (fun k=>?_) h1) (by simp only [if_true];exact Ev.now _);unfold laws_eqBlockS.f;rw [if_pos rfl];rfl
theorem szLeafS_ev (l : List S132) (a : Int) (h0 : 0 ≤ a) (h1 : a ≤ 1048576) (hn : l.length ≤ 9223372036854775807) (hk : ∀ x ∈ l,x.f1.size ≤ 9223372036854775807) :
  ∃ r,Ev (fun k=>laws_szLeafS.f k l a) r ∧ r ≤ a ∧ (0 ≤ r → (l.length : Int) ≤ a ∧ ∀ x ∈ l,(x.f1.size : Int) ≤ 1048576):=by
 by_cases h : a - (l.length : Int) < 0
 ·refine ⟨-1,⟨0,fun k _=>?_⟩,by omega,fun h2=>by omega⟩;show laws_szLeafS.f k l a = _;unfold laws_szLeafS.f;rw [w64 (by omega) (by omega),if_pos h]
 obtain ⟨r,hr,hra,hq⟩:=ev_size (n:=l.length) (L:=fun k a i=>laws_szLeafS.l0 k l a i) (E:=fun _ i a=>laws_szLeaf.f (rd_T132 l i).f0 (rd_T132 l i).f1 a) (P:=fun i=>((l.getD i z132).f1.size : Int) ≤ 1048576) hn (fun k a i=>by simp only [laws_szLeafS.l0])
  (fun i a hi h2 h3=>by
   have hb:=hk _ (getD_mem' (z:=z132) hi);rw [rdLL_nat];unfold laws_szLeaf.f;rw [w64 (by omega) (by omega)]
   by_cases h4 : a - ((l.getD i z132).f1.size : Int) < 0
   ·exact ⟨-1,ev_const (by rw [if_pos h4]),by omega,fun h5=>by omega⟩
   exact ⟨_,ev_const (by rw [if_neg h4]),by omega,fun _=>by omega⟩) l.length 0 (a - (l.length : Int)) (by omega) (by omega) (by omega)
 refine ⟨r,ev_ext (fun k=>?_) hr,by omega,fun h2=>⟨by omega,fun x hx=>?_⟩⟩
 ·unfold laws_szLeafS.f;rw [w64 (by omega) (by omega),if_neg h];rfl
 obtain ⟨i,hi,rfl⟩:=List.getElem_of_mem hx;have:=hq h2 i (by omega) hi
 rwa [List.getD_eq_getElem?_getD,List.getElem?_eq_getElem hi] at this
theorem szFlash_ev (l : List S72) (a : Int) (h0 : 0 ≤ a) (h1 : a ≤ 1048576) (hn : l.length ≤ 9223372036854775807) (hk : ∀ x ∈ l,x.f2.length ≤ 9223372036854775807 ∧ ∀ y ∈ x.f2,y.f1.size ≤ 9223372036854775807) :
  ∃ r,Ev (fun k=>laws_szFlash.f k l a) r ∧ r ≤ a ∧ (0 ≤ r → (l.length : Int) ≤ a ∧ ∀ x ∈ l,(x.f2.length : Int) ≤ 1048576 ∧ ∀ y ∈ x.f2,(y.f1.size : Int) ≤ 1048576):=by
 by_cases h : a - (l.length : Int) < 0
 ·refine ⟨-1,⟨0,fun k _=>?_⟩,by omega,fun h2=>by omega⟩;show laws_szFlash.f k l a = _;unfold laws_szFlash.f laws_szBlockS.f;rw [w64 (by omega) (by omega),if_pos h];rfl
 obtain ⟨r,hr,hra,hq⟩:=ev_size (n:=l.length) (L:=fun k a i=>laws_szBlockS.l0 k l a i) (E:=fun k i a=>laws_szBlock.f k (rd_T72 l i).f0 (rd_T72 l i).f1 (rd_T72 l i).f2 a) (P:=fun i=>((l.getD i z72).f2.length : Int) ≤ 1048576 ∧ ∀ y ∈ (l.getD i z72).f2,(y.f1.size : Int) ≤ 1048576) hn (fun k a i=>by simp only [laws_szBlockS.l0])
  (fun i a hi h2 h3=>by
   have hb:=hk _ (getD_mem' (z:=z72) hi);rw [rdLB_nat];obtain ⟨t,ht,hta,hp⟩:=szLeafS_ev (l.getD i z72).f2 a h2 h3 hb.1 hb.2;unfold laws_szBlock.f
   by_cases h4 : t < 0
   ·exact ⟨-1,ev_bind ht (by simp only [if_pos h4];exact Ev.now _),by omega,fun h5=>by omega⟩
   exact ⟨t,ev_bind ht (by simp only [if_neg h4];exact Ev.now _),hta,fun h5=>⟨by have:=(hp h5).1;omega,(hp h5).2⟩⟩) l.length 0 (a - (l.length : Int)) (by omega) (by omega) (by omega)
 have hr2 : Ev (fun k=>laws_szBlockS.f k l a) r:=by
  refine ev_ext (fun k=>?_) hr;unfold laws_szBlockS.f;rw [w64 (by omega) (by omega),if_neg h];rfl
 have hp : 0 ≤ r → (l.length : Int) ≤ a ∧ ∀ x ∈ l,(x.f2.length : Int) ≤ 1048576 ∧ ∀ y ∈ x.f2,(y.f1.size : Int) ≤ 1048576:=fun h2=>⟨by omega,fun x hx=>by
  obtain ⟨i,hi,rfl⟩:=List.getElem_of_mem hx;have:=hq h2 i (by omega) hi
  rwa [List.getD_eq_getElem?_getD,List.getElem?_eq_getElem hi] at this⟩
 unfold laws_szFlash.f
 by_cases h4 : r < 0
 ·exact ⟨-1,ev_bind hr2 (by simp only [if_pos h4];exact Ev.now _),by omega,fun h5=>by omega⟩
 exact ⟨r,ev_bind hr2 (by simp only [if_neg h4];exact Ev.now _),by omega,hp⟩
theorem flash_start {l : List S72} (hl : l.length ≤ maxLen) (hx : ∀ x ∈ l,x.f2.length ≤ maxLen ∧ ∀ y ∈ x.f2,y.f1.size ≤ maxLen) :
  ∃ r,Ev (fun k=>laws_szFlash.f k l 1048576) r ∧ (0 ≤ r → Ev (fun k=>laws_toFlash.f k l) (toFl l) ∧ Ev (fun k=>laws_eqFlash.f k (toFl l) (toFl l)) true ∧ (toFl l).length ≤ 1048576 ∧ ∀ x ∈ toFl l,x.f2.length ≤ 1048576 ∧ ∀ y ∈ x.f2,y.f1.size ≤ 1048576):=by
 unfold maxLen at hl hx;obtain ⟨r,hr,_,hq⟩:=szFlash_ev l 1048576 (by omega) (by omega) (by omega) (fun x h=>⟨by have:=(hx x h).1;omega,fun y hy=>by have:=(hx x h).2 y hy;omega⟩);refine ⟨r,hr,fun h0=>?_⟩;obtain ⟨h1,h2⟩:=hq h0;have hlen : (toFl l).length = l.length:=by unfold toFl;exact List.length_map _
 have hm : ∀ x ∈ toFl l,x.f2.length ≤ 1048576 ∧ ∀ y ∈ x.f2,y.f1.size ≤ 1048576:=by
  intro x h;unfold toFl at h;obtain ⟨y,hy,rfl⟩:=List.mem_map.1 h;obtain ⟨a1,a2⟩:=h2 y hy;refine ⟨by show (y.f2.map toLf).length ≤ _;rw [List.length_map];omega,fun z hz=>?_⟩;obtain ⟨q,hq2,rfl⟩:=List.mem_map.1 (show z ∈ y.f2.map toLf from hz);have:=a2 q hq2;show q.f1.size ≤ _;omega
 exact ⟨toFlash_ev l (by omega) (fun x h=>by have:=(h2 x h).1;omega),eqFlash_ev _ (by omega) (fun x h=>(hm x h).1),by omega,hm⟩
end Go.Proofs.YtibhkbljjnlpjaaGreat.Pu

namespace Go.Proofs.YtibhkbljjnlpjaaGreat.M2.Mp
set_option linter.unusedVariables false
set_option linter.unusedSimpArgs false
open Go.RowKit Go.Proofs.YtibhkbljjnlpjaaGreat.PK Go.Proofs.YtibhkbljjnlpjaaGreatW.PrintWords Go.Proofs.YtibhkbljjnlpjaaGreat.Pu Go.Proofs.YtibhkbljjnlpjaaGreat.St
def mkF (b i : Int) (p : PageV) : S65:=⟨b,i,⟨p.1,p.2.1,p.2.2.1,p.2.2.2.1,p.2.2.2.2.1,p.2.2.2.2.2.1⟩⟩
noncomputable def leafF (b i : Int) (x : S92) : List S65:=if (pageT x.f1).2.2.2.2.2.2 = true ∧ x.f0 = 1 then [mkF b i (pageT x.f1)] else []
noncomputable def leavesF (b : Int) : Nat → List S92 → List S65
 | _,[]=>[]
 | i,x :: l=>leafF b (i : Int) x ++ leavesF b (i + 1) l
noncomputable def blocksF : Nat → List S76 → List S65
 | _,[]=>[]
 | b,x :: l=>leavesF (b : Int) 0 x.f2 ++ blocksF (b + 1) l
theorem leafF_len (b i : Int) (x : S92) : (leafF b i x).length ≤ 1:=by unfold leafF;split <;> simp
theorem leavesF_len (b : Int) : ∀ (i : Nat) (l : List S92),(leavesF b i l).length ≤ l.length
 | _,[]=>by simp [leavesF]
 | i,x :: l=>by
  rw [leavesF,List.length_append,List.length_cons];have:=leafF_len b i x;have:=leavesF_len b (i + 1) l;omega
def FlashB (bs : List S76) : Prop:=bs.length ≤ 1048576 ∧ ∀ x ∈ bs,x.f2.length ≤ 1048576 ∧ ∀ y ∈ x.f2,y.f1.size ≤ 1048576
noncomputable def unsorted (bs : List S76) : List S65:=blocksF 0 bs
noncomputable def scanV (bs : List S76) : List S65:=isort ltK65 (unsorted bs)
theorem rdF_nat (l : List S65) (i : Nat) : rd_T65 l (i : Int) = l.getD i z65:=rfl
theorem rdB_nat (l : List S76) (i : Nat) : rd_T76 l (i : Int) = l.getD i z76:=rfl
theorem rdL_nat (l : List S92) (i : Nat) : rd_T92 l (i : Int) = l.getD i z92:=rfl
theorem drop_getD {α : Type} {l : List α} {i : Nat} (z : α) (h : i < l.length) : l.drop i = l.getD i z :: l.drop (i + 1):=by
 rw [List.drop_eq_getElem_cons h,List.getD_eq_getElem?_getD,List.getElem?_eq_getElem h];rfl
theorem sReadLeaf (k : Nat) (bs : List S76) (b i : Nat) (hb : b < bs.length) (hi : i < (bs.getD b z76).f2.length) (h : FlashB bs) :
  spec_ReadLeaf.f k bs (b : Int) (i : Int) = some (if ((bs.getD b z76).f2.getD i z92).f0 = 1 then (((bs.getD b z76).f2.getD i z92).f1,true) else (⟨#[]⟩,false)):=by
 have h1:=h.1;have h2:=(h.2 _ (getD_mem' (z:=z76) hb)).1;simp only [spec_ReadLeaf.f,sIn,Option.bind_some,decide_eq_true_eq,rdB_nat,rdL_nat];have e1 : M2.w64 ((bs.length : Int) - 1) = (bs.length : Int) - 1:=x64 (by omega) (by omega);have e2 : M2.w64 (((bs.getD b z76).f2.length : Int) - 1) = ((bs.getD b z76).f2.length : Int) - 1:=x64 (by omega) (by omega);rw [e1,e2,if_pos (show 0 ≤ (b : Int) ∧ (b : Int) ≤ (bs.length : Int) - 1 by omega)];simp only [if_pos (show 0 ≤ (b : Int) by omega),if_pos (show (b : Int) < (bs.length : Int) by omega),if_pos (show 0 ≤ (i : Int) by omega),if_pos (show (i : Int) < ((bs.getD b z76).f2.length : Int) by omega),if_pos (show 0 ≤ (i : Int) ∧ (i : Int) ≤ ((bs.getD b z76).f2.length : Int) - 1 by omega)]
 split
 ·exact if_pos (by omega)
 rfl
theorem sScan6 (bs : List S76) (h : FlashB bs) (b : Nat) (hb : b < bs.length) : ∀ (d i : Nat) (acc r : List S65),i + d = (bs.getD b z76).f2.length → acc.length ≤ b * 1048576 + i →
  Ev (fun k=>spec_ScanAll.c3 k ((b + 1 : Nat) : Int) bs (acc ++ leavesF (b : Int) i ((bs.getD b z76).f2.drop i))) r → Ev (fun k=>spec_ScanAll.c6 k (b : Int) (i : Int) bs acc) r
 | 0,i,acc,r,hi,hl,hr=>by
  rw [List.drop_eq_nil_of_le (by omega),leavesF,List.append_nil] at hr;refine Ev.step (fun k=>?_) hr;rw [spec_ScanAll.c6,if_pos (by omega),if_pos (by omega),rdB_nat,if_neg (by omega),m64 hb (by have:=h.1;omega)]
 | d + 1,i,acc,r,hi,hl,hr=>by
  have h1:=h.1;have h2:=h.2 _ (getD_mem' (z:=z76) hb);have hil : i < (bs.getD b z76).f2.length:=by omega
  rw [drop_getD z92 hil,leavesF,← List.append_assoc] at hr;have hlf:=leafF_len (b : Int) (i : Int) ((bs.getD b z76).f2.getD i z92);have ih:=sScan6 bs h b hb d (i + 1) _ r (by omega) (by rw [List.length_append];omega) hr;have hts:=h2.2 _ (getD_mem' (z:=z92) hil);refine Ev.step (f:=fun k=>(spec_ReadPage.f k (if ((bs.getD b z76).f2.getD i z92).f0 = 1 then ((bs.getD b z76).f2.getD i z92).f1 else (⟨#[]⟩ : ByteArray))).bind fun t2=>if ((bs.getD b z76).f2.getD i z92).f0 = 1 ∧ t2.2.2.2.2.2.2 = true then spec_ScanAll.c6 k (b : Int) ((i + 1 : Nat) : Int) bs (acc ++ [mkF (b : Int) (i : Int) t2]) else spec_ScanAll.c6 k (b : Int) ((i + 1 : Nat) : Int) bs acc) (fun k=>?_) ?_
  ·rw [spec_ScanAll.c6,if_pos (by omega),if_pos (by omega),rdB_nat,if_pos (by omega),sReadLeaf k bs b i hb hil h,Option.bind_some,m64 hil (by omega)];generalize (bs.getD b z76).f2.getD i z92 = x
   by_cases q : x.f0 = 1
   ·simp only [if_pos q,if_true]
    congr 1;funext t2
    by_cases q2 : t2.2.2.2.2.2.2 = true
    ·rw [if_pos q2,if_pos (by simp;omega),if_pos ⟨q,q2⟩];rfl
    rw [if_neg q2,if_neg (fun hh=>q2 hh.2)]
   simp only [if_neg q]
   congr 1;funext t2
   rw [if_neg (show ¬ ((⟨#[]⟩ : ByteArray),false).2 = true by simp),if_neg (fun hh=>q hh.1)]
  generalize (bs.getD b z76).f2.getD i z92 = x at *
  by_cases q : x.f0 = 1
  ·simp only [if_pos q];refine Ev.bind (sReadPage _ (by omega)) ?_
   by_cases q2 : (pageT x.f1).2.2.2.2.2.2 = true
   ·rw [leafF,if_pos ⟨q2,q⟩] at ih;refine ev_pos ⟨q,q2⟩ ih
   rw [leafF,if_neg (fun hh=>q2 hh.1),List.append_nil] at ih;exact ev_neg (fun hh=>q2 hh.2) ih
  simp only [if_neg q];refine Ev.bind (sReadPage _ (by rw [show (⟨#[]⟩ : ByteArray).size = 0 from rfl];omega)) ?_;rw [leafF,if_neg (fun hh=>q hh.2),List.append_nil] at ih;exact ev_neg (fun hh=>q hh.1) ih
theorem sScan3 (bs : List S76) (h : FlashB bs) : ∀ (d b : Nat) (acc r : List S65),b + d = bs.length → acc.length ≤ b * 1048576 → Ev (fun k=>spec_ScanAll.c13 k 1 (acc ++ blocksF b (bs.drop b))) r → Ev (fun k=>spec_ScanAll.c3 k (b : Int) bs acc) r
 | 0,b,acc,r,hb,hl,hr=>by
  rw [List.drop_eq_nil_of_le (by omega),blocksF,List.append_nil] at hr;refine Ev.step (fun k=>?_) hr;rw [spec_ScanAll.c3,if_neg (by omega)]
 | d + 1,b,acc,r,hb,hl,hr=>by
  have hbl : b < bs.length:=by omega
  have h2:=h.2 _ (getD_mem' (z:=z76) hbl);rw [drop_getD z76 hbl,blocksF,← List.append_assoc] at hr;have hlv:=leavesF_len (b : Int) 0 (bs.getD b z76).f2
  refine Ev.step (fun k=>?_) (sScan6 bs h b hbl _ 0 acc r (Nat.zero_add _) (by rw [Nat.add_zero];exact hl) (by
   rw [List.drop_zero]
   exact sScan3 bs h d (b + 1) _ r (by omega) (by rw [List.length_append];omega) hr))
  rw [spec_ScanAll.c3,if_pos (by omega)];rfl
theorem getD_app {α : Type} (A B : List α) (x z : α) : (A ++ x :: B).getD A.length z = x:=by simp [List.getD]
theorem sSort16 (i : Nat) (hi : i ≤ 9223372036854775800) : ∀ (L Q : List S65) (x : S65) (r : List S65),L.length ≤ i → L.length + 1 + Q.length ≤ 9223372036854775800 → Ev (fun k=>spec_ScanAll.c13 k ((i + 1 : Nat) : Int) ((insR ltK65 x L).reverse ++ Q)) r → Ev (fun k=>spec_ScanAll.c16 k (i : Int) (L.length : Int) (L.reverse ++ x :: Q)) r
 | [],Q,x,r,hL,hQ,hr=>by
  refine Ev.step (fun k=>?_) hr;rw [spec_ScanAll.c16,if_neg (by simp),m64 (n:=i + 1) (by omega) (by omega)];rfl
 | e :: L,Q,x,r,hL,hQ,hr=>by
  rw [List.length_cons] at hL hQ;have ej : M2.w64 (((e :: L).length : Int) - 1) = (L.length : Int):=by rw [List.length_cons,x64 (by omega) (by omega)];omega
  have r1 : rd_T65 ((e :: L).reverse ++ x :: Q) (L.length : Int) = e:=by
   rw [rdF_nat,List.reverse_cons,List.append_assoc,show L.length = L.reverse.length by simp];exact getD_app _ _ _ _
  have r2 : rd_T65 ((e :: L).reverse ++ x :: Q) ((e :: L).length : Int) = x:=by
   rw [rdF_nat,show (e :: L).length = (e :: L).reverse.length by simp];exact getD_app _ _ _ _
  have hlen : (((e :: L).reverse ++ x :: Q).length : Int) = ((L.length + 2 + Q.length : Nat) : Int):=by simp;omega
  by_cases hlt : e.f2.f1 > x.f2.f1
  ·have hk : ltK65 x e = true:=by unfold ltK65;exact decide_eq_true hlt
   rw [insR,if_pos hk,List.reverse_cons,List.append_assoc] at hr;refine Ev.step (fun k=>?_) (sSort16 i hi L (e :: Q) x r (by omega) (by rw [List.length_cons];omega) hr);rw [spec_ScanAll.c16,if_pos (by rw [List.length_cons];omega)];simp only [ej,r1,r2,hlen,List.length_set,if_pos (show (0 : Int) ≤ (L.length : Int) by omega),if_pos (show (L.length : Int) < ((L.length + 2 + Q.length : Nat) : Int) by omega),if_pos (show (0 : Int) ≤ ((e :: L).length : Int) by omega),if_pos (show ((e :: L).length : Int) < ((L.length + 2 + Q.length : Nat) : Int) by rw [List.length_cons];omega),if_pos hlt,Int.toNat_natCast]
   congr 1
   rw [List.reverse_cons,List.append_assoc,List.set_append_right _ _ (by simp),List.length_cons,List.length_reverse,show L.length + 1 - L.length = 1 by omega,List.set_append_right _ _ (by simp),List.length_reverse,Nat.sub_self];rfl
  have hk : ¬ ltK65 x e = true:=by unfold ltK65;simpa using hlt
  rw [insR,if_neg hk] at hr;refine Ev.step (fun k=>?_) (show Ev (fun k=>spec_ScanAll.c13 k ((i + 1 : Nat) : Int) ((e :: L).reverse ++ x :: Q)) r by simpa using hr);rw [spec_ScanAll.c16,if_pos (by rw [List.length_cons];omega)];simp only [ej,r1,r2,hlen,if_pos (show (0 : Int) ≤ (L.length : Int) by omega),if_pos (show (L.length : Int) < ((L.length + 2 + Q.length : Nat) : Int) by omega),if_pos (show (0 : Int) ≤ ((e :: L).length : Int) by omega),if_pos (show ((e :: L).length : Int) < ((L.length + 2 + Q.length : Nat) : Int) by rw [List.length_cons];omega),if_neg hlt,m64 (n:=i + 1) (show i < i + 1 by omega) (by omega)]
theorem sSort13 : ∀ (R M : List S65) (i : Nat),M.length = i → i + R.length ≤ 1099511627776 → Ev (fun k=>spec_ScanAll.c13 k (i : Int) (M ++ R)) (mrg ltK65 M R)
 | [],M,i,hM,hs=>by
  refine Ev.step (f:=fun _=>some M) (fun k=>?_) (Ev.now _);rw [spec_ScanAll.c13,if_neg (by simp;omega),List.append_nil]
 | x :: R,M,i,hM,hs=>by
  rw [List.length_cons] at hs;have ih:=sSort13 R (ins ltK65 x M) (i + 1) (by rw [len_ins];omega) (by omega);have:=sSort16 i (by omega) M.reverse R x _ (by simp;omega) (by rw [List.length_reverse];omega) ih;rw [List.reverse_reverse,List.length_reverse,hM] at this;refine Ev.step (fun k=>?_) this;rw [spec_ScanAll.c13,if_pos (by simp;omega)]
theorem sSort (l : List S65) (h : l.length ≤ 1099511627776) : Ev (fun k=>spec_ScanAll.c13 k 1 l) (isort ltK65 l):=by
 cases l with
 | nil =>
  refine Ev.step (f:=fun _=>some []) (fun k=>?_) (Ev.now _);rw [spec_ScanAll.c13,if_neg (by simp)]
 | cons x l=>exact sSort13 l [x] 1 rfl (by rw [List.length_cons] at h;omega)
theorem blocksF_len : ∀ (l : List S76) (b : Nat),(∀ x ∈ l,x.f2.length ≤ 1048576) → (blocksF b l).length ≤ l.length * 1048576
 | [],_,_=>by simp [blocksF]
 | x :: l,b,h=>by
  rw [blocksF,List.length_append,List.length_cons];have:=leavesF_len (b : Int) 0 x.f2;have:=blocksF_len l (b + 1) (fun y hy=>h y (by simp [hy]));have:=h x (by simp);omega
theorem unsorted_len {bs : List S76} (h : FlashB bs) : (unsorted bs).length ≤ 1099511627776:=by
 have:=blocksF_len bs 0 (fun x hx=>(h.2 x hx).1);have:=h.1;unfold unsorted;omega
theorem sScanAll (bs : List S76) (h : FlashB bs) : Ev (fun k=>spec_ScanAll.f k bs) (scanV bs):=by
 simp only [spec_ScanAll.f];refine sScan3 bs h _ 0 [] _ (Nat.zero_add _) (by simp) ?_;rw [List.drop_zero,List.nil_append];exact sSort _ (unsorted_len h)
theorem lsort_isort (l : List S65) : lsort65 l = isort ltK65 l:=by
 unfold lsort65;have:=insertionSort_list (lt:=ltK65) (d:=l.toArray) (A:=[]) (M:=l) (Q:=[]) (a:=0) (b:=l.length) (by simp) rfl (by simp);rw [this];simp
theorem iScan6 (bs : List S76) (h : FlashB bs) (b : Nat) (hb : b < bs.length) : ∀ (d i : Nat) (acc r : List S65),i + d = (bs.getD b z76).f2.length → acc.length ≤ b * 1048576 + i →
  Ev (fun k=>impl_ScanAll.c3 k bs (bs.length : Int) ((b + 1 : Nat) : Int) (acc ++ leavesF (b : Int) i ((bs.getD b z76).f2.drop i))) r → Ev (fun k=>impl_ScanAll.c6 k (b : Int) bs (bs.length : Int) (b : Int) (bs.getD b z76).f2 ((bs.getD b z76).f2.length : Int) (i : Int) acc) r
 | 0,i,acc,r,hi,hl,hr=>by
  rw [List.drop_eq_nil_of_le (by omega),leavesF,List.append_nil] at hr;refine Ev.step (fun k=>?_) hr;rw [impl_ScanAll.c6,if_neg (by omega),m64 hb (by have:=h.1;omega)]
 | d + 1,i,acc,r,hi,hl,hr=>by
  have h1:=h.1;have h2:=h.2 _ (getD_mem' (z:=z76) hb);have hil : i < (bs.getD b z76).f2.length:=by omega
  rw [drop_getD z92 hil,leavesF,← List.append_assoc] at hr;have hlf:=leafF_len (b : Int) (i : Int) ((bs.getD b z76).f2.getD i z92);have ih:=iScan6 bs h b hb d (i + 1) _ r (by omega) (by rw [List.length_append];omega) hr;have hts:=h2.2 _ (getD_mem' (z:=z92) hil);generalize (bs.getD b z76).f2 = lv at *;refine Ev.step (f:=fun k=>(impl_ReadPage.f k (lv.getD i z92).f1).bind fun t2=>if t2.2.2.2.2.2.2 = true ∧ (lv.getD i z92).f0 = 1 then impl_ScanAll.c6 k (b : Int) bs (bs.length : Int) (b : Int) lv (lv.length : Int) ((i + 1 : Nat) : Int) (acc ++ [mkF (b : Int) (i : Int) t2]) else impl_ScanAll.c6 k (b : Int) bs (bs.length : Int) (b : Int) lv (lv.length : Int) ((i + 1 : Nat) : Int) acc) (fun k=>?_) ?_
  ·rw [impl_ScanAll.c6,if_pos (by omega),if_pos (by omega),if_pos (by omega),rdL_nat,m64 hil (by omega)]
   congr 1;funext t2
   by_cases q2 : t2.2.2.2.2.2.2 = true
   ·by_cases q : (lv.getD i z92).f0 = 1
    ·rw [if_pos q2,if_pos q,if_pos (by simp;omega),if_pos ⟨q2,q⟩];rfl
    rw [if_pos q2,if_neg q,if_neg (fun hh=>q hh.2)]
   rw [if_neg q2,if_neg (fun hh=>q2 hh.1)]
  generalize lv.getD i z92 = x at *;refine Ev.bind (iReadPage _ (by omega)) ?_
  by_cases q : (pageT x.f1).2.2.2.2.2.2 = true ∧ x.f0 = 1
  ·rw [leafF,if_pos q] at ih;exact ev_pos q ih
  rw [leafF,if_neg q,List.append_nil] at ih;exact ev_neg q ih
theorem iScan3 (bs : List S76) (h : FlashB bs) : ∀ (d b : Nat) (acc : List S65),b + d = bs.length → acc.length ≤ b * 1048576 → Ev (fun k=>impl_ScanAll.c3 k bs (bs.length : Int) (b : Int) acc) (isort ltK65 (acc ++ blocksF b (bs.drop b)))
 | 0,b,acc,hb,hl=>by
  have h1:=h.1;rw [List.drop_eq_nil_of_le (by omega),blocksF,List.append_nil];refine Ev.step (f:=fun _=>some _) (fun k=>?_) (Ev.now _);rw [impl_ScanAll.c3,if_neg (by omega),if_pos (by omega),lsort_isort]
 | d + 1,b,acc,hb,hl=>by
  have hbl : b < bs.length:=by omega
  have h2:=h.2 _ (getD_mem' (z:=z76) hbl);rw [drop_getD z76 hbl,blocksF,← List.append_assoc];have hlv:=leavesF_len (b : Int) 0 (bs.getD b z76).f2
  refine Ev.step (fun k=>?_) (iScan6 bs h b hbl _ 0 acc _ (Nat.zero_add _) (by rw [Nat.add_zero];exact hl) (by
   rw [List.drop_zero]
   exact iScan3 bs h d (b + 1) _ (by omega) (by rw [List.length_append];omega)))
  rw [impl_ScanAll.c3,if_pos (by omega),if_pos (by omega),if_pos (by omega),rdB_nat];rfl
theorem iScanAll (bs : List S76) (h : FlashB bs) : Ev (fun k=>impl_ScanAll.f k bs) (scanV bs):=by
 simp only [impl_ScanAll.f];have:=iScan3 bs h _ 0 [] (Nat.zero_add _) (by simp);rw [List.drop_zero,List.nil_append] at this;exact this
theorem scan_len {bs : List S76} (h : FlashB bs) : (scanV bs).length ≤ 1099511627776:=by
 unfold scanV;rw [len_isort];exact unsorted_len h
end Go.Proofs.YtibhkbljjnlpjaaGreat.M2.Mp

namespace Go.Proofs.YtibhkbljjnlpjaaGreat.M2.Mp
set_option linter.unusedVariables false
set_option linter.unusedSimpArgs false
open Go.RowKit Go.Proofs.YtibhkbljjnlpjaaGreat.PK Go.Proofs.YtibhkbljjnlpjaaGreatW.PrintWords Go.Proofs.YtibhkbljjnlpjaaGreat.Pu Go.Proofs.YtibhkbljjnlpjaaGreat.St
def chk (c : Int) (x : S65) : Bool:=decide (x.f2.f0 = 1) && decide (x.f2.f2 = c)
theorem chk_iff {c : Int} {x : S65} : chk c x = true ↔ x.f2.f0 = 1 ∧ x.f2.f2 = c:=by simp [chk]
def lastM (c : Int) : Option S65 → List S65 → Option S65
 | o,[]=>o
 | o,x :: l=>lastM c (if chk c x = true then some x else o) l
theorem lastM_snoc (c : Int) (x : S65) : ∀ (l : List S65) (o : Option S65),lastM c o (l ++ [x]) = if chk c x = true then some x else lastM c o l
 | [],o=>rfl
 | y :: l,o=>by rw [List.cons_append,lastM,lastM_snoc c x l,lastM]
abbrev NewV:=Int × Int × Int × Int × Int × Int × Int × ByteArray × Bool
def bz (o : Option S65) : S65:=o.getD z65
def nwV (o : Option S65) : NewV:=((bz o).f0,(bz o).f1,(bz o).f2.f0,(bz o).f2.f1,(bz o).f2.f2,(bz o).f2.f3,(bz o).f2.f4,(bz o).f2.f5,o.isSome)
theorem take_nextD {α : Type} {l : List α} {n : Nat} (z : α) (h : n < l.length) : l.take (n + 1) = l.take n ++ [l.getD n z]:=by
 rw [List.take_add_one,List.getElem?_eq_getElem h,List.getD_eq_getElem?_getD,List.getElem?_eq_getElem h];rfl
theorem iData4 (l : List S65) (c : Int) (hl : l.length ≤ 1099511627776) (hA : Asc ltK65 l) : ∀ (d i : Nat) (o : Option S65),i + d = l.length → (∀ x,o = some x → ∀ y ∈ l.drop i,x.f2.f1 ≤ y.f2.f1) →
  Ev (fun k=>impl_dataOf.c4 k c o.isSome (l.length : Int) (i : Int) 0 0 0 0 0 0 0 (⟨#[]⟩ : ByteArray) (bz o).f0 (bz o).f1 (bz o).f2.f0 (bz o).f2.f1 (bz o).f2.f2 (bz o).f2.f3 (bz o).f2.f4 (bz o).f2.f5 l) (nwV (lastM c o (l.drop i)))
 | 0,i,o,hi,_=>by
  rw [List.drop_eq_nil_of_le (by omega),lastM];refine Ev.step (f:=fun _=>some _) (fun k=>?_) (Ev.now _);rw [impl_dataOf.c4,if_neg (by omega)];rfl
 | d + 1,i,o,hi,ho=>by
  have hil : i < l.length:=by omega
  have hd:=drop_getD z65 hil
  have hA2 : Asc ltK65 (l.drop i):=by
   have:=hA;rw [← List.take_append_drop i l] at this;exact this.right
  rw [hd] at ho hA2 ⊢;rw [lastM];generalize hx : l.getD i z65 = x at *
  have hA3 : ∀ y ∈ l.drop (i + 1),x.f2.f1 ≤ y.f2.f1:=fun y hy=>by
   have:=Asc.cross (X:=[x]) (Y:=l.drop (i + 1)) hA2 y hy x (by simp);unfold ltK65 at this;have:=of_decide_eq_false this;omega
  by_cases q : chk c x = true
  ·have q12:=chk_iff.1 q;rw [if_pos q];have ih:=iData4 l c hl hA d (i + 1) (some x) (by omega) (fun z hz=>by cases hz;exact hA3);refine Ev.step (fun k=>?_) ih;rw [impl_dataOf.c4,if_pos (by omega),if_pos (by omega),if_pos (by omega),rdF_nat,hx,if_pos q12.1,if_pos q12.2,m64 hil (by omega)];cases o with
   | none=>rw [if_neg (by simp)];rfl
   | some z=>rw [if_pos (show (some z).isSome = true from rfl),if_pos (show x.f2.f1 ≥ (bz (some z)).f2.f1 from ho z rfl x (by simp))];rfl
  rw [if_neg q];have ih:=iData4 l c hl hA d (i + 1) o (by omega) (fun z hz y hy=>ho z hz y (by simp [hy]));refine Ev.step (fun k=>?_) ih;rw [impl_dataOf.c4,if_pos (by omega),if_pos (by omega),if_pos (by omega),rdF_nat,hx,m64 hil (by omega)]
  by_cases q1 : x.f2.f0 = 1
  ·rw [if_pos q1,if_neg (fun q2=>q (chk_iff.2 ⟨q1,q2⟩))]
  rw [if_neg q1]
theorem ltK_swo : Go.Sort.SWO ltK65 where
 irrefl:=fun x=>by simp [ltK65]
 trans:=fun x y z h1 h2=>by simp [ltK65] at *;omega
 ntrans:=fun x y z h1 h2=>by simp [ltK65] at *;omega
noncomputable def dataV (bs : List S76) (c : Int) : Option S65:=lastM c none (scanV bs)
theorem iDataOf (bs : List S76) (c : Int) (h : FlashB bs) : Ev (fun k=>impl_dataOf.f k bs c) (nwV (dataV bs c)):=by
 simp only [impl_dataOf.f];refine Ev.bind (iScanAll bs h) ?_;exact iData4 (scanV bs) c (scan_len h) (asc_isort ltK_swo _) _ 0 none (Nat.zero_add _) (fun x hx=>by cases hx)
theorem flashX {l : List S72} (hl : l.length ≤ maxLen) (hx : ∀ x ∈ l,x.f2.length ≤ maxLen ∧ ∀ y ∈ x.f2,y.f1.size ≤ maxLen) :
  ∃ r,Ev (fun k=>laws_szFlash.f k l 1048576) r ∧ (0 ≤ r → Ev (fun k=>laws_toFlash.f k l) (toFl l) ∧ Ev (fun k=>laws_eqFlash.f k (toFl l) (toFl l)) true ∧ FlashB (toFl l)):=by
 obtain ⟨r,hr,hq⟩:=flash_start hl hx;exact ⟨r,ev_rel (c:=id) hr (fun k r h m hm=>laws_szFlash.rel k l 1048576 r h m hm),fun h0=>⟨ev_rel (c:=id) (hq h0).1 (fun k r h m hm=>laws_toFlash.rel k l r h m hm),ev_rel (c:=id) (hq h0).2.1 (fun k r h m hm=>laws_eqFlash.rel k _ _ r h m hm),(hq h0).2.2⟩⟩
end Go.Proofs.YtibhkbljjnlpjaaGreat.M2.Mp

namespace Go.Proofs.YtibhkbljjnlpjaaGreat.M2.Mp
set_option linter.unusedVariables false
set_option linter.unusedSimpArgs false
open Go.RowKit Go.Proofs.YtibhkbljjnlpjaaGreat.PK Go.Proofs.YtibhkbljjnlpjaaGreatW.PrintWords Go.Proofs.YtibhkbljjnlpjaaGreat.Pu
def metaP (base : Int) (x : S65) : Bool:=decide (x.f2.f0 = 2) && decide (x.f2.f2 ≥ base)
def lastN (c : Int) (L : List S65) : Nat → Option Nat
 | 0=>none
 | n + 1=>if chk c (L.getD n z65) = true then some n else lastN c L n
theorem lastN_some {c : Int} {L : List S65} : ∀ {n i : Nat},lastN c L n = some i → i < n ∧ chk c (L.getD i z65) = true
 | 0,i,h=>by cases h
 | n + 1,i,h=>by
  rw [lastN] at h
  split at h
  ·rename_i hc;cases h;exact ⟨by omega,hc⟩
  have:=lastN_some h;exact ⟨by omega,this.2⟩
theorem lastM_lastN (c : Int) (L : List S65) : ∀ n,n ≤ L.length → lastM c none (L.take n) = (lastN c L n).map fun i=>L.getD i z65
 | 0,_=>rfl
 | n + 1,h=>by
  rw [take_nextD z65 (by omega),lastM_snoc,lastN,lastM_lastN c L n (by omega)]
  split <;> rfl
def markC (L : List S65) (nd : List Bool) (c : Int) : List Bool:=match lastN c L L.length with
 | some i=>nd.set i true
 | none=>nd
theorem markC_len (L : List S65) (nd : List Bool) (c : Int) : (markC L nd c).length = nd.length:=by
 unfold markC;split <;> simp
def cntB (L : List S65) (nd : List Bool) (b : Int) : Nat → Nat
 | 0=>0
 | n + 1=>cntB L nd b n + (if nd.getD n false = true ∧ (L.getD n z65).f0 = b then 1 else 0)
theorem cntB_le (L : List S65) (nd : List Bool) (b : Int) : ∀ n,cntB L nd b n ≤ n
 | 0=>Nat.le_refl _
 | n + 1=>by rw [cntB];have:=cntB_le L nd b n;split <;> omega
theorem cntB_set {L : List S65} {nd : List Bool} {b : Int} {i : Nat} (hi : i < nd.length) (h : nd.getD i false = false) : ∀ n,cntB L (nd.set i true) b n = cntB L nd b n + (if i < n ∧ (L.getD i z65).f0 = b then 1 else 0)
 | 0=>by simp [cntB]
 | n + 1=>by
  rw [cntB,cntB,cntB_set hi h n]
  by_cases e : n = i
  ·subst e;have g : (nd.set n true).getD n false = true:=by simp [List.getD,hi]
   rw [g,h]
   by_cases hb : (L.getD n z65).f0 = b
   ·rw [if_neg (show ¬ (n < n ∧ _) from fun hh=>absurd hh.1 (by omega)),if_pos ⟨rfl,hb⟩,if_neg (fun hh=>by cases hh.1),if_pos ⟨by omega,hb⟩]
   rw [if_neg (show ¬ (n < n ∧ _) from fun hh=>absurd hh.1 (by omega)),if_neg (fun hh=>hb hh.2),if_neg (fun hh=>by cases hh.1),if_neg (fun hh=>hb hh.2)]
  have g : (nd.set i true).getD n false = nd.getD n false:=by
   rw [List.getD_eq_getElem?_getD,List.getD_eq_getElem?_getD,List.getElem?_set_ne (fun hh=>e hh.symm)]
  rw [g]
  by_cases hb : (L.getD i z65).f0 = b
  ·by_cases hl : i < n
   ·rw [if_pos (show i < n ∧ (L.getD i z65).f0 = b from ⟨hl,hb⟩),if_pos (show i < n + 1 ∧ (L.getD i z65).f0 = b from ⟨by omega,hb⟩)];omega
   rw [if_neg (show ¬ (i < n ∧ (L.getD i z65).f0 = b) from fun hh=>hl hh.1),if_neg (show ¬ (i < n + 1 ∧ (L.getD i z65).f0 = b) from fun hh=>by omega)];omega
  rw [if_neg (show ¬ (i < n ∧ (L.getD i z65).f0 = b) from fun hh=>hb hh.2),if_neg (show ¬ (i < n + 1 ∧ (L.getD i z65).f0 = b) from fun hh=>hb hh.2)];omega
def onB (L : List S65) (b c : Int) : Bool:=match lastM c none L with
 | some x=>decide (x.f0 = b)
 | none=>false
theorem marks_count (L : List S65) (base b : Int) : ∀ (live : List Int) (nd : List Bool),live.Nodup → nd.length = L.length → (∀ i,nd.getD i false = true → metaP base (L.getD i z65) = true ∨ ((L.getD i z65).f2.f0 = 1 ∧ (L.getD i z65).f2.f2 ∉ live)) →
  cntB L (live.foldl (markC L) nd) b L.length = cntB L nd b L.length + (live.filter (onB L b)).length
 | [],nd,_,_,_=>by simp
 | c :: live,nd,hn,hl,hi=>by
  rw [List.nodup_cons] at hn;rw [List.foldl_cons];have hM:=lastM_lastN c L L.length (Nat.le_refl _);rw [List.take_length] at hM;cases hq : lastN c L L.length with
  | none =>
   have e : markC L nd c = nd:=by unfold markC;rw [hq]
   rw [e,marks_count L base b live nd hn.2 hl (fun i h=>(hi i h).imp id (fun hh=>⟨hh.1,fun hm=>hh.2 (List.mem_cons_of_mem _ hm)⟩))];have : onB L b c = false:=by unfold onB;rw [hM,hq];rfl
   rw [List.filter_cons_of_neg (by simp [this])]
  | some i =>
   have e : markC L nd c = nd.set i true:=by unfold markC;rw [hq]
   obtain ⟨hil,hc⟩:=lastN_some hq;have hc2:=chk_iff.1 hc
   have hf : nd.getD i false = false:=by
    cases hb : nd.getD i false with
    | false=>rfl
    | true =>
     rcases hi i hb with h | h
     ·unfold metaP at h;rw [Bool.and_eq_true] at h;have:=of_decide_eq_true h.1;omega
     exact absurd (by rw [hc2.2];simp) h.2
   rw [e,marks_count L base b live (nd.set i true) hn.2 (by simp [hl]) ?_,cntB_set (by omega) hf]
   ·have ho : onB L b c = decide ((L.getD i z65).f0 = b):=by unfold onB;rw [hM,hq];rfl
    by_cases hb : (L.getD i z65).f0 = b
    ·rw [if_pos ⟨hil,hb⟩,List.filter_cons_of_pos (by rw [ho];simpa using hb),List.length_cons];omega
    rw [if_neg (fun hh=>hb hh.2),List.filter_cons_of_neg (by rw [ho];simpa using hb)];omega
   intro j hj
   by_cases hji : j = i
   ·subst hji;exact .inr ⟨hc2.1,by rw [hc2.2];exact hn.1⟩
   have g : (nd.set i true).getD j false = nd.getD j false:=by
    rw [List.getD_eq_getElem?_getD,List.getD_eq_getElem?_getD,List.getElem?_set_ne (fun hh=>hji hh.symm)]
   rw [g] at hj;exact (hi j hj).imp id (fun hh=>⟨hh.1,fun hm=>hh.2 (List.mem_cons_of_mem _ hm)⟩)
def metaN (L : List S65) (base b : Int) : Nat:=(L.filter fun x=>decide (x.f0 = b) && metaP base x).length
theorem cnt_metas (L : List S65) (base b : Int) : ∀ n,n ≤ L.length → cntB L (L.map (metaP base)) b n = metaN (L.take n) base b
 | 0,_=>rfl
 | n + 1,h=>by
  rw [cntB,cnt_metas L base b n (by omega),take_nextD z65 (by omega)];unfold metaN;rw [List.filter_append,List.length_append]
  have g : (L.map (metaP base)).getD n false = metaP base (L.getD n z65):=by
   rw [List.getD_eq_getElem?_getD,List.getD_eq_getElem?_getD,List.getElem?_map,List.getElem?_eq_getElem (by omega)];rfl
  rw [g];generalize L.getD n z65 = x
  congr 1
  by_cases h1 : x.f0 = b
  ·cases h2 : metaP base x <;> simp [h1,h2]
  simp [h1]
theorem needed_eq (L : List S65) (base b : Int) (live : List Int) (hn : live.Nodup) : cntB L (live.foldl (markC L) (L.map (metaP base))) b L.length = metaN L base b + (live.filter (onB L b)).length:=by
 rw [marks_count L base b live _ hn (by simp) (fun i h=>by
  left
  rw [List.getD_eq_getElem?_getD,List.getElem?_map] at h;cases hx : L[i]? with
  | none=>rw [hx] at h;simp at h
  | some x =>
   rw [hx] at h;rw [List.getD_eq_getElem?_getD,hx]
   simpa using h),cnt_metas L base b L.length (Nat.le_refl _),List.take_length]
end Go.Proofs.YtibhkbljjnlpjaaGreat.M2.Mp

namespace Go.Proofs.YtibhkbljjnlpjaaGreat.Pu
set_option linter.unusedVariables false
set_option linter.unusedSimpArgs false
open Go.RowKit Go.Proofs.YtibhkbljjnlpjaaGreat.PK Go.Proofs.YtibhkbljjnlpjaaGreatW.PrintWords
theorem rd_nat (l : List Int) (i : Nat) : rd l (i : Int) = l.getD i 0:=rfl
theorem rdLK_nat (l : List S101) (i : Nat) : rd_T101 l (i : Int) = l.getD i z101:=rfl
theorem rdIK_nat (l : List S111) (i : Nat) : rd_T111 l (i : Int) = l.getD i z111:=rfl
def toK (x : S101) : S111:=⟨x.f0,x.f1⟩
def toA (l : List S101) : List S111:=l.map toK
theorem toIntS_ev (l : List Int) (h : l.length ≤ 35184372088832) : Ev (fun k=>laws_toIntS.f k l) l:=by
 have hn : l.length ≤ 9223372036854775807:=by omega
 have h1:=ev_fill_all (E:=fun _ i=>some (rd l i)) (l:=l) (z:=0) (g:=fun x=>x) (xs:=List.replicate l.length 0) (L:=fun k xs i=>laws_toIntS.l0 k l xs i) hn (fun k xs i=>by
  simp only [laws_toIntS.l0,Option.bind_some]) (fun i _=>by rw [rd_nat];exact Ev.now _) (by simp)
 rw [List.map_id'] at h1;refine ev_ext (fun k=>?_) h1;unfold laws_toIntS.f;rw [if_pos (by omega),if_pos (by simpa using h)];simp
theorem toKnot_ev (b : Bool) (l : List Int) (h : l.length ≤ 35184372088832) : Ev (fun k=>laws_toKnot.f k b l) (b,l):=by
 unfold laws_toKnot.f;exact ev_bind (toIntS_ev l h) (Ev.now _)
theorem toKnotS_ev (l : List S101) (h : l.length ≤ 8796093022208) (hk : ∀ x ∈ l,x.f1.length ≤ 35184372088832) : Ev (fun k=>laws_toKnotS.f k l) (toA l):=by
 have hn : l.length ≤ 9223372036854775807:=by omega
 have h1:=ev_fill_all (E:=fun k i=>(laws_toKnot.f k (rd_T101 l i).f0 (rd_T101 l i).f1).bind fun bt=>some (⟨bt.1,bt.2⟩ : S111)) (l:=l) (z:=z101) (g:=toK) (xs:=List.replicate l.length z111) (L:=fun k xs i=>laws_toKnotS.l0 k l xs i) hn (fun k xs i=>by
  simp only [laws_toKnotS.l0,Option.bind_assoc,Option.bind_some]) (fun i hi=>by
   rw [rdLK_nat];have hm : l.getD i z101 ∈ l:=by rw [List.getD_eq_getElem?_getD,List.getElem?_eq_getElem hi];exact List.getElem_mem hi
   exact ev_bind (toKnot_ev _ _ (hk _ hm)) (Ev.now _)) (by simp)
 refine ev_ext (fun k=>?_) h1;unfold laws_toKnotS.f;rw [if_pos (by omega),if_pos (by simpa using h)];simp
theorem toArena_ev (l : List S101) (h : l.length ≤ 8796093022208) (hk : ∀ x ∈ l,x.f1.length ≤ 35184372088832) : Ev (fun k=>laws_toArena.f k l) (toA l):=by
 unfold laws_toArena.f;exact ev_bind (toKnotS_ev l h hk) (Ev.now _)
theorem eqIntS_ev (l : List Int) (hn : l.length ≤ 9223372036854775807) : Ev (fun k=>laws_eqIntS.f k l l) true:=by
 have h1:=ev_all (n:=l.length) (m:=l.length) (L:=fun k i=>laws_eqIntS.l0 k l l i) (E:=fun _ _=>some true) hn (Nat.le_refl _) (fun k i=>by simp [laws_eqIntS.l0]) (fun i _=>Ev.now _) l.length 0 (by omega);refine ev_ext (fun k=>?_) h1;unfold laws_eqIntS.f;rw [if_pos rfl];rfl
theorem eqKnot_ev (b : Bool) (l : List Int) (hn : l.length ≤ 9223372036854775807) : Ev (fun k=>laws_eqKnot.f k b l b l) true:=by
 unfold laws_eqKnot.f;simp only [bne_self_eq_false,Bool.false_eq_true,if_false];exact ev_bind (eqIntS_ev l hn) (by simp only [if_true];exact Ev.now _)
theorem eqKnotS_ev (l : List S111) (hn : l.length ≤ 9223372036854775807) (hk : ∀ x ∈ l,x.f1.length ≤ 9223372036854775807) : Ev (fun k=>laws_eqKnotS.f k l l) true:=by
 have h1:=ev_all (n:=l.length) (m:=l.length) (L:=fun k i=>laws_eqKnotS.l0 k l l i) (E:=fun k i=>laws_eqKnot.f k (rd_T111 l i).f0 (rd_T111 l i).f1 (rd_T111 l i).f0 (rd_T111 l i).f1) hn (Nat.le_refl _) (fun k i=>by simp only [laws_eqKnotS.l0]) (fun i hi=>by
  rw [rdIK_nat];have hm : l.getD i z111 ∈ l:=by rw [List.getD_eq_getElem?_getD,List.getElem?_eq_getElem hi];exact List.getElem_mem hi
  exact eqKnot_ev _ _ (hk _ hm)) l.length 0 (by omega)
 refine ev_ext (fun k=>?_) h1;unfold laws_eqKnotS.f;rw [if_pos rfl];rfl
theorem eqArena_ev (l : List S111) (hn : l.length ≤ 9223372036854775807) (hk : ∀ x ∈ l,x.f1.length ≤ 9223372036854775807) : Ev (fun k=>laws_eqArena.f k l l) true:=by
 unfold laws_eqArena.f;exact ev_bind (eqKnotS_ev l hn hk) (by simp only [if_true];exact Ev.now _)
theorem szIntS_eq (l : List Int) (a : Int) (h0 : 0 ≤ a) (h1 : a ≤ 1048576) (hn : l.length ≤ 9223372036854775807) : ∃ t,laws_szIntS.f l a = some t ∧ t ≤ a ∧ (0 ≤ t → (l.length : Int) ≤ a):=by
 unfold laws_szIntS.f;rw [w64 (by omega) (by omega)]
 by_cases h : a - (l.length : Int) < 0
 ·exact ⟨-1,by rw [if_pos h],by omega,fun h2=>by omega⟩
 exact ⟨_,by rw [if_neg h],by omega,fun _=>by omega⟩
theorem szKnot_eq (b : Bool) (l : List Int) (a : Int) (h0 : 0 ≤ a) (h1 : a ≤ 1048576) (hn : l.length ≤ 9223372036854775807) : ∃ t,laws_szKnot.f b l a = some t ∧ t ≤ a ∧ (0 ≤ t → (l.length : Int) ≤ a):=by
 obtain ⟨t,ht,hta,hp⟩:=szIntS_eq l a h0 h1 hn;unfold laws_szKnot.f;rw [ht];simp only [Option.bind_some]
 by_cases h : t < 0
 ·exact ⟨-1,by rw [if_pos h],by omega,fun h2=>by omega⟩
 exact ⟨t,by rw [if_neg h],hta,hp⟩
theorem szKnotS_ev (l : List S101) (a : Int) (h0 : 0 ≤ a) (h1 : a ≤ 1048576) (hn : l.length ≤ 9223372036854775807) (hk : ∀ x ∈ l,x.f1.length ≤ 9223372036854775807) :
  ∃ r,Ev (fun k=>laws_szKnotS.f k l a) r ∧ r ≤ a ∧ (0 ≤ r → (l.length : Int) ≤ a ∧ ∀ x ∈ l,(x.f1.length : Int) ≤ 1048576):=by
 by_cases h : a - (l.length : Int) < 0
 ·refine ⟨-1,⟨0,fun k _=>?_⟩,by omega,fun h2=>by omega⟩;show laws_szKnotS.f k l a = _;unfold laws_szKnotS.f;rw [w64 (by omega) (by omega),if_pos h]
 obtain ⟨r,hr,hra,hq⟩:=ev_size (n:=l.length) (L:=fun k a i=>laws_szKnotS.l0 k l a i) (E:=fun _ i a=>laws_szKnot.f (rd_T101 l i).f0 (rd_T101 l i).f1 a) (P:=fun i=>((l.getD i z101).f1.length : Int) ≤ 1048576) hn (fun k a i=>by simp only [laws_szKnotS.l0])
  (fun i a hi h2 h3=>by
   have hm : l.getD i z101 ∈ l:=by rw [List.getD_eq_getElem?_getD,List.getElem?_eq_getElem hi];exact List.getElem_mem hi
   obtain ⟨t,ht,hta,hp⟩:=szKnot_eq (rd_T101 l i).f0 (rd_T101 l i).f1 a h2 h3 (by rw [rdLK_nat];exact hk _ hm)
   exact ⟨t,ev_const ht,hta,fun h4=>by have:=hp h4;rw [rdLK_nat] at this;omega⟩) l.length 0 (a - (l.length : Int)) (by omega) (by omega) (by omega)
 refine ⟨r,ev_ext (fun k=>?_) hr,by omega,fun h2=>⟨by omega,fun x hx=>?_⟩⟩
 ·unfold laws_szKnotS.f;rw [w64 (by omega) (by omega),if_neg h];rfl
 obtain ⟨i,hi,rfl⟩:=List.getElem_of_mem hx;have:=hq h2 i (by omega) hi
 rwa [List.getD_eq_getElem?_getD,List.getElem?_eq_getElem hi] at this
theorem szArena_ev (l : List S101) (a : Int) (h0 : 0 ≤ a) (h1 : a ≤ 1048576) (hn : l.length ≤ 9223372036854775807) (hk : ∀ x ∈ l,x.f1.length ≤ 9223372036854775807) :
  ∃ r,Ev (fun k=>laws_szArena.f k l a) r ∧ r ≤ a ∧ (0 ≤ r → (l.length : Int) ≤ a ∧ ∀ x ∈ l,(x.f1.length : Int) ≤ 1048576):=by
 obtain ⟨r,hr,hra,hq⟩:=szKnotS_ev l a h0 h1 hn hk
 by_cases h : r < 0
 ·exact ⟨-1,by unfold laws_szArena.f;exact ev_bind hr (by simp only [if_pos h];exact Ev.now _),by omega,fun h2=>by omega⟩
 exact ⟨r,by unfold laws_szArena.f;exact ev_bind hr (by simp only [if_neg h];exact Ev.now _),hra,hq⟩
end Go.Proofs.YtibhkbljjnlpjaaGreat.Pu

namespace Go.Proofs.YtibhkbljjnlpjaaGreat.Pu
set_option linter.unusedVariables false
set_option linter.unusedSimpArgs false
open Go.RowKit Go.Proofs.YtibhkbljjnlpjaaGreat.PK Go.Proofs.YtibhkbljjnlpjaaGreatW.PrintWords
theorem in_eq (a l h : Int) : impl_in.f a l h = some (decide (l ≤ a ∧ a ≤ h)):=by
 unfold impl_in.f
 by_cases h1 : a ≥ l
 ·rw [if_pos h1];congr 1;simp;omega
 rw [if_neg h1];congr 1;simp;omega
theorem l01In_eq (a l h : Int) : spec_l01In.f a l h = some (decide (l ≤ a ∧ a ≤ h)):=by
 unfold spec_l01In.f
 by_cases h1 : a ≥ l
 ·rw [if_pos h1];congr 1;simp;omega
 rw [if_neg h1];congr 1;simp;omega
def kidB (l : List S111) (i : Nat) (leaf : Bool) (n : Int) : Bool :=
 if leaf = true then decide (0 ≤ n) else decide (n = -1) || (decide (0 ≤ n ∧ n ≤ (i : Int) - 1) && (l.getD n.toNat z111).f0)
def knotB (l : List S111) (i : Nat) (x : S111) : Bool:=decide (x.f1.length = 4) && x.f1.all (kidB l i x.f0)
def arenaB (l : List S111) : Bool:=(List.range' 0 l.length).all fun i=>knotB l i (l.getD i z111)
theorem sArena_step (k : Nat) (kids : List Int) (i j : Nat) (a : List S111) (leaf : Bool) (hi : i < a.length) (hn : a.length ≤ 9223372036854775807) (hj : j < 4) (hk : kids.length = 4) :
  spec_ArenaOk.l1 (k + 1) i j a leaf kids = if kidB a i leaf (kids.getD j 0) = true then spec_ArenaOk.l1 k i ((j + 1 : Nat) : Int) a leaf kids else some false:=by
 simp only [spec_ArenaOk.l1];rw [if_pos (by omega),if_pos (by omega),if_pos (by omega),wsucc (n:=4) hj (by omega),w64 (x:=(i : Int) - 1) (by omega) (by omega),rd_nat];generalize kids.getD j 0 = n;unfold kidB;cases leaf with
 | true=>by_cases h : n < 0 <;> simp [h] <;> omega
 | false =>
  simp only [Bool.false_eq_true,if_false,l01In_eq,Option.bind_some,decide_eq_true_eq]
  by_cases h1 : n = -1
  ·simp [h1]
  by_cases h2 : 0 ≤ n ∧ n ≤ (i : Int) - 1
  ·rw [if_neg h1,if_pos h2,if_pos h2.1,if_pos (by omega)];simp [h1,h2,rd_T111]
  simp [h1,h2]
theorem iArena_step (k : Nat) (kids : List Int) (i j : Nat) (a : List S111) (leaf : Bool) (hi : i < a.length) (hn : a.length ≤ 9223372036854775807) (hj : j < 4) (hk : kids.length = 4) :
  impl_ArenaOk.l1 (k + 1) i a a.length i kids kids.length j a leaf kids = if kidB a i leaf (kids.getD j 0) = true then impl_ArenaOk.l1 k i a a.length i kids kids.length ((j + 1 : Nat) : Int) a leaf kids else some false:=by
 simp only [impl_ArenaOk.l1];rw [if_pos (by omega),if_pos (by omega),if_pos (by omega),wsucc (n:=4) hj (by omega),w64 (x:=(i : Int) - 1) (by omega) (by omega),rd_nat];generalize kids.getD j 0 = n;unfold kidB;cases leaf with
 | true=>by_cases h : n < 0 <;> simp [h] <;> omega
 | false =>
  simp only [Bool.false_eq_true,if_false,in_eq,Option.bind_some,decide_eq_true_eq]
  by_cases h1 : n = -1
  ·simp [h1]
  by_cases h2 : 0 ≤ n ∧ n ≤ (i : Int) - 1
  ·rw [if_neg h1,if_pos h2,if_pos h2.1,if_pos (by omega)];simp [h1,h2,rd_T111]
  simp [h1,h2]
theorem ev_kids {L : Nat → Int → Option Bool} {g : Nat → Option Bool} {kids : List Int} {T : Int → Bool} {r : Bool} (hk : kids.length = 4)
  (hs : ∀ k j,j < 4 → L (k + 1) ((j : Nat) : Int) = if T (kids.getD j 0) = true then L k ((j + 1 : Nat) : Int) else some false) (he : ∀ k,L (k + 1) 4 = g k) (hr : Ev g r) :
  ∀ (d j : Nat),j + d = 4 → Ev (fun k=>L k (j : Int)) ((kids.drop j).all T && r):=by
 intro d
 induction d with
 | zero =>
  intro j hj;obtain rfl : j = 4:=by omega
  refine Ev.step (f:=g) (fun k=>he k) ?_;rw [List.drop_eq_nil_of_le (by omega)];exact hr
 | succ d ih =>
  intro j hj;have hjl : j < kids.length:=by omega
  rw [List.drop_eq_getElem_cons hjl,List.all_cons];have e : kids.getD j 0 = kids[j]:=by rw [List.getD_eq_getElem?_getD,List.getElem?_eq_getElem hjl];rfl
  by_cases h : T kids[j] = true
  ·rw [h,Bool.true_and];exact Ev.step (f:=fun k=>L k ((j + 1 : Nat) : Int)) (fun k=>by rw [hs k j (by omega),e,if_pos h]) (ih (j + 1) (by omega))
  rw [Bool.eq_false_iff.mpr h,Bool.false_and,Bool.false_and];exact ev_some fun k=>by rw [hs k j (by omega),e,if_neg h]
theorem sArena_ev (a : List S111) (hn : a.length ≤ 9223372036854775807) : Ev (fun k=>spec_ArenaOk.f k a) (arenaB a):=by
 have main : ∀ (d i : Nat),i + d = a.length → Ev (fun k=>spec_ArenaOk.l0 k (i : Int) a) ((List.range' i d).all fun i=>knotB a i (a.getD i z111)):=by
  intro d
  induction d with
  | zero=>intro i hi;exact ev_some fun k=>by simp only [spec_ArenaOk.l0];rw [if_neg (by omega)];rfl
  | succ d ih =>
   intro i hi;rw [List.range'_succ,List.all_cons];unfold knotB
   by_cases h4 : (a.getD i z111).f1.length = 4
   ·rw [decide_eq_true h4,Bool.true_and]
    have h:=ev_kids (L:=fun k j=>spec_ArenaOk.l1 k i j a (a.getD i z111).f0 (a.getD i z111).f1) (T:=kidB a i (a.getD i z111).f0) h4 (fun k j hj=>sArena_step k (a.getD i z111).f1 i j a _ (by omega) hn hj h4)
     (g:=fun k=>spec_ArenaOk.l0 k ((i + 1 : Nat) : Int) a) (fun k=>by simp only [spec_ArenaOk.l1];rw [if_neg (by omega),wsucc (n:=a.length) (by omega) hn]) (ih (i + 1) (by omega)) 4 0 rfl
    refine Ev.step (fun k=>?_) h;simp only [spec_ArenaOk.l0];rw [if_pos (by omega),if_pos (by omega),rdIK_nat,if_pos (by omega)];rfl
   rw [decide_eq_false h4,Bool.false_and,Bool.false_and];refine ev_some fun k=>?_;simp only [spec_ArenaOk.l0];rw [if_pos (by omega),if_pos (by omega),rdIK_nat,if_neg (by omega)]
 exact main a.length 0 (by omega)
theorem iArena_ev (a : List S111) (hn : a.length ≤ 9223372036854775807) : Ev (fun k=>impl_ArenaOk.f k a) (arenaB a):=by
 have main : ∀ (d i : Nat),i + d = a.length → Ev (fun k=>impl_ArenaOk.l0 k a a.length (i : Int) a) ((List.range' i d).all fun i=>knotB a i (a.getD i z111)):=by
  intro d
  induction d with
  | zero=>intro i hi;exact ev_some fun k=>by simp only [impl_ArenaOk.l0];rw [if_neg (by omega)];rfl
  | succ d ih =>
   intro i hi;rw [List.range'_succ,List.all_cons];unfold knotB
   by_cases h4 : (a.getD i z111).f1.length = 4
   ·rw [decide_eq_true h4,Bool.true_and]
    have h:=ev_kids (L:=fun k j=>impl_ArenaOk.l1 k i a a.length i (a.getD i z111).f1 (a.getD i z111).f1.length j a (a.getD i z111).f0 (a.getD i z111).f1) (T:=kidB a i (a.getD i z111).f0) h4 (fun k j hj=>iArena_step k (a.getD i z111).f1 i j a _ (by omega) hn hj h4)
     (g:=fun k=>impl_ArenaOk.l0 k a a.length ((i + 1 : Nat) : Int) a) (fun k=>by simp only [impl_ArenaOk.l1];rw [if_neg (by omega),wsucc (n:=a.length) (by omega) hn]) (ih (i + 1) (by omega)) 4 0 rfl
    refine Ev.step (fun k=>?_) h;simp only [impl_ArenaOk.l0];rw [if_pos (by omega),if_pos (by omega),if_pos (by omega),rdIK_nat,if_pos (by omega)];rfl
   rw [decide_eq_false h4,Bool.false_and,Bool.false_and];refine ev_some fun k=>?_;simp only [impl_ArenaOk.l0];rw [if_pos (by omega),if_pos (by omega),if_pos (by omega),rdIK_nat,if_neg (by omega)]
 exact main a.length 0 (by omega)
end Go.Proofs.YtibhkbljjnlpjaaGreat.Pu

namespace Go.Proofs.YtibhkbljjnlpjaaGreat.Pu
set_option linter.unusedVariables false
set_option linter.unusedSimpArgs false
open Go.RowKit Go.Proofs.YtibhkbljjnlpjaaGreat.PK Go.Proofs.YtibhkbljjnlpjaaGreatW.PrintWords
def rootB (a : List S111) (r : Int) : Bool:=decide (0 ≤ r ∧ r ≤ (a.length : Int) - 1) && !(a.getD r.toNat z111).f0
def numB (a : List S111) (r s : Int) : Int:=if (a.getD r.toNat z111).f1.getD (s / 4).toNat 0 < 0 then 0 else (a.getD ((a.getD r.toNat z111).f1.getD (s / 4).toNat 0).toNat z111).f1.getD (s % 4).toNat 0
def getB (a : List S111) (r s : Int) : Int:=if (0 ≤ s ∧ s ≤ 15) ∧ rootB a r = true ∧ arenaB a = true then numB a r s else 0
theorem knot_of {a : List S111} (h : arenaB a = true) {i : Nat} (hi : i < a.length) : (a.getD i z111).f1.length = 4 ∧ ∀ n ∈ (a.getD i z111).f1,kidB a i (a.getD i z111).f0 n = true:=by
 unfold arenaB at h;rw [List.all_eq_true] at h;have h1:=h i (by simp;omega);unfold knotB at h1;rw [Bool.and_eq_true,decide_eq_true_eq,List.all_eq_true] at h1;exact h1
theorem getD_mem {α : Type} {l : List α} {i : Nat} {z : α} (hi : i < l.length) : l.getD i z ∈ l:=by
 rw [List.getD_eq_getElem?_getD,List.getElem?_eq_getElem hi];exact List.getElem_mem hi
theorem kid_of {a : List S111} (h : arenaB a = true) {r : Nat} (hr : r < a.length) (hf : (a.getD r z111).f0 = false) {j : Nat} (hj : j < 4) :
  (a.getD r z111).f1.getD j 0 = -1 ∨ (0 ≤ (a.getD r z111).f1.getD j 0 ∧ (a.getD r z111).f1.getD j 0 < r ∧ (a.getD ((a.getD r z111).f1.getD j 0).toNat z111).f0 = true):=by
 obtain ⟨h4,hk⟩:=knot_of h hr;have h1:=hk _ (getD_mem (i:=j) (z:=0) (by omega));unfold kidB at h1;rw [hf] at h1;simp only [Bool.false_eq_true,if_false,Bool.or_eq_true,decide_eq_true_eq,Bool.and_eq_true] at h1;rcases h1 with h1 | ⟨h1,h2⟩
 ·exact .inl h1
 exact .inr ⟨h1.1,by omega,h2⟩
theorem iRoot_eq (a : List S111) (r : Int) (hn : a.length ≤ 9223372036854775807) : impl_isRoot.f a r = some (rootB a r):=by
 unfold impl_isRoot.f rootB;rw [w64 (by omega) (by omega),in_eq];simp only [Option.bind_some]
 by_cases h : 0 ≤ r ∧ r ≤ (a.length : Int) - 1
 ·rw [decide_eq_true h,if_pos rfl,if_pos h.1,if_pos (by omega),Bool.true_and];rfl
 rw [decide_eq_false h,if_neg (by decide),Bool.false_and]
theorem sRoot_eq (a : List S111) (r : Int) (hn : a.length ≤ 9223372036854775807) : spec_l11Root.f a r = some (decide (r = -1) || rootB a r):=by
 unfold spec_l11Root.f rootB
 by_cases h0 : r = -1
 ·rw [if_pos h0,decide_eq_true h0,Bool.true_or]
 rw [if_neg h0,decide_eq_false h0,Bool.false_or,w64 (by omega) (by omega),l01In_eq];simp only [Option.bind_some]
 by_cases h : 0 ≤ r ∧ r ≤ (a.length : Int) - 1
 ·rw [decide_eq_true h,if_pos rfl,if_pos h.1,if_pos (by omega),Bool.true_and];rfl
 rw [decide_eq_false h,if_neg (by decide),Bool.false_and]
theorem div4 {s : Int} (h0 : 0 ≤ s) (h1 : s ≤ 15) : wrap64 (Int.tdiv s 4) = s / 4 ∧ Int.tmod s 4 = s % 4 ∧ 0 ≤ s / 4 ∧ s / 4 < 4 ∧ 0 ≤ s % 4 ∧ s % 4 < 4:=by
 rw [Int.tdiv_eq_ediv_of_nonneg h0,Int.tmod_eq_emod_of_nonneg h0,w64 (by omega) (by omega)];omega
theorem root_lt {a : List S111} {r : Int} (h : rootB a r = true) : 0 ≤ r ∧ r.toNat < a.length ∧ (a.getD r.toNat z111).f0 = false:=by
 unfold rootB at h;rw [Bool.and_eq_true,decide_eq_true_eq,Bool.not_eq_true'] at h;exact ⟨h.1.1,by omega,h.2⟩
theorem num_eq (a : List S111) (r s : Int) (ha : arenaB a = true) (hr : rootB a r = true) (h0 : 0 ≤ s) (h1 : s ≤ 15) : (if 0 ≤ r then if r < (a.length : Int) then if 0 ≤ s / 4 then if s / 4 < (((a.getD r.toNat z111).f1.length : Nat) : Int) then if (a.getD r.toNat z111).f1.getD (s / 4).toNat 0 < 0 then some 0 else if 0 ≤ (a.getD r.toNat z111).f1.getD (s / 4).toNat 0 then if (a.getD r.toNat z111).f1.getD (s / 4).toNat 0 < (a.length : Int) then if 0 ≤ s % 4 then if s % 4 < (((a.getD ((a.getD r.toNat z111).f1.getD (s / 4).toNat 0).toNat z111).f1.length : Nat) : Int) then some ((a.getD ((a.getD r.toNat z111).f1.getD (s / 4).toNat 0).toNat z111).f1.getD (s % 4).toNat 0) else none else none else none else none else none else none else none else none) = some (numB a r s):=by
 obtain ⟨r0,rl,rf⟩:=root_lt hr;obtain ⟨d1,d2,d3,d4,d5,d6⟩:=div4 h0 h1;have h4:=(knot_of ha rl).1;have hk:=kid_of ha rl rf (j:=(s / 4).toNat) (by omega);unfold numB;rw [if_pos r0,if_pos (by omega),if_pos d3,if_pos (by omega)];rcases hk with hk | ⟨k0,k1,_⟩
 ·rw [if_pos (by omega),if_pos (by omega)]
 have h5:=(knot_of ha (i:=((a.getD r.toNat z111).f1.getD (s / 4).toNat 0).toNat) (by omega)).1;rw [if_neg (by omega),if_pos k0,if_pos (by omega),if_pos d5,if_pos (by omega),if_neg (by omega)]
theorem iNumber_eq (a : List S111) (r s : Int) (ha : arenaB a = true) (hr : rootB a r = true) (h0 : 0 ≤ s) (h1 : s ≤ 15) : impl_numberAt.f a r s = some (numB a r s):=by
 obtain ⟨d1,d2,_⟩:=div4 h0 h1;unfold impl_numberAt.f;simp only [d1,d2];exact num_eq a r s ha hr h0 h1
theorem sGet_eq (a : List S111) (r s : Int) (ha : arenaB a = true) (hr : rootB a r = true) (h0 : 0 ≤ s) (h1 : s ≤ 15) : spec_l11Get.f a r s = some (numB a r s):=by
 obtain ⟨r0,rl,rf⟩:=root_lt hr;obtain ⟨d1,d2,_⟩:=div4 h0 h1;unfold spec_l11Get.f;simp only [d1,d2];rw [if_neg (by omega)];exact num_eq a r s ha hr h0 h1
theorem iGetAt_ev (a : List S111) (r s : Int) (hn : a.length ≤ 9223372036854775807) : Ev (fun k=>impl_GetAt.f k a r s) (getB a r s):=by
 unfold impl_GetAt.f getB;simp only [in_eq,iRoot_eq a r hn,Option.bind_some,decide_eq_true_eq]
 by_cases h1 : 0 ≤ s ∧ s ≤ 15
 ·by_cases h2 : rootB a r = true
  ·simp only [if_pos h1,if_pos h2];refine ev_bind (iArena_ev a hn) ?_
   by_cases h3 : arenaB a = true
   ·simp only [if_pos h3,if_pos (show (0 ≤ s ∧ s ≤ 15) ∧ rootB a r = true ∧ arenaB a = true from ⟨h1,h2,h3⟩)];rw [iNumber_eq a r s h3 h2 h1.1 h1.2];exact Ev.now _
   simp only [if_neg h3,if_neg (show ¬ ((0 ≤ s ∧ s ≤ 15) ∧ rootB a r = true ∧ arenaB a = true) from fun h=>h3 h.2.2)];exact Ev.now _
  simp only [if_pos h1,if_neg h2,if_neg (show ¬ ((0 ≤ s ∧ s ≤ 15) ∧ rootB a r = true ∧ arenaB a = true) from fun h=>h2 h.2.1)];exact Ev.now _
 simp only [if_neg h1,if_neg (show ¬ ((0 ≤ s ∧ s ≤ 15) ∧ rootB a r = true ∧ arenaB a = true) from fun h=>h1 h.1)];exact Ev.now _
theorem sGetAt_ev (a : List S111) (r s : Int) (hn : a.length ≤ 9223372036854775807) : Ev (fun k=>spec_GetAt.f k a r s) (getB a r s):=by
 unfold spec_GetAt.f getB;refine ev_bind (sArena_ev a hn) ?_
 by_cases h3 : arenaB a = true
 ·simp only [if_pos h3,l01In_eq,sRoot_eq a r hn,Option.bind_some]
  by_cases h2 : rootB a r = true
  ·simp only [h2,Bool.or_true,if_true]
   by_cases h1 : 0 ≤ s ∧ s ≤ 15
   ·simp only [decide_eq_true h1,if_true,if_pos (show (0 ≤ s ∧ s ≤ 15) ∧ True ∧ arenaB a = true from ⟨h1,trivial,h3⟩)];rw [sGet_eq a r s h3 h2 h1.1 h1.2];exact Ev.now _
   simp only [decide_eq_false h1,Bool.false_eq_true,if_false,if_neg (show ¬ ((0 ≤ s ∧ s ≤ 15) ∧ True ∧ arenaB a = true) from fun h=>h1 h.1)];exact Ev.now _
  have e : getB a r s = 0:=by unfold getB;exact if_neg fun h=>h2 h.2.1
  unfold getB at e;rw [e]
  by_cases h0 : r = -1
  ·simp only [decide_eq_true h0,Bool.true_or,if_true]
   by_cases h1 : 0 ≤ s ∧ s ≤ 15
   ·simp only [decide_eq_true h1,if_true];unfold spec_l11Get.f;simp only [if_pos (show r < 0 by omega),Option.bind_some];exact Ev.now _
   simp only [decide_eq_false h1,Bool.false_eq_true,if_false];exact Ev.now _
  simp only [decide_eq_false h0,Bool.eq_false_iff.mpr h2,Bool.or_self,Bool.false_eq_true,if_false];exact Ev.now _
 simp only [if_neg h3,if_neg (show ¬ ((0 ≤ s ∧ s ≤ 15) ∧ rootB a r = true ∧ arenaB a = true) from fun h=>h3 h.2.2)];exact Ev.now _
end Go.Proofs.YtibhkbljjnlpjaaGreat.Pu

namespace Go.Proofs.YtibhkbljjnlpjaaGreat.Pu
set_option linter.unusedVariables false
set_option linter.unusedSimpArgs false
open Go.RowKit Go.Proofs.YtibhkbljjnlpjaaGreat.PK Go.Proofs.YtibhkbljjnlpjaaGreatW.PrintWords
theorem rdLV_nat (l : List S87) (i : Nat) : rd_T87 l (i : Int) = l.getD i z87:=rfl
theorem rdIV_nat (l : List S83) (i : Nat) : rd_T83 l (i : Int) = l.getD i z83:=rfl
def toVl (x : S87) : S83:=⟨x.f0,x.f1⟩
theorem toVolS_ev (l : List S87) (h : l.length ≤ 1048576) : Ev (fun k=>laws_toVolS.f k l) (l.map toVl):=by
 have h1:=ev_fill_all (E:=fun _ i=>(laws_toVol.f (rd_T87 l i).f0 (rd_T87 l i).f1).bind fun bt=>some (⟨bt.1,bt.2⟩ : S83)) (l:=l) (z:=z87) (g:=toVl) (xs:=List.replicate l.length z83) (L:=fun k xs i=>laws_toVolS.l0 k l xs i) (by omega) (fun k xs i=>by
  simp only [laws_toVolS.l0,Option.bind_assoc,Option.bind_some]) (fun i hi=>by rw [rdLV_nat];exact Ev.now _) (by simp)
 refine ev_ext (fun k=>?_) h1;unfold laws_toVolS.f;rw [if_pos (by omega),if_pos (by simp;omega)];simp
theorem toStore_ev (v : List S87) (a : List S101) (n : Int) (hv : v.length ≤ 1048576) (h : a.length ≤ 1048576) (hk : ∀ x ∈ a,x.f1.length ≤ 1048576) : Ev (fun k=>laws_toStore.f k v a n) (v.map toVl,toA a,n):=by
 unfold laws_toStore.f;exact ev_bind (toVolS_ev v hv) (ev_bind (toArena_ev a (by omega) (fun x hx=>by have:=hk x hx;omega)) (Ev.now _))
theorem eqVolS_ev (l : List S83) (hn : l.length ≤ 1048576) : Ev (fun k=>laws_eqVolS.f k l l) true:=by
 have h1:=ev_all (n:=l.length) (m:=l.length) (L:=fun k i=>laws_eqVolS.l0 k l l i) (E:=fun _ i=>laws_eqVol.f (rd_T83 l i).f0 (rd_T83 l i).f1 (rd_T83 l i).f0 (rd_T83 l i).f1) (by omega) (Nat.le_refl _) (fun k i=>by simp only [laws_eqVolS.l0])
  (fun i _=>ev_const (by simp [laws_eqVol.f])) l.length 0 (by omega)
 refine ev_ext (fun k=>?_) h1;unfold laws_eqVolS.f;rw [if_pos rfl];rfl
theorem eqStore_ev (v : List S83) (a : List S111) (n : Int) (hv : v.length ≤ 1048576) (hn : a.length ≤ 9223372036854775807) (hk : ∀ x ∈ a,x.f1.length ≤ 9223372036854775807) : Ev (fun k=>laws_eqStore.f k v a n v a n) true:=by
 unfold laws_eqStore.f;refine ev_bind (eqVolS_ev v hv) ?_;simp only [if_true];refine ev_bind (eqArena_ev a hn hk) ?_;simp only [if_true];exact Ev.now _
theorem szStore_ev (v : List S87) (l : List S101) (n a : Int) (h0 : 0 ≤ a) (h1 : a ≤ 1048576) (hv : v.length ≤ 9223372036854775807) (hn : l.length ≤ 9223372036854775807) (hk : ∀ x ∈ l,x.f1.length ≤ 9223372036854775807) :
  ∃ r,Ev (fun k=>laws_szStore.f k v l n a) r ∧ r ≤ a ∧ (0 ≤ r → v.length ≤ 1048576 ∧ l.length ≤ 1048576 ∧ ∀ x ∈ l,x.f1.length ≤ 1048576):=by
 unfold laws_szStore.f laws_szVolS.f;rw [w64 (by omega) (by omega)]
 by_cases h : a - (v.length : Int) < 0
 ·exact ⟨-1,by simp only [if_pos h,Option.bind_some,if_pos (show (-1 : Int) < 0 by omega)];exact Ev.now _,by omega,fun h2=>by omega⟩
 simp only [if_neg h,Option.bind_some];obtain ⟨r,hr,hra,hq⟩:=szArena_ev l (a - (v.length : Int)) (by omega) (by omega) hn hk
 by_cases h2 : r < 0
 ·exact ⟨-1,ev_bind hr (by simp only [if_pos h2];exact Ev.now _),by omega,fun h3=>by omega⟩
 refine ⟨r,ev_bind hr (by simp only [if_neg h2];exact Ev.now _),by omega,fun h3=>?_⟩;obtain ⟨a1,a2⟩:=hq h3;exact ⟨by omega,by omega,fun x hx=>by have:=a2 x hx;omega⟩
theorem store_start {v : List S87} {l : List S101} {n a : Int} (h0 : 0 ≤ a) (h1 : a ≤ 1048576) (hv : v.length ≤ maxLen) (hl : l.length ≤ maxLen) (hx : ∀ x ∈ l,x.f1.length ≤ maxLen) :
  ∃ r,Ev (fun k=>laws_szStore.f k v l n a) r ∧ r ≤ a ∧ (0 ≤ r → Ev (fun k=>laws_toStore.f k v l n) (v.map toVl,toA l,n) ∧ Ev (fun k=>laws_eqStore.f k (v.map toVl) (toA l) n (v.map toVl) (toA l) n) true ∧ (v.map toVl).length ≤ 1048576 ∧ (toA l).length ≤ 1048576 ∧ ∀ x ∈ toA l,x.f1.length ≤ 1048576):=by
 unfold maxLen at hv hl hx;obtain ⟨r,hr,hra,hq⟩:=szStore_ev v l n a h0 h1 (by omega) (by omega) (fun x h=>by have:=hx x h;omega);refine ⟨r,hr,hra,fun h2=>?_⟩;obtain ⟨a1,a2,a3⟩:=hq h2;have hlen : (toA l).length = l.length:=by unfold toA;exact List.length_map _
 have hlv : (v.map toVl).length = v.length:=List.length_map _
 have hm : ∀ x ∈ toA l,x.f1.length ≤ 1048576:=by
  intro x h;unfold toA at h;obtain ⟨y,hy,rfl⟩:=List.mem_map.1 h;exact a3 y hy
 exact ⟨toStore_ev v l n a1 a2 a3,eqStore_ev _ _ n (by omega) (by omega) (fun x h=>by have:=hm x h;omega),by omega,by omega,hm⟩
end Go.Proofs.YtibhkbljjnlpjaaGreat.Pu

namespace Go.Proofs.YtibhkbljjnlpjaaGreat.Pu
set_option linter.unusedVariables false
set_option linter.unusedSimpArgs false
open Go.RowKit Go.Proofs.YtibhkbljjnlpjaaGreat.PK Go.Proofs.YtibhkbljjnlpjaaGreatW.PrintWords
def allB (a : List S111) (r : Int) : List Int:=(List.range' 0 16).map fun (i : Nat)=>getB a r (i : Int)
theorem allB_len (a : List S111) (r : Int) : (allB a r).length = 16:=by simp [allB]
theorem iAllAt_ev (a : List S111) (r : Int) (hn : a.length ≤ 9223372036854775807) : Ev (fun k=>impl_AllAt.f k a r) (allB a r):=by
 have main : ∀ (d i : Nat) (acc : List Int),i + d = 16 → acc.length = i → Ev (fun k=>impl_AllAt.l0 k r acc (i : Int) a) (acc ++ (List.range' i d).map fun (i : Nat)=>getB a r (i : Int)):=by
  intro d
  induction d with
  | zero=>intro i acc hi hl;exact ev_some fun k=>by simp only [impl_AllAt.l0];rw [if_neg (by omega)];simp
  | succ d ih =>
   intro i acc hi hl;have h:=ih (i + 1) (acc ++ [getB a r (i : Int)]) (by omega) (by simp;omega);rw [List.append_assoc,List.singleton_append] at h;rw [List.range'_succ,List.map_cons];refine Ev.step (f:=fun k=>(impl_GetAt.f k a r (i : Int)).bind fun t=>impl_AllAt.l0 k r (acc ++ [t]) ((i + 1 : Nat) : Int) a) (fun k=>?_) (ev_bind (iGetAt_ev a r i hn) h);simp only [impl_AllAt.l0];rw [if_pos (by omega),wsucc (n:=16) (by omega) (by omega)];simp only [if_pos (show acc.length < 17592186044416 by omega)]
 exact main 16 0 [] rfl rfl
theorem sAllAt_ev (a : List S111) (r : Int) (hn : a.length ≤ 9223372036854775807) : Ev (fun k=>spec_AllAt.f k a r) (allB a r):=by
 have main : ∀ (d i : Nat) (acc : List Int),i + d = 16 → acc.length = i → Ev (fun k=>spec_AllAt.l0 k r acc (i : Int) a) (acc ++ (List.range' i d).map fun (i : Nat)=>getB a r (i : Int)):=by
  intro d
  induction d with
  | zero=>intro i acc hi hl;exact ev_some fun k=>by simp only [spec_AllAt.l0];rw [if_neg (by omega)];simp
  | succ d ih =>
   intro i acc hi hl;have h:=ih (i + 1) (acc ++ [getB a r (i : Int)]) (by omega) (by simp;omega);rw [List.append_assoc,List.singleton_append] at h;rw [List.range'_succ,List.map_cons];refine Ev.step (f:=fun k=>(spec_GetAt.f k a r (i : Int)).bind fun t=>spec_AllAt.l0 k r (acc ++ [t]) ((i + 1 : Nat) : Int) a) (fun k=>?_) (ev_bind (sGetAt_ev a r i hn) h);simp only [spec_AllAt.l0];rw [if_pos (by omega),wsucc (n:=16) (by omega) (by omega)];simp only [if_pos (show acc.length < 17592186044416 by omega)]
 exact main 16 0 [] rfl rfl
theorem drop_get {α : Type} {l : List α} {i : Nat} (z : α) (h : i < l.length) : l.drop i = l.getD i z :: l.drop (i + 1):=by
 rw [List.drop_eq_getElem_cons h,List.getD_eq_getElem?_getD,List.getElem?_eq_getElem h];rfl
end Go.Proofs.YtibhkbljjnlpjaaGreat.Pu

namespace Go.Proofs.YtibhkbljjnlpjaaGreat.Pu
set_option linter.unusedVariables false
set_option linter.unusedSimpArgs false
open Go.RowKit Go.Proofs.YtibhkbljjnlpjaaGreat.PK Go.Proofs.YtibhkbljjnlpjaaGreatW.PrintWords
def cnt (c : Int) (l : List Int) : Nat:=(l.filter fun x=>decide (x = c)).length
def posL (l : List Int) : List Int:=l.filter fun x=>decide (x > 0)
def chunksB (v : List S83) (a : List S111) : List Int:=v.flatMap fun x=>posL (allB a x.f1)
def refsB (v : List S83) (a : List S111) (c : Int) : Nat:=cnt c (chunksB v a)
theorem posL_len (l : List Int) : (posL l).length ≤ l.length:=List.length_filter_le _ _
theorem iChunks_ev (v : List S83) (a : List S111) (n : Int) (hv : v.length ≤ 1048576) (ha : a.length ≤ 9223372036854775807) : Ev (fun k=>impl_chunksOf.f k v a n) (chunksB v a):=by
 have main : ∀ (d i : Nat) (acc : List Int),i + d = v.length → acc.length ≤ 16 * i → Ev (fun k=>impl_chunksOf.l0 k acc v (v.length : Int) (i : Int) v a n) (acc ++ chunksB (v.drop i) a):=by
  intro d
  induction d with
  | zero =>
   intro i acc hi hl;refine ev_some fun k=>?_;simp only [impl_chunksOf.l0];rw [if_neg (by omega),List.drop_eq_nil_of_le (by omega)];simp [chunksB]
  | succ d ih =>
   intro i acc hi hl;have hil : i < v.length:=by omega
   have inner : ∀ (e j : Nat) (ac : List Int),j + e = 16 → ac.length ≤ 16 * i + j → ac ++ posL ((allB a (v.getD i z83).f1).drop j) = acc ++ posL (allB a (v.getD i z83).f1) → Ev (fun k=>impl_chunksOf.l1 k ac v (v.length : Int) (i : Int) (allB a (v.getD i z83).f1) 16 (j : Int) v a n) (acc ++ chunksB (v.drop i) a):=by
    intro e
    induction e with
    | zero =>
     intro j ac hj hac he;rw [List.drop_eq_nil_of_le (by rw [allB_len];omega)] at he;have h:=ih (i + 1) ac (by omega) (by omega);rw [show ac = acc ++ posL (allB a (v.getD i z83).f1) by simpa [posL] using he,List.append_assoc] at h;rw [drop_get z83 hil];refine Ev.step (fun k=>?_) h;simp only [impl_chunksOf.l1];rw [if_neg (by omega),wsucc (n:=v.length) hil (by omega),show ac = acc ++ posL (allB a (v.getD i z83).f1) by simpa [posL] using he]
    | succ e ihe =>
     intro j ac hj hac he;have hj2 : j < (allB a (v.getD i z83).f1).length:=by rw [allB_len];omega
     rw [drop_get 0 hj2] at he
     have st : ∀ k,impl_chunksOf.l1 (k + 1) ac v (v.length : Int) (i : Int) (allB a (v.getD i z83).f1) 16 (j : Int) v a n = impl_chunksOf.l1 k (if (allB a (v.getD i z83).f1).getD j 0 > 0 then ac ++ [(allB a (v.getD i z83).f1).getD j 0] else ac) v (v.length : Int) (i : Int) (allB a (v.getD i z83).f1) 16 ((j + 1 : Nat) : Int) v a n:=fun k=>by
      simp only [impl_chunksOf.l1];rw [if_pos (by omega),if_pos (by omega),if_pos (by omega),rd_nat,wsucc (n:=16) (by omega) (by omega)]
      by_cases h : (allB a (v.getD i z83).f1).getD j 0 > 0
      ·rw [if_pos h,if_pos h,if_pos (by omega)]
      rw [if_neg h,if_neg h]
     refine Ev.step st ?_
     by_cases h : (allB a (v.getD i z83).f1).getD j 0 > 0
     ·rw [if_pos h];refine ihe (j + 1) _ (by omega) (by simp;omega) ?_;rw [← he];show _ = ac ++ List.filter _ (_ :: _);rw [List.filter_cons,if_pos (decide_eq_true h),List.append_assoc];rfl
     rw [if_neg h];refine ihe (j + 1) _ (by omega) (by omega) ?_;rw [← he];show _ = ac ++ List.filter _ (_ :: _);rw [List.filter_cons,if_neg (by simpa using h)];rfl
   refine Ev.step (f:=fun k=>(impl_AllAt.f k a (v.getD i z83).f1).bind fun t=>impl_chunksOf.l1 k acc v (v.length : Int) (i : Int) t (t.length : Int) 0 v a n) (fun k=>?_) (ev_bind (iAllAt_ev a _ ha) ?_)
   ·simp only [impl_chunksOf.l0];rw [if_pos (by omega),if_pos (by omega),if_pos (by omega),rdIV_nat]
   have h:=inner 16 0 acc rfl (by omega) (by rw [List.drop_zero]);simp only [allB_len];exact h
 have h:=main v.length 0 [] (by omega) (by simp);rw [List.nil_append,List.drop_zero] at h;exact h
theorem chunksB_len (a : List S111) : ∀ v : List S83,(chunksB v a).length ≤ 16 * v.length
 | []=>by simp [chunksB]
 | x :: v=>by
  have ih:=chunksB_len a v;have h:=posL_len (allB a x.f1);rw [allB_len] at h;unfold chunksB at *;rw [List.flatMap_cons,List.length_append,List.length_cons];omega
end Go.Proofs.YtibhkbljjnlpjaaGreat.Pu

namespace Go.Proofs.YtibhkbljjnlpjaaGreat.Pu
set_option linter.unusedVariables false
set_option linter.unusedSimpArgs false
open Go.RowKit Go.Proofs.YtibhkbljjnlpjaaGreat.PK Go.Proofs.YtibhkbljjnlpjaaGreatW.PrintWords
def sortB (l : List Int) : List Int:=l.mergeSort fun x y=>decide (x ≤ y)
def insB (s : List Int) (x : Int) : List Int:=(s.filter fun y=>decide (y < x)) ++ [x] ++ s.filter fun y=>decide (y > x)
def Asc (l : List Int) : Prop:=l.Pairwise (· < ·)
theorem ins_asc {s : List Int} (x : Int) (h : Asc s) : Asc (insB s x):=by
 unfold Asc insB;rw [List.append_assoc,List.pairwise_append];refine ⟨List.Pairwise.filter _ h,?_,?_⟩
 ·rw [List.singleton_append,List.pairwise_cons];exact ⟨fun y hy=>by have:=(List.mem_filter.1 hy).2;simpa using this,List.Pairwise.filter _ h⟩
 intro a ha b hb;have h1 : a < x:=by have:=(List.mem_filter.1 ha).2;simpa using this
 rcases List.mem_cons.1 hb with rfl | hb
 ·exact h1
 have h2 : b > x:=by have:=(List.mem_filter.1 hb).2;simpa using this
 omega
theorem ins_mem {s : List Int} {x y : Int} : y ∈ insB s x ↔ y ∈ s ∨ y = x:=by
 unfold insB;simp only [List.mem_append,List.mem_filter,List.mem_singleton,decide_eq_true_eq];constructor
 ·rintro ((⟨h,_⟩ | h) | ⟨h,_⟩)
  ·exact .inl h
  ·exact .inr h
  exact .inl h
 rintro (h | h)
 ·rcases Int.lt_trichotomy y x with h2 | h2 | h2
  ·exact .inl (.inl ⟨h,h2⟩)
  ·exact .inl (.inr h2)
  exact .inr ⟨h,h2⟩
 exact .inl (.inr h)
theorem asc_len : ∀ {s : List Int} {m : List Int},Asc s → (∀ y ∈ s,y ∈ m) → s.length ≤ m.length
 | [],_,_,_=>Nat.zero_le _
 | x :: s,m,h,hm=>by
  obtain ⟨h1,h2⟩:=List.pairwise_cons.1 h;have hx:=hm x List.mem_cons_self;have:=asc_len (s:=s) (m:=m.erase x) h2 fun y hy=>(List.mem_erase_of_ne (by have:=h1 y hy;omega)).2 (hm y (List.mem_cons_of_mem _ hy));rw [List.length_erase_of_mem hx] at this;have hp:=List.length_pos_of_mem hx;simp only [List.length_cons];omega
theorem asc_eq : ∀ {s t : List Int},Asc s → Asc t → (∀ y,y ∈ s ↔ y ∈ t) → s = t
 | [],[],_,_,_=>rfl
 | [],y :: t,_,_,h=>by have:=(h y).2 List.mem_cons_self;cases this
 | x :: s,[],_,_,h=>by have:=(h x).1 List.mem_cons_self;cases this
 | x :: s,y :: t,hs,ht,h=>by
  obtain ⟨s1,s2⟩:=List.pairwise_cons.1 hs;obtain ⟨t1,t2⟩:=List.pairwise_cons.1 ht
  have e : x = y:=by
   have h1:=(h x).1 List.mem_cons_self;have h2:=(h y).2 List.mem_cons_self;rcases List.mem_cons.1 h1 with h1 | h1
   ·exact h1
   rcases List.mem_cons.1 h2 with h2 | h2
   ·exact h2.symm
   have:=t1 x h1;have:=s1 y h2;omega
  subst e
  rw [asc_eq s2 t2 fun z=>by
   constructor
   ·intro hz;rcases List.mem_cons.1 ((h z).1 (List.mem_cons_of_mem _ hz)) with rfl | h3
    ·have:=s1 z hz;omega
    exact h3
   intro hz;rcases List.mem_cons.1 ((h z).2 (List.mem_cons_of_mem _ hz)) with rfl | h3
   ·have:=t1 z hz;omega
   exact h3]
end Go.Proofs.YtibhkbljjnlpjaaGreat.Pu

namespace Go.Proofs.YtibhkbljjnlpjaaGreat.Pu
set_option linter.unusedVariables false
set_option linter.unusedSimpArgs false
open Go.RowKit Go.Proofs.YtibhkbljjnlpjaaGreat.PK Go.Proofs.YtibhkbljjnlpjaaGreatW.PrintWords
def dedA : Int → List Int → List Int
 | _,[]=>[]
 | p,x :: l=>if p = x then dedA x l else x :: dedA x l
def dedB : List Int → List Int
 | []=>[]
 | x :: l=>x :: dedA x l
theorem ded_mem : ∀ (l : List Int) (p y : Int),y ∈ p :: dedA p l ↔ y ∈ p :: l
 | [],p,y=>Iff.rfl
 | x :: l,p,y=>by
  have ih:=ded_mem l x y;unfold dedA
  by_cases h : p = x
  ·subst h;rw [if_pos rfl,ih];constructor
   ·exact fun h=>List.mem_cons_of_mem _ h
   intro h;rcases List.mem_cons.1 h with rfl | h
   ·exact List.mem_cons_self
   exact h
  rw [if_neg h,List.mem_cons,ih,List.mem_cons (a:=y) (b:=p)]
theorem ded_asc : ∀ (l : List Int) (p : Int),(p :: l).Pairwise (fun a b=>a ≤ b) → Asc (p :: dedA p l)
 | [],p,_=>List.pairwise_singleton _ _
 | x :: l,p,h=>by
  obtain ⟨h1,h2⟩:=List.pairwise_cons.1 h;have ih:=ded_asc l x h2;unfold dedA
  by_cases hx : p = x
  ·subst hx;rw [if_pos rfl];exact ih
  rw [if_neg hx];refine List.pairwise_cons.2 ⟨fun y hy=>?_,ih⟩;have h3:=h1 x List.mem_cons_self;rcases List.mem_cons.1 hy with rfl | hy
  ·omega
  have:=(List.pairwise_cons.1 ih).1 y hy;omega
theorem dedB_mem (l : List Int) (y : Int) : y ∈ dedB l ↔ y ∈ l:=by
 cases l with
 | nil=>exact Iff.rfl
 | cons x l=>exact ded_mem l x y
theorem dedB_asc (l : List Int) : Asc (dedB (sortB l)):=by
 have hs : (sortB l).Pairwise fun a b=>a ≤ b:=(List.pairwise_mergeSort (le:=fun x y : Int=>decide (x ≤ y)) (fun a b c h1 h2=>by simp at *;omega) (fun a b=>by simp;omega) l).imp fun h=>of_decide_eq_true h;cases h : sortB l with
 | nil=>exact List.Pairwise.nil
 | cons x m=>rw [h] at hs;exact ded_asc m x hs
theorem sortB_mem (l : List Int) (y : Int) : y ∈ sortB l ↔ y ∈ l:=(List.mergeSort_perm l _).mem_iff
theorem sortB_len (l : List Int) : (sortB l).length = l.length:=List.length_mergeSort l
def liveB (v : List S83) (a : List S111) : List Int:=dedB (sortB (chunksB v a))
theorem live_mem (v : List S83) (a : List S111) (y : Int) : y ∈ liveB v a ↔ y ∈ chunksB v a:=by unfold liveB;rw [dedB_mem,sortB_mem]
theorem live_asc (v : List S83) (a : List S111) : Asc (liveB v a):=dedB_asc _
theorem live_len (v : List S83) (a : List S111) : (liveB v a).length ≤ 16 * v.length:=by
 have h1:=asc_len (live_asc v a) (m:=chunksB v a) (fun y h=>(live_mem v a y).1 h);have h2:=chunksB_len a v;omega
theorem iLive_ev (v : List S83) (a : List S111) (n : Int) (hv : v.length ≤ 1048576) (ha : a.length ≤ 9223372036854775807) : Ev (fun k=>impl_LiveOf.f k v a n) (liveB v a):=by
 have hl:=chunksB_len a v;unfold impl_LiveOf.f liveB;refine ev_bind (iChunks_ev v a n hv ha) (ev_bind (g:=fun k=>sort_Ints.f k (chunksB v a)) (a:=sortB (chunksB v a)) (ev_const (if_pos (by omega))) ?_);have hs:=sortB_len (chunksB v a);rw [← hs];generalize sortB (chunksB v a) = s at hs ⊢
 have main : ∀ (d i : Nat) (acc : List Int),i + 1 + d = s.length → acc.length ≤ i + 1 → Ev (fun k=>impl_LiveOf.l0 k s acc s (s.length : Int) ((i + 1 : Nat) : Int)) (acc ++ dedA (s.getD i 0) (s.drop (i + 1))):=by
  intro d
  induction d with
  | zero =>
   intro i acc hi hc;refine ev_some fun k=>?_;simp only [impl_LiveOf.l0];rw [if_neg (by omega),List.drop_eq_nil_of_le (by omega)];simp [dedA]
  | succ d ih =>
   intro i acc hi hc;have hil : i + 1 < s.length:=by omega
   rw [drop_get 0 hil];unfold dedA;have w1 : wrap64 (((i + 1 : Nat) : Int) - 1) = (i : Int):=by rw [show ((i + 1 : Nat) : Int) - 1 = (i : Int) by omega];exact w64 (by omega) (by omega)
   by_cases h : s.getD i 0 = s.getD (i + 1) 0
   ·rw [if_pos h];have:=ih (i + 1) acc (by omega) (by omega);refine Ev.step (fun k=>?_) this;simp only [impl_LiveOf.l0];rw [if_pos (by omega),if_pos (by omega),if_pos (by omega),if_neg (by omega),w1,if_pos (by omega),if_pos (by omega),rd_nat,rd_nat,if_pos h,wsucc (n:=s.length) hil (by omega)]
   rw [if_neg h];have:=ih (i + 1) (acc ++ [s.getD (i + 1) 0]) (by omega) (by simp;omega);rw [List.append_assoc] at this;refine Ev.step (fun k=>?_) this;simp only [impl_LiveOf.l0];rw [if_pos (by omega),if_pos (by omega),if_pos (by omega),if_neg (by omega),w1,if_pos (by omega),if_pos (by omega),rd_nat,rd_nat,if_neg h,if_pos (by omega),wsucc (n:=s.length) hil (by omega)]
 cases hm : s with
 | nil=>exact ev_some fun k=>by simp only [impl_LiveOf.l0];rw [if_neg (by simp)];rfl
 | cons x m =>
  have h:=main m.length 0 [x] (by rw [hm];simp;omega) (by simp);rw [hm] at h;refine Ev.step (fun k=>?_) h;simp only [impl_LiveOf.l0];rw [if_pos (by simp only [List.length_cons];omega),if_pos (by omega),if_pos (by simp only [List.length_cons];omega)];rw [if_pos trivial,if_pos (show ([] : List Int).length < 17592186044416 by decide),show wrap64 (0 + 1) = ((0 + 1 : Nat) : Int) from w64 (x:=0 + 1) (by omega) (by omega)];rfl
theorem sIns_ev (l : List Int) (x : Int) (hl : l.length ≤ 1073741824) : Ev (fun k=>spec_l12Insert.f k l x) ((l.filter fun y=>decide (y < x)) ++ (if x > 0 then [x] else []) ++ l.filter fun y=>decide (y > x)):=by
 have two : ∀ (b : List Int),b.length ≤ 1073741825 → ∀ (d j : Nat),j + d = l.length → Ev (fun k=>spec_l12Insert.l1 k l x (b ++ (l.take j).filter fun y=>decide (y > x)) (j : Int)) (b ++ l.filter fun y=>decide (y > x)):=by
  intro b hb d
  induction d with
  | zero =>
   intro j hj;rw [List.take_of_length_le (by omega)];exact ev_some fun k=>by simp only [spec_l12Insert.l1];rw [if_neg (by omega)]
  | succ d ih =>
   intro j hj;have hjl : j < l.length:=by omega
   have h:=ih (j + 1) (by omega);have e : rd l (j : Int) = l[j]:=by show l.getD j 0 = _;rw [List.getD_eq_getElem?_getD,List.getElem?_eq_getElem hjl];rfl
   rw [List.take_succ_eq_append_getElem hjl,List.filter_append] at h;have h2:=List.length_filter_le (fun y=>decide (y > x)) (l.take j);have h3 : (l.take j).length ≤ l.length:=by rw [List.length_take];omega
   refine Ev.step (fun k=>?_) h;simp only [spec_l12Insert.l1];rw [if_pos (by omega),if_pos (by omega),e,wsucc (n:=l.length) hjl (by omega)]
   by_cases hg : l[j] > x
   ·rw [if_pos hg,if_pos (by simp only [List.length_append];omega),show [l[j]].filter (fun y=>decide (y > x)) = [l[j]] by rw [List.filter_cons,if_pos (decide_eq_true hg)];rfl,List.append_assoc]
   rw [if_neg hg,show [l[j]].filter (fun y=>decide (y > x)) = [] by rw [List.filter_cons,if_neg (by rw [decide_eq_false hg];decide)];rfl,List.append_nil]
 have one : ∀ (d j : Nat),j + d = l.length → Ev (fun k=>spec_l12Insert.l0 k l x ((l.take j).filter fun y=>decide (y < x)) (j : Int)) ((l.filter fun y=>decide (y < x)) ++ (if x > 0 then [x] else []) ++ l.filter fun y=>decide (y > x)):=by
  intro d
  induction d with
  | zero =>
   intro j hj;rw [List.take_of_length_le (by omega)];have h1:=List.length_filter_le (fun y=>decide (y < x)) l;have t:=two ((l.filter fun y=>decide (y < x)) ++ (if x > 0 then [x] else [])) (by rw [List.length_append];split <;> simp <;> omega) l.length 0 (by omega);rw [List.take_zero,List.filter_nil,List.append_nil] at t;refine Ev.step (f:=fun k=>spec_l12Insert.j1 k l x ((l.filter fun y=>decide (y < x)) ++ (if x > 0 then [x] else []))) (fun k=>?_) (Ev.step (fun k=>?_) t)
   ·simp only [spec_l12Insert.l0];rw [if_neg (by omega)]
    by_cases hx : x > 0
    ·rw [if_pos hx,if_pos (by omega),if_pos hx]
    rw [if_neg hx,if_neg hx,List.append_nil]
   simp only [spec_l12Insert.j1];rfl
  | succ d ih =>
   intro j hj;have hjl : j < l.length:=by omega
   have h:=ih (j + 1) (by omega);have e : rd l (j : Int) = l[j]:=by show l.getD j 0 = _;rw [List.getD_eq_getElem?_getD,List.getElem?_eq_getElem hjl];rfl
   rw [List.take_succ_eq_append_getElem hjl,List.filter_append] at h;have h2:=List.length_filter_le (fun y=>decide (y < x)) (l.take j);have h3 : (l.take j).length ≤ l.length:=by rw [List.length_take];omega
   refine Ev.step (fun k=>?_) h;simp only [spec_l12Insert.l0];rw [if_pos (by omega),if_pos (by omega),e,wsucc (n:=l.length) hjl (by omega)]
   by_cases hg : l[j] < x
   ·rw [if_pos hg,if_pos (by omega),show [l[j]].filter (fun y=>decide (y < x)) = [l[j]] by rw [List.filter_cons,if_pos (decide_eq_true hg)];rfl]
   rw [if_neg hg,show [l[j]].filter (fun y=>decide (y < x)) = [] by rw [List.filter_cons,if_neg (by rw [decide_eq_false hg];decide)];rfl,List.append_nil]
 have h:=one l.length 0 (by omega);rw [List.take_zero,List.filter_nil] at h;exact h
def liveF (s : List Int) (x : Int) : List Int:=if x > 0 then insB s x else s
theorem sIns2_ev (l : List Int) (x : Int) (hl : l.length ≤ 1073741824) (hp : ∀ y ∈ l,y > 0) : Ev (fun k=>spec_l12Insert.f k l x) (liveF l x):=by
 have h:=sIns_ev l x hl;unfold liveF insB
 by_cases hx : x > 0
 ·rw [if_pos hx] at h ⊢;exact h
 rw [if_neg hx] at h ⊢;rw [List.filter_eq_nil_iff.2 (fun y hy=>by have:=hp y hy;simp;omega),List.filter_eq_self.2 (fun y hy=>by have:=hp y hy;simp;omega)] at h;exact h
def LiveI (m s : List Int) : Prop:=Asc s ∧ (∀ y ∈ s,y > 0) ∧ ∀ y ∈ s,y ∈ m
theorem liveF_I {m s : List Int} {x : Int} (h : LiveI m s) (hx : x ∈ m) : LiveI m (liveF s x):=by
 unfold liveF
 by_cases hp : x > 0
 ·rw [if_pos hp];refine ⟨ins_asc x h.1,fun y hy=>?_,fun y hy=>?_⟩
  ·rcases ins_mem.1 hy with hy | rfl
   ·exact h.2.1 y hy
   exact hp
  rcases ins_mem.1 hy with hy | rfl
  ·exact h.2.2 y hy
  exact hx
 rw [if_neg hp];exact h
theorem liveF_mem : ∀ (l s : List Int) (y : Int),y ∈ l.foldl liveF s ↔ y ∈ s ∨ y ∈ l ∧ y > 0
 | [],s,y=>by simp
 | x :: l,s,y=>by
  rw [List.foldl_cons,liveF_mem l];unfold liveF
  by_cases hp : x > 0
  ·rw [if_pos hp,ins_mem,List.mem_cons];constructor
   ·rintro ((h | rfl) | h)
    ·exact .inl h
    ·exact .inr ⟨.inl rfl,hp⟩
    exact .inr ⟨.inr h.1,h.2⟩
   rintro (h | ⟨rfl | h,h2⟩)
   ·exact .inl (.inl h)
   ·exact .inl (.inr rfl)
   exact .inr ⟨h,h2⟩
  rw [if_neg hp,List.mem_cons];constructor
  ·rintro (h | h)
   ·exact .inl h
   exact .inr ⟨.inr h.1,h.2⟩
  rintro (h | ⟨rfl | h,h2⟩)
  ·exact .inl h
  ·exact absurd h2 hp
  exact .inr ⟨h,h2⟩
theorem foldF_I {m : List Int} : ∀ (l s : List Int),(∀ y ∈ l,y ∈ m) → LiveI m s → LiveI m (l.foldl liveF s)
 | [],s,_,h=>h
 | x :: l,s,hl,h=>by
  rw [List.foldl_cons];exact foldF_I l _ (fun y hy=>hl y (List.mem_cons_of_mem _ hy)) (liveF_I h (hl x List.mem_cons_self))
def allsB (v : List S83) (a : List S111) : List Int:=v.flatMap fun x=>allB a x.f1
theorem allsB_len (a : List S111) : ∀ v : List S83,(allsB v a).length = 16 * v.length
 | []=>by simp [allsB]
 | x :: v=>by
  have ih:=allsB_len a v;unfold allsB at *;rw [List.flatMap_cons,List.length_append,allB_len,ih,List.length_cons];omega
theorem lives_eq (v : List S83) (a : List S111) : (allsB v a).foldl liveF [] = liveB v a:=by
 refine asc_eq (foldF_I (m:=allsB v a) (allsB v a) [] (fun y h=>h) ⟨List.Pairwise.nil,(fun y h=>by cases h),fun y h=>by cases h⟩).1 (live_asc v a) fun y=>?_;rw [liveF_mem,live_mem];unfold allsB chunksB posL;simp only [List.mem_flatMap,List.mem_filter,decide_eq_true_eq];constructor
 ·rintro (h | ⟨⟨x,h1,h2⟩,h3⟩)
  ·cases h
  exact ⟨x,h1,h2,h3⟩
 rintro ⟨x,h1,h2,h3⟩;exact .inr ⟨⟨x,h1,h2⟩,h3⟩
theorem sLive_ev (v : List S83) (a : List S111) (n : Int) (hv : v.length ≤ 1048576) (ha : a.length ≤ 9223372036854775807) : Ev (fun k=>spec_LiveOf.f k v a n) (liveB v a):=by
 rw [← lives_eq];have hm:=allsB_len a v;have small : ∀ s,LiveI (allsB v a) s → s.length ≤ 1073741824:=fun s h=>by have:=asc_len h.1 h.2.2;omega
 have hin : ∀ (x : S83),x ∈ v → ∀ y ∈ allB a x.f1,y ∈ allsB v a:=fun x hx y hy=>List.mem_flatMap.2 ⟨x,hx,hy⟩
 have main : ∀ (d i : Nat) (s : List Int),i + d = v.length → LiveI (allsB v a) s → Ev (fun k=>spec_LiveOf.l0 k s (i : Int) v a n) ((allsB (v.drop i) a).foldl liveF s):=by
  intro d
  induction d with
  | zero =>
   intro i s hi hs;refine ev_some fun k=>?_;simp only [spec_LiveOf.l0];rw [if_neg (by omega),List.drop_eq_nil_of_le (by omega)];rfl
  | succ d ih =>
   intro i s hi hs;have hil : i < v.length:=by omega
   have hmem : v.getD i z83 ∈ v:=getD_mem' hil;rw [drop_get z83 hil];unfold allsB;rw [List.flatMap_cons,List.foldl_append];have hA:=allB_len a (v.getD i z83).f1;have hI:=hin _ hmem;refine Ev.step (f:=fun k=>(spec_AllAt.f k a (v.getD i z83).f1).bind fun t=>spec_LiveOf.l1 k s (i : Int) t 0 v a n) (fun k=>?_) (ev_bind (sAllAt_ev a _ ha) ?_)
   ·simp only [spec_LiveOf.l0];rw [if_pos (by omega),if_pos (by omega),rdIV_nat]
   generalize allB a (v.getD i z83).f1 = A at hA hI ⊢
   have inner : ∀ (e j : Nat) (s : List Int),j + e = A.length → LiveI (allsB v a) s → Ev (fun k=>spec_LiveOf.l1 k s (i : Int) A (j : Int) v a n) ((allsB (v.drop (i + 1)) a).foldl liveF ((A.drop j).foldl liveF s)):=by
    intro e
    induction e with
    | zero =>
     intro j s hj hs;rw [List.drop_eq_nil_of_le (by omega)];refine Ev.step (fun k=>?_) (ih (i + 1) s (by omega) hs);simp only [spec_LiveOf.l1];rw [if_neg (by omega),wsucc (n:=v.length) hil (by omega)]
    | succ e ihe =>
     intro j s hj hs;have hjl : j < A.length:=by omega
     rw [drop_get 0 hjl,List.foldl_cons];refine Ev.step (f:=fun k=>(spec_l12Insert.f k s (A.getD j 0)).bind fun t=>spec_LiveOf.l1 k t (i : Int) A ((j + 1 : Nat) : Int) v a n) (fun k=>?_) (ev_bind (sIns2_ev s _ (small s hs) hs.2.1) (ihe (j + 1) _ (by omega) (liveF_I hs (hI _ (getD_mem' hjl)))));simp only [spec_LiveOf.l1];rw [if_pos (by omega),if_pos (by omega),rd_nat,wsucc (n:=A.length) hjl (by omega)]
   exact inner A.length 0 s (by omega) hs
 have h:=main v.length 0 [] (by omega) ⟨List.Pairwise.nil,(fun y h=>by cases h),fun y h=>by cases h⟩;rw [List.drop_zero] at h;exact h
end Go.Proofs.YtibhkbljjnlpjaaGreat.Pu

namespace Go.Proofs.YtibhkbljjnlpjaaGreat.M2.Mp
set_option linter.unusedVariables false
set_option linter.unusedSimpArgs false
open Go.RowKit Go.Proofs.YtibhkbljjnlpjaaGreat.PK Go.Proofs.YtibhkbljjnlpjaaGreatW.PrintWords Go.Proofs.YtibhkbljjnlpjaaGreat.Pu
theorem n64 {x : Int} {n : Nat} (h : x = (n : Int)) (hn : n ≤ 9223372036854775807) : M2.w64 x = (n : Int):=by rw [h];exact x64 (by omega) (by omega)
theorem sNeed10 (L : List S65) (hL : L.length ≤ 1099511627776) (live : List Int) (j : Nat) (hj : j < live.length) (hl : live.length ≤ 1073741824) (r : List Bool) (nd : List Bool) (hnd : nd.length = L.length) : ∀ n,n ≤ L.length →
  Ev (fun k=>spec_l13Needed.c7 k L live ((j + 1 : Nat) : Int) (match lastN (rd_T3 live (j : Int)) L n with | some i=>nd.set i true | none=>nd)) r → Ev (fun k=>spec_l13Needed.c10 k L live (j : Int) ((n : Int) - 1) nd) r
 | 0,_,h=>by
  refine Ev.step (fun k=>?_) h;rw [spec_l13Needed.c10,if_neg (by omega),m64 hj (by omega)];rfl
 | n + 1,hn,h=>by
  have e : (((n + 1 : Nat) : Int) - 1) = (n : Int):=by omega
  have e2 : M2.w64 ((n : Int) - 1) = (n : Int) - 1:=x64 (by omega) (by omega);rw [e];rw [lastN] at h
  by_cases q1 : (L.getD n z65).f2.f0 = 1
  ·by_cases q2 : (L.getD n z65).f2.f2 = rd_T3 live (j : Int)
   ·rw [if_pos (chk_iff.2 ⟨q1,q2⟩)] at h;refine Ev.step (fun k=>?_) (Ev.step (g:=fun k=>spec_l13Needed.c10 k L live (j : Int) (-2) (nd.set n true)) (fun k=>?_) h)
    ·rw [spec_l13Needed.c10,if_pos (by omega),if_pos (by omega),if_pos (by omega),rdF_nat,if_pos q1,if_pos (by omega),if_pos (by omega),if_pos (by omega),if_pos (by omega),if_pos q2,if_pos (by omega),if_pos (by omega),Int.toNat_natCast]
    rw [spec_l13Needed.c10,if_neg (by omega),m64 hj (by omega)]
   rw [if_neg (fun hh=>q2 (chk_iff.1 hh).2)] at h;refine Ev.step (fun k=>?_) (sNeed10 L hL live j hj hl r nd hnd n (by omega) h);rw [spec_l13Needed.c10,if_pos (by omega),if_pos (by omega),if_pos (by omega),rdF_nat,if_pos q1,if_pos (by omega),if_pos (by omega),if_pos (by omega),if_pos (by omega),if_neg q2,e2]
  rw [if_neg (fun hh=>q1 (chk_iff.1 hh).1)] at h;refine Ev.step (fun k=>?_) (sNeed10 L hL live j hj hl r nd hnd n (by omega) h);rw [spec_l13Needed.c10,if_pos (by omega),if_pos (by omega),if_pos (by omega),rdF_nat,if_neg q1,e2]
theorem sNeed7 (L : List S65) (hL : L.length ≤ 1099511627776) (live : List Int) (hl : live.length ≤ 1073741824) : ∀ (d j : Nat) (nd : List Bool),j + d = live.length → nd.length = L.length → Ev (fun k=>spec_l13Needed.c7 k L live (j : Int) nd) ((live.drop j).foldl (markC L) nd)
 | 0,j,nd,hj,hn=>by
  rw [List.drop_eq_nil_of_le (by omega)];refine Ev.step (f:=fun _=>some _) (fun k=>?_) (Ev.now _);rw [spec_l13Needed.c7,if_neg (by omega)];rfl
 | d + 1,j,nd,hj,hn=>by
  have hjl : j < live.length:=by omega
  rw [show live.drop j = rd_T3 live (j : Int) :: live.drop (j + 1) from drop_getD z3 hjl,List.foldl_cons];refine Ev.step (fun k=>?_) (sNeed10 L hL live j hjl hl _ nd hn L.length (Nat.le_refl _) (sNeed7 L hL live hl d (j + 1) (markC L nd (rd_T3 live (j : Int))) (by omega) (by rw [markC_len];exact hn)));rw [spec_l13Needed.c7,if_pos (by omega),x64 (by omega) (by omega)]
theorem sNeed3 (L : List S65) (hL : L.length ≤ 1099511627776) (live : List Int) (base : Int) (r : List Bool) (h : Ev (fun k=>spec_l13Needed.c7 k L live 0 (L.map (metaP base))) r) : ∀ (d i : Nat),i + d = L.length → Ev (fun k=>spec_l13Needed.c3 k L live base (i : Int) ((L.take i).map (metaP base) ++ List.replicate d false)) r
 | 0,i,hi=>by
  refine Ev.step (fun k=>?_) h;rw [spec_l13Needed.c3,if_neg (by omega),List.take_of_length_le (by omega),List.replicate_zero,List.append_nil]
 | d + 1,i,hi=>by
  have hil : i < L.length:=by omega
  have hA : ((L.take i).map (metaP base)).length = i:=by rw [List.length_map,List.length_take];omega
  have hlen : (((L.take i).map (metaP base) ++ List.replicate (d + 1) false).length : Int) = (L.length : Int):=by rw [List.length_append,hA,List.length_replicate];omega
  have ew : M2.w64 ((i : Int) + 1) = ((i + 1 : Nat) : Int):=m64 hil (by omega);have ih:=sNeed3 L hL live base r h d (i + 1) (by omega);rw [take_nextD z65 hil,List.map_append,List.append_assoc] at ih
  have hset : ∀ v,((L.take i).map (metaP base) ++ List.replicate (d + 1) false).set i v = (L.take i).map (metaP base) ++ ([v] ++ List.replicate d false):=fun v=>by
   rw [List.set_append_right _ _ (by omega),hA,Nat.sub_self];rfl
  refine Ev.step (fun k=>?_) ih;rw [spec_l13Needed.c3,if_pos (by omega),if_pos (by omega),if_pos (by omega),rdF_nat,ew];generalize L.getD i z65 = x;simp only [hlen,Int.toNat_natCast,hset]
  by_cases q : x.f2.f0 = 2
  ·rw [if_pos q,if_pos (by omega),if_pos (by omega),if_pos (by omega),if_pos (by omega)];have : metaP base x = decide (x.f2.f2 ≥ base):=by unfold metaP;rw [decide_eq_true q];rfl
   rw [List.map_singleton,this]
  rw [if_neg q,if_pos (by omega),if_pos (by omega)];have : metaP base x = false:=by unfold metaP;rw [decide_eq_false q];rfl
  rw [List.map_singleton,this]
theorem sOn3 (L : List S65) (hL : L.length ≤ 1099511627776) (nd : List Bool) (hn : nd.length = L.length) (b : Int) : ∀ (d i : Nat),i + d = L.length → Ev (fun k=>spec_l13On.c3 k L nd b ((cntB L nd b i : Nat) : Int) (i : Int)) ((cntB L nd b L.length : Nat) : Int)
 | 0,i,hi=>by
  obtain rfl : i = L.length:=by omega
  refine Ev.step (f:=fun _=>some _) (fun k=>?_) (Ev.now _);rw [spec_l13On.c3,if_neg (by omega)]
 | d + 1,i,hi=>by
  have hil : i < L.length:=by omega
  have ew : M2.w64 ((i : Int) + 1) = ((i + 1 : Nat) : Int):=m64 hil (by omega);have hc:=cntB_le L nd b i;have ew2 : M2.w64 (((cntB L nd b i : Nat) : Int) + 1) = ((cntB L nd b i + 1 : Nat) : Int):=n64 (by omega) (by omega);have ih:=sOn3 L hL nd hn b d (i + 1) (by omega);rw [cntB] at ih;refine Ev.step (fun k=>?_) ih;rw [spec_l13On.c3,if_pos (by omega),if_pos (by omega),if_pos (by omega),rdF_nat,ew,ew2,show rd_T4 nd (i : Int) = nd.getD i false from rfl]
  by_cases q1 : nd.getD i false = true
  ·rw [if_pos q1,if_pos (by omega),if_pos (by omega)]
   by_cases q2 : (L.getD i z65).f0 = b
   ·rw [if_pos q2,if_pos ⟨q1,q2⟩]
   rw [if_neg q2,if_neg (fun hh=>q2 hh.2)];rfl
  rw [if_neg q1,if_neg (fun hh=>q1 hh.1)];rfl
theorem iSpots3 (bs : List S76) (h : FlashB bs) (b : Int) (live : List Int) (hl : live.length ≤ 1073741824) : ∀ (d j : Nat) (acc : List S65),j + d = live.length → acc.length ≤ j → ∃ r,Ev (fun k=>impl_spots.c3 k b (live.length : Int) (j : Int) bs acc live) r ∧ r.length = acc.length + ((live.drop j).filter (onB (scanV bs) b)).length
 | 0,j,acc,hj,ha=>by
  rw [List.drop_eq_nil_of_le (by omega)];refine ⟨acc,Ev.step (f:=fun _=>some _) (fun k=>?_) (Ev.now _),by simp⟩;rw [impl_spots.c3,if_neg (by omega)]
 | d + 1,j,acc,hj,ha=>by
  have hjl : j < live.length:=by omega
  have ew : M2.w64 ((j : Int) + 1) = ((j + 1 : Nat) : Int):=m64 hjl (by omega);rw [show live.drop j = rd_T3 live (j : Int) :: live.drop (j + 1) from drop_getD z3 hjl];generalize hc : rd_T3 live (j : Int) = c;have hd:=iDataOf bs c h
  have hon : onB (scanV bs) b c = ((dataV bs c).isSome && decide ((bz (dataV bs c)).f0 = b)):=by
   unfold onB dataV;cases lastM c none (scanV bs) <;> rfl
  have start : ∀ {r},Ev (fun k=>(if (nwV (dataV bs c)).2.2.2.2.2.2.2.2 = true then (if (nwV (dataV bs c)).1 = b then (if acc.length + ([bz (dataV bs c)] : List S65).length ≤ 1954687338268 then (impl_spots.c3 k b (live.length : Int) (M2.w64 ((j : Int) + 1)) bs (acc ++ ([bz (dataV bs c)] : List S65)) live) else none) else (impl_spots.c3 k b (live.length : Int) (M2.w64 ((j : Int) + 1)) bs acc live)) else (impl_spots.c3 k b (live.length : Int) (M2.w64 ((j : Int) + 1)) bs acc live))) r → Ev (fun k=>impl_spots.c3 k b (live.length : Int) (j : Int) bs acc live) r:=by
   intro r hr;refine Ev.step (fun k=>by rw [impl_spots.c3,if_pos (show (j : Int) < (live.length : Int) by omega),if_pos (show (0 : Int) ≤ (j : Int) by omega),if_pos (show (j : Int) < (live.length : Int) by omega),hc]) (Ev.bind hd hr)
  by_cases q1 : (dataV bs c).isSome = true
  ·by_cases q2 : (bz (dataV bs c)).f0 = b
   ·obtain ⟨r,r1,r2⟩:=iSpots3 bs h b live hl d (j + 1) (acc ++ [bz (dataV bs c)]) (by omega) (by simp;omega);refine ⟨r,start (ev_pos q1 (ev_pos q2 (ev_pos (by simp;omega) (by rw [ew];exact r1)))),?_⟩;rw [r2,List.filter_cons_of_pos (by rw [hon,q1];simpa using q2)];simp only [List.length_append,List.length_cons,List.length_nil];omega
   obtain ⟨r,r1,r2⟩:=iSpots3 bs h b live hl d (j + 1) acc (by omega) (by omega);refine ⟨r,start (ev_pos q1 (ev_neg q2 (by rw [ew];exact r1))),?_⟩;rw [r2,List.filter_cons_of_neg (by rw [hon];simp [q2])]
  obtain ⟨r,r1,r2⟩:=iSpots3 bs h b live hl d (j + 1) acc (by omega) (by omega);refine ⟨r,start (ev_neg q1 (by rw [ew];exact r1)),?_⟩;rw [r2,List.filter_cons_of_neg (by rw [hon];simp [q1])]
theorem iCount3 (L : List S65) (hL : L.length ≤ 1099511627776) (base b : Int) : ∀ (d i n : Nat),i + d = L.length → n ≤ 1099511627776 + i → Ev (fun k=>impl_NeededOn.c3 k base b (n : Int) (L.length : Int) (i : Int) L) ((n + metaN (L.drop i) base b : Nat) : Int)
 | 0,i,n,hi,hn=>by
  rw [List.drop_eq_nil_of_le (by omega)];refine Ev.step (f:=fun _=>some _) (fun k=>?_) (Ev.now _);rw [impl_NeededOn.c3,if_neg (by omega)];rfl
 | d + 1,i,n,hi,hn=>by
  have hil : i < L.length:=by omega
  have ew : M2.w64 ((i : Int) + 1) = ((i + 1 : Nat) : Int):=m64 hil (by omega);have ew2 : M2.w64 ((n : Int) + 1) = ((n + 1 : Nat) : Int):=n64 (by omega) (by omega);have yes:=iCount3 L hL base b d (i + 1) (n + 1) (by omega) (by omega);have no:=iCount3 L hL base b d (i + 1) n (by omega) (by omega);rw [drop_getD z65 hil]
  have hm : metaN (L.getD i z65 :: L.drop (i + 1)) base b = (if (L.getD i z65).f0 = b ∧ (L.getD i z65).f2.f0 = 2 ∧ (L.getD i z65).f2.f2 ≥ base then 1 else 0) + metaN (L.drop (i + 1)) base b:=by
   unfold metaN
   by_cases q : (L.getD i z65).f0 = b ∧ (L.getD i z65).f2.f0 = 2 ∧ (L.getD i z65).f2.f2 ≥ base
   ·rw [if_pos q,List.filter_cons_of_pos (by unfold metaP;rw [decide_eq_true q.1,decide_eq_true q.2.1,decide_eq_true q.2.2];rfl),List.length_cons];omega
   rw [if_neg q,List.filter_cons_of_neg (by
    intro hh;unfold metaP at hh;rw [Bool.and_eq_true,Bool.and_eq_true] at hh
    exact q ⟨of_decide_eq_true hh.1,of_decide_eq_true hh.2.1,of_decide_eq_true hh.2.2⟩)];omega
  rw [hm];refine Ev.step (fun k=>by rw [impl_NeededOn.c3,if_pos (show (i : Int) < (L.length : Int) by omega),if_pos (show (0 : Int) ≤ (i : Int) by omega),if_pos (show (i : Int) < (L.length : Int) by omega),rdF_nat,ew,ew2]) ?_;generalize L.getD i z65 = x
  by_cases q1 : x.f0 = b
  ·refine ev_pos q1 ?_
   by_cases q2 : x.f2.f0 = 2
   ·refine ev_pos q2 ?_
    by_cases q3 : x.f2.f2 ≥ base
    ·rw [if_pos ⟨q1,q2,q3⟩,← Nat.add_assoc];exact ev_pos q3 yes
    rw [if_neg (fun hh=>q3 hh.2.2),Nat.zero_add];exact ev_neg q3 no
   rw [if_neg (fun hh=>q2 hh.2.1),Nat.zero_add];exact ev_neg q2 no
  rw [if_neg (fun hh=>q1 hh.1),Nat.zero_add];exact ev_neg q1 no
theorem neededX (bs : List S76) (v : List S83) (a : List S111) (n base b : Int) (h : FlashB bs) (hv : v.length ≤ 1048576) (ha : a.length ≤ 1048576) :
  ∃ r : Int,Ev (fun k=>spec_NeededOn.f k bs v a n base b) r ∧ Ev (fun k=>impl_NeededOn.f k bs v a n base b) r:=by
 simp only [spec_NeededOn.f,impl_NeededOn.f,spec_l13Needed.f,spec_l13On.f,impl_spots.f];have s1 : Ev (fun k=>spec_LiveOf.f k v a n) (liveB v a):=ev_rel (c:=id) (sLive_ev v a n hv (by omega)) (fun k r h m hm=>spec_LiveOf.rel k v a n r h m hm);have i1 : Ev (fun k=>impl_LiveOf.f k v a n) (liveB v a):=ev_rel (c:=id) (iLive_ev v a n hv (by omega)) (fun k r h m hm=>impl_LiveOf.rel k v a n r h m hm);have hlen:=live_len v a;have hnd : (liveB v a).Nodup:=(live_asc v a).imp (fun h=>by omega);generalize liveB v a = live at *;have hL:=scan_len h;have hlv : live.length ≤ 1073741824:=by omega
 have ne:=needed_eq (scanV bs) base b live hnd;have s7:=sNeed7 (scanV bs) hL live hlv live.length 0 ((scanV bs).map (metaP base)) (Nat.zero_add _) (by simp);have s3:=sNeed3 (scanV bs) hL live base _ s7 (scanV bs).length 0 (Nat.zero_add _)
 have s4:=sOn3 (scanV bs) hL (live.foldl (markC (scanV bs)) ((scanV bs).map (metaP base))) (by
  have : ∀ (l : List Int) (nd : List Bool),(l.foldl (markC (scanV bs)) nd).length = nd.length:=by
   intro l
   induction l with
   | nil=>intro nd;rfl
   | cons c l ih=>intro nd;rw [List.foldl_cons,ih,markC_len]
  rw [this];simp) b (scanV bs).length 0 (Nat.zero_add _)
 obtain ⟨sp,p1,p2⟩:=iSpots3 bs h b live hlv live.length 0 [] (Nat.zero_add _) (by simp);rw [List.drop_zero] at p2;have p3 : sp.length = (live.filter (onB (scanV bs) b)).length:=by rw [p2];simp
 have hsp : sp.length ≤ 1073741824:=by
  rw [p3];exact Nat.le_trans (List.length_filter_le _ _) hlv
 have c3:=iCount3 (scanV bs) hL base b (scanV bs).length 0 sp.length (Nat.zero_add _) (by omega);rw [List.drop_zero] at c3;refine ⟨((cntB (scanV bs) (live.foldl (markC (scanV bs)) ((scanV bs).map (metaP base))) b (scanV bs).length : Nat) : Int),?_,?_⟩
 ·refine Ev.bind (sScanAll bs h) (Ev.bind s1 (Ev.bind (ev_pos (by omega) (ev_pos (by omega) ?_)) (Ev.bind s4 (Ev.now _))));rw [Int.toNat_natCast];exact s3
 refine Ev.bind (Ev.bind i1 p1) (Ev.bind (iScanAll bs h) ?_);rw [ne,← p3,Nat.add_comm];exact c3
theorem fnExactNeededOnX (l : List S72) (v : List S87) (a : List S101) (n base b : Int) (hl : l.length ≤ maxLen) (hx : ∀ x ∈ l,x.f2.length ≤ maxLen ∧ ∀ y ∈ x.f2,y.f1.size ≤ maxLen) (hv : v.length ≤ maxLen) (ha : a.length ≤ maxLen) (hk : ∀ x ∈ a,x.f1.length ≤ maxLen) :
  EvX (fun k=>laws_FnExactNeededOn.f k l v a n base b) (fun r=>r = true):=by
 simp only [laws_FnExactNeededOn.f];obtain ⟨r,hr,hq⟩:=flashX hl hx;have hm:=hl;unfold maxLen at hm;obtain ⟨r2,hr2,hle,_⟩:=szFlash_ev l 1048576 (by omega) (by omega) (by omega) (fun x h=>⟨by have:=(hx x h).1;unfold maxLen at this;omega,fun y hy=>by have:=(hx x h).2 y hy;unfold maxLen at this;omega⟩);obtain rfl:=ev_uniq hr (ev_rel (c:=id) hr2 (fun k r h m hm=>laws_szFlash.rel k l 1048576 r h m hm));refine ⟨true,Ev.bind hr ?_,rfl⟩
 by_cases h0 : r < 0
 ·exact ev_pos h0 (Ev.now _)
 refine ev_neg h0 ?_;obtain ⟨g1,g2,g3⟩:=hq (by omega);have hle' : r ≤ 1048576:=hle;obtain ⟨s,hs,hqs⟩:=store_start (n:=n) (a:=r) (by omega) hle' hv ha hk;have hs' : Ev (fun k=>laws_szStore.f k v a n r) s:=ev_rel (c:=id) hs (fun k z h m hm=>laws_szStore.rel k v a n r z h m hm);refine Ev.bind hs' ?_
 by_cases h1 : s < 0
 ·exact ev_pos h1 (Ev.now _)
 refine ev_neg h1 ?_;obtain ⟨p1,p2,p3,p4,p5⟩:=hqs.2 (by omega);have p1' : Ev (fun k=>laws_toStore.f k v a n) (v.map toVl,toA a,n):=ev_rel (c:=id) p1 (fun k z h m hm=>laws_toStore.rel k v a n z h m hm);have p2' : Ev (fun k=>laws_eqStore.f k (v.map toVl) (toA a) n (v.map toVl) (toA a) n) true:=ev_rel (c:=id) p2 (fun k z h m hm=>laws_eqStore.rel k _ _ n _ _ n z h m hm);obtain ⟨w,w1,w2⟩:=neededX (toFl l) (v.map toVl) (toA a) n base b g3 p3 p4;refine Ev.bind g1 (Ev.bind p1' (Ev.bind w1 (Ev.bind g1 (Ev.bind p1' (Ev.bind w2 (ev_pos rfl ?_))))));exact Ev.bind g1 (Ev.bind g2 (ev_pos rfl (Ev.bind p1' (Ev.bind p2' (ev_pos rfl (Ev.now _))))))
end Go.Proofs.YtibhkbljjnlpjaaGreat.M2.Mp

namespace Go.Proofs.YtibhkbljjnlpjaaGreat.M2
open Go Go.RowKit
set_option linter.unusedVariables false
section
variable {Ty : Type} {D : Ty → Type} {P : Program} {K : Kit Ty D}
theorem blk0 (nm : Nm) : blkAt K (hpOf ([] : List (Blk Ty D))) nm = none:=by
 unfold blkAt;cases nm.sub <;> rfl
theorem own0 (γ : Nm → Hdr) (g : Nat) (nm : Nm) : ¬ Own K (hpOf ([] : List (Blk Ty D))) γ g nm:=by
 rintro ⟨⟨b,hb⟩,_⟩;rw [blk0] at hb;cases hb
def Out (Ty : Type) (D : Ty → Type) (w : World) : Mem Ty D:=⟨w,fun _ g=>g < w.heap.size,hpOf [],fun _=>(none,0),(· < ([] : List (Blk Ty D)).length)⟩
theorem top {f : FuncId} {ins : List (AV Ty D)} {v : Value} (h : Contract P K f ins [] (.sc v) [] []) (w : World) (args : Array Value) (hsz : args.size = ins.length)
  (ha : ∀ (k : Nat) u x,args[k]? = some u → ins[k]? = some x → x ≠ .dd ∧ Va K (Out Ty D w) u x) : Calls P f args w fun e w'=>e = .returned v ∧ Below w.heap.size w w':=by
 have hl : Lay K (Out Ty D w):=by
  refine ⟨fun nm b hb=>?_,fun g nm nm' h=>(own0 _ _ _ h).elim,fun g hg=>hg,fun g hg=>⟨hg,fun nm=>own0 _ _ _⟩,fun id b hb=>?_⟩
  ·rw [show blkAt K (Out Ty D w).H nm = none from blk0 nm] at hb;cases hb
  cases hb
 refine (h.2.2 w (fun _ g=>g < w.heap.size) (fun _=>(none,0)) args hl (fun g hg _=>hg) hsz ha).mono fun e w' he=>?_;obtain ⟨u,γ',he,_,_,hv,hk,_⟩:=he;have hu : u = v:=hv.1;exact ⟨by rw [he,hu],hk.os,hk.tape,hk.output,hk.size,fun k hk'=>hk.block k hk' (fun ⟨nm,ho⟩=>own0 _ _ _ ho)⟩
end
end Go.Proofs.YtibhkbljjnlpjaaGreat.M2

namespace Go.Proofs.YtibhkbljjnlpjaaGreat.M2
open Go Go.RowKit
set_option linter.unusedVariables false
set_option linter.unusedSimpArgs false
section
variable {Ty : Type} {D : Ty → Type} {P : Program} {K : Kit Ty D}
def CellsAt (K : Kit Ty D) (w : World) (d : Nat) (cs : List Value) (av : List (AV Ty D)) : Prop:=cs.length = av.length ∧ ∀ (j : Nat) u c,cs[j]? = some u → av[j]? = some c → FzC K w (fun g=>g < w.heap.size) d u c
def OpM {α : Type} (P : Program) (K : Kit Ty D) (t : TypeId) (d : Nat) (em : α → List (AV Ty D)) (wf : α → Prop) : Prop :=
 ∀ (H : Type) (enc : TypeId × Value → H) (w : World) (base : Nat) (spare : Nat → Bool) (held : Bool) (fuel : Nat) (cs : List Value) (x : DataW H × List MemPlace),
  DataW.trod enc P w base spare held fuel t cs = some x → ∃ y : α,CellsAt K w d cs (em y) ∧ wf y
theorem FzC.up {w : World} {S : Nat → Prop} : ∀ {d : Nat} {v : Value} {x : AV Ty D},FzC K w S d v x → FzC K w S (d + 1) v x:=by
 intro d
 induction d with
 | zero =>
  intro v x h;cases x with
  | sc u=>exact h
  | _=>exact h.elim
 | succ d ih =>
  intro v x h;cases x with
  | sc u=>exact h
  | row g t l =>
   obtain ⟨a,c,h1,h2,h3⟩:=h;refine ⟨a,c,h1,h2,h3.imp id ?_⟩;rintro ⟨g,o,q1,q2,q3⟩;refine ⟨g,o,q1,q2,fun i x hx j c hc=>?_⟩;obtain ⟨u,hu,hf⟩:=q3 i x hx j c hc;exact ⟨u,hu,ih hf⟩
  | _=>exact h.elim
theorem CellsAt.up {w : World} {d : Nat} {cs : List Value} {av : List (AV Ty D)} (h : CellsAt K w d cs av) : CellsAt K w (d + 1) cs av:=⟨h.1,fun j u c hu hc=>(h.2 j u c hu hc).up⟩
theorem OpM.up {α : Type} {t : TypeId} {d : Nat} {em : α → List (AV Ty D)} {wf : α → Prop} (h : OpM P K t d em wf) : OpM P K t (d + 1) em wf:=fun H enc w base spare held fuel cs x hx=>by
 obtain ⟨y,h1,h2⟩:=h H enc w base spare held fuel cs x hx;exact ⟨y,h1.up,h2⟩
theorem cells_one {w : World} {d : Nat} {v u : Value} (hv : v = u) (hs : scalar u = true) : CellsAt K w d [v] [.sc u]:=by
 refine ⟨rfl,fun j x c hx hc=>?_⟩;cases j with
 | succ j=>simp at hx
 | zero =>
  simp at hx hc;subst hx hc;cases d <;> exact ⟨hv,hs⟩
theorem op_int {t : TypeId} {k : IntKind} (hu : P.underlying t = some (.int k)) : OpM P K t 0 (fun n : Int=>[.sc (.int k n)]) (fun n=>(Lit.int k n).wf = true):=by
 intro H enc w base spare held fuel cs x h;obtain ⟨n,rfl,_,hw⟩:=DataW.trod_int hu h;exact ⟨n,cells_one rfl rfl,hw⟩
theorem op_bool {t : TypeId} (hu : P.underlying t = some .bool) : OpM P K t 0 (fun b : Bool=>[.sc (.bool b)]) (fun _=>True):=by
 intro H enc w base spare held fuel cs x h;obtain ⟨n,rfl,_⟩:=DataW.trod_bool hu h;exact ⟨n,cells_one rfl rfl,trivial⟩
theorem op_string {t : TypeId} (hu : P.underlying t = some .string) : OpM P K t 0 (fun s : ByteArray=>[.sc (.string s)]) (fun s=>s.size ≤ maxLen):=by
 intro H enc w base spare held fuel cs x h;obtain ⟨n,rfl,_,hw⟩:=DataW.trod_string hu h;exact ⟨n,cells_one rfl rfl,hw⟩
theorem choose_list {α : Type} {Q : Nat → α → Prop} : ∀ (n : Nat),(∀ i,i < n → ∃ y,Q i y) → ∃ ys : List α,ys.length = n ∧ ∀ i y,ys[i]? = some y → Q i y
 | 0,_=>⟨[],rfl,fun i y h=>by simp at h⟩
 | n + 1,h=>by
  obtain ⟨ys,hl,hq⟩:=choose_list n (fun i hi=>h i (by omega));obtain ⟨y,hy⟩:=h n (by omega);refine ⟨ys ++ [y],by simp [hl],fun i z hz=>?_⟩;rcases Nat.lt_or_ge i ys.length with hi | hi
  ·rw [List.getElem?_append_left hi] at hz;exact hq i z hz
  rw [List.getElem?_append_right hi] at hz
  have hi2 : i - ys.length = 0:=by
   have:=(List.getElem?_eq_some_iff.1 hz).1;simp at this;omega
  rw [hi2] at hz;have : i = n:=by omega
  subst this;simp at hz;subst hz;exact hy
theorem adds (a : Addr) (m n : Nat) : (a.add m).add n = a.add (m + n):=by
 unfold Addr.add
 by_cases h1 : m = 0 <;> by_cases h2 : n = 0 <;> simp_all [Nat.add_assoc]
theorem op_slice {t e : TypeId} {te : Ty} {d : Nat} {wf : D te → Prop} (hu : P.underlying t = some (.slice e)) (hc : P.cellsOf e = K.cells te) (hlen0 : ∀ x,(K.emb te x).length = K.cells te) (hpos : 0 < K.cells te) (ho : OpM P K e d (K.emb te) wf) :
  OpM P K t (d + 1) (fun l : List (D te)=>[.row 0 te l]) (fun xs=>xs.length ≤ maxLen ∧ ∀ x ∈ xs,wf x):=by
 intro H enc w base spare held fuel cs x h;rcases DataW.trod_slice hu h with ⟨rfl,_⟩ | ⟨a,len,cap,elems,rest,n,_,rfl,_,hb,hl,hm,hlen,hel,_,_⟩
 ·refine ⟨[],⟨rfl,fun j u c hx hcc=>?_⟩,by simp,fun x hx=>absurd hx (by simp)⟩;cases j with
  | succ j=>simp at hx
  | zero =>
   simp at hx hcc;subst hx hcc;exact ⟨none,0,rfl,Nat.le_refl _,.inl rfl⟩
 have each : ∀ i,i < len → ∃ y : D te,∃ c : List Value,(CellsAt K w d c (K.emb te y) ∧ ∀ j u,c[j]? = some u → w.cell? (a.add (i * K.cells te + j)) = some u) ∧ wf y:=by
  intro i hi;have h1:=hel i hi;rw [List.getElem?_eq_getElem (by omega),Option.bind_eq_some_iff,hc] at h1;obtain ⟨c,h2,h3⟩:=h1;obtain ⟨_,hcl,hcell⟩:=World.cells?_some h2;obtain ⟨y,hk,hw⟩:=ho H enc w base spare held n c _ h3;refine ⟨y,c,⟨hk,fun j u hj=>?_⟩,hw⟩;have hjl : j < c.length:=(List.getElem?_eq_some_iff.1 hj).1;rw [← adds,hcell j (by omega),hj]
 obtain ⟨ys,hyl,hys⟩:=choose_list len each;have hml : len ≤ maxLen:=Nat.le_trans hl hm;refine ⟨ys,⟨rfl,fun j u c hx hcc=>?_⟩,by rw [hyl];exact hml,fun y hy=>?_⟩
 ·cases j with
  | succ j=>simp at hx
  | zero =>
   simp at hx hcc;subst hx hcc;refine ⟨some a,cap,by rw [hyl],by rw [hyl];exact hl,?_⟩
   by_cases h0 : ys = []
   ·exact .inl h0
   refine .inr ?_;have hl0 : 0 < ys.length:=List.length_pos_iff.2 h0
   have cell : ∀ (i : Nat) y,ys[i]? = some y → ∀ (j : Nat) cc,(K.emb te y)[j]? = some cc → ∃ u,w.cell? (a.add (i * K.cells te + j)) = some u ∧ FzC K w (fun g=>g < w.heap.size) d u cc:=by
    intro i y hy j cc hcc;obtain ⟨c,⟨hk,hcell⟩,_⟩:=hys i y hy;have hj : j < c.length:=by rw [hk.1];exact (List.getElem?_eq_some_iff.1 hcc).1
    exact ⟨c[j],hcell j _ (List.getElem?_eq_getElem hj),hk.2 j _ cc (List.getElem?_eq_getElem hj) hcc⟩
   obtain ⟨u0, hu0, _⟩ := cell 0 ys[0] (List.getElem?_eq_getElem hl0) 0 ((K.emb te ys[0])[0]'(by rw [hlen0]; exact hpos)) (List.getElem?_eq_getElem _)
   have hsp : a.spot = none:=by
    have h1:=World.cell?_spot hu0;have h2 : (a.add (0 * K.cells te + 0)) = a:=by simp [Addr.add]
    rw [h2] at h1;exact h1
   obtain ⟨g,o,sp⟩:=a;simp only at hsp;subst hsp;have hadd : ∀ j,(⟨g,o,none⟩ : Addr).add j = ⟨g,o + j,none⟩:=fun j=>by unfold Addr.add;split <;> simp_all
   have hg : g < w.heap.size:=by
    rw [hadd] at hu0;unfold World.cell? at hu0;rcases Nat.lt_or_ge g w.heap.size with h | h
    ·exact h
    simp [Array.getElem?_eq_none h] at hu0
   refine ⟨g,o,rfl,hg,fun i y hy j cc hcc=>?_⟩;obtain ⟨u,h1,h2⟩:=cell i y hy j cc hcc;rw [hadd] at h1;exact ⟨u,h1,h2⟩
 obtain ⟨j,hj,he⟩:=List.getElem_of_mem hy;obtain ⟨_,_,hw⟩:=hys j y (by rw [List.getElem?_eq_getElem hj,he]);exact hw
def OpF {α : Type} (P : Program) (K : Kit Ty D) (fs : List Field) (off d n : Nat) (em : α → List (AV Ty D)) (wf : α → Prop) : Prop :=
 ∀ (H : Type) (enc : TypeId × Value → H) (w : World) (base : Nat) (spare : Nat → Bool) (held : Bool) (fuel : Nat) (cs : List Value),cs.length = off + n →
  (∀ f ∈ fs,∃ x,DataW.trod enc P w base spare held fuel f.type ((cs.drop f.offset).take (P.cellsOf f.type)) = some x) → ∃ y : α,CellsAt K w d (cs.drop off) (em y) ∧ wf y
theorem opF_one {α : Type} {f : Field} {off d n : Nat} {em : α → List (AV Ty D)} {wf : α → Prop} (hoff : f.offset = off) (hc : P.cellsOf f.type = n) (ho : OpM P K f.type d em wf) : OpF P K [f] off d n em wf:=by
 intro H enc w base spare held fuel cs hl h;obtain ⟨x,hx⟩:=h f (by simp);obtain ⟨y,hk,hw⟩:=ho H enc w base spare held fuel _ x hx;rw [hoff,hc,List.take_of_length_le (by rw [List.length_drop];omega)] at hk;exact ⟨y,hk,hw⟩
theorem CellsAt.app {w : World} {d : Nat} {c1 c2 : List Value} {a1 a2 : List (AV Ty D)} (h1 : CellsAt K w d c1 a1) (h2 : CellsAt K w d c2 a2) : CellsAt K w d (c1 ++ c2) (a1 ++ a2):=by
 refine ⟨by rw [List.length_append,List.length_append,h1.1,h2.1],fun j u c hu hc=>?_⟩;rcases Nat.lt_or_ge j c1.length with h | h
 ·rw [List.getElem?_append_left h] at hu;rw [List.getElem?_append_left (by rw [← h1.1];exact h)] at hc;exact h1.2 j u c hu hc
 rw [List.getElem?_append_right h] at hu;rw [List.getElem?_append_right (by rw [← h1.1];exact h),← h1.1] at hc;exact h2.2 _ u c hu hc
theorem opF_cons {α β : Type} {f : Field} {fs : List Field} {off d n m : Nat} {ea : α → List (AV Ty D)} {eb : β → List (AV Ty D)} {wa : α → Prop} {wb : β → Prop} (hoff : f.offset = off) (hc : P.cellsOf f.type = n) (ho : OpM P K f.type d ea wa) (hr : OpF P K fs (off + n) d m eb wb) :
  OpF P K (f :: fs) off d (n + m) (fun p : α × β=>ea p.1 ++ eb p.2) (fun p=>wa p.1 ∧ wb p.2):=by
 intro H enc w base spare held fuel cs hl h;obtain ⟨x,hx⟩:=h f (by simp);obtain ⟨y,hk,hw⟩:=ho H enc w base spare held fuel _ x hx;obtain ⟨z,hk2,hw2⟩:=hr H enc w base spare held fuel cs (by omega) (fun g hg=>h g (List.mem_cons_of_mem _ hg));rw [hoff,hc] at hk;refine ⟨(y,z),?_,hw,hw2⟩;have:=hk.app hk2;rw [← List.drop_drop,List.take_append_drop] at this;exact this
theorem op_tuple {α : Type} {t : TypeId} {fs : List Field} {d n : Nat} {em : α → List (AV Ty D)} {wf : α → Prop} (hu : P.underlying t = some (.struct fs.toArray)) (hc : P.cellsOf t = n) (ho : OpF P K fs 0 d n em wf) : OpM P K t d em wf:=by
 intro H enc w base spare held fuel cs x h;obtain ⟨xs,m,_,_,hl,hlen,hf⟩:=DataW.trod_struct hu h
 obtain ⟨y,hk,hw⟩:=ho H enc w base spare held m cs (by omega) (fun fl hfl=>by
  obtain ⟨i,hi,he⟩:=List.getElem_of_mem hfl;have h1:=hf i fl (by simpa using (List.getElem?_eq_getElem hi).trans (congrArg some he));have hlen2 : xs.length = fs.length:=by simpa using hlen
  exact ⟨xs[i]'(by omega), by rw [h1, List.getElem?_eq_getElem]⟩)
 exact ⟨y,by simpa using hk,hw⟩
theorem op_iso {α β : Type} {t : TypeId} {d : Nat} {em : α → List (AV Ty D)} {em' : β → List (AV Ty D)} {wf : α → Prop} {wf' : β → Prop} (g : α → β) (h : OpM P K t d em wf) (he : ∀ y,em' (g y) = em y) (hw : ∀ y,wf y → wf' (g y)) : OpM P K t d em' wf':=fun H enc w base spare held fuel cs x hx=>by
 obtain ⟨y,h1,h2⟩:=h H enc w base spare held fuel cs x hx;exact ⟨g y,by rw [he];exact h1,hw y h2⟩
theorem va_ag {w : World} {d : Nat} {cs : List Value} {av : List (AV Ty D)} (h : CellsAt K w d cs av) : Va K (Out Ty D w) (.agg cs.toArray) (.ag av):=by
 refine ⟨cs,rfl,h.1,fun j u c hu hc=>?_⟩;have hf:=h.2 j u c hu hc;cases d with
 | zero =>
  cases c with
  | sc x=>exact ⟨by simp,hf⟩
  | _=>exact hf.elim
 | succ d =>
  cases c with
  | sc x=>exact ⟨by simp,hf⟩
  | row g t l=>exact ⟨by simp,⟨d + 1,hf⟩⟩
  | _=>exact hf.elim
theorem va_sc {w : World} {d : Nat} {v u : Value} (h : CellsAt K w d [v] [.sc u]) : Va K (Out Ty D w) v (.sc u):=by
 have hf:=h.2 0 v _ rfl rfl;cases d <;> exact hf
theorem va_row {w : World} {d : Nat} {v : Value} {t : Ty} {l : List (D t)} (h : CellsAt K w d [v] [.row 0 t l]) : Va K (Out Ty D w) v (.row 0 t l):=⟨d,h.2 0 v _ rfl rfl⟩
end
end Go.Proofs.YtibhkbljjnlpjaaGreat.M2

/- The law FnExactNeededOn holds, for every input: from its function's contract and the plain statement of what it answers. -/
namespace Go.Proofs.YtibhkbljjnlpjaaGreat.fnExactNeededOn
set_option linter.unusedVariables false
set_option linter.unusedSimpArgs false
open Go Go.ChangeShapes Go.WideShapes Go.ChangeAt Go.RowKit
open Go.Proofs.YtibhkbljjnlpjaaGreat.PK
open Go.Proofs.YtibhkbljjnlpjaaGreat.M2 (top Va Vc Out kit AV Ty D Contract OpM op_int op_bool op_string op_slice op_tuple op_iso opF_one opF_cons va_ag va_row va_sc)
theorem own : ownKnob Tryz.prog.godebug = none := by kernel_rfl
theorem laidOut : laidOutB Tryz.prog = true := by kernel_rfl
theorem oE132 : OpM Tryz.prog kit 132 0 (kit.emb .t132) (fun x : S132 => x.f1.size ≤ maxLen) := op_iso (fun p : Int × ByteArray => (⟨p.1, p.2⟩ : S132)) (op_tuple Tryz.underlying132 (by kernel_rfl) (opF_cons (n := 1) rfl (by kernel_rfl) (op_int Tryz.underlying3) (opF_one (n := 1) rfl (by kernel_rfl) (op_string Tryz.underlying9)))) (fun _ => rfl) (fun _ h => h.2)
theorem oS70 : OpM Tryz.prog kit 70 1 (fun l : List (M2.D .t132) => [AV.row (Ty := M2.Ty) (D := M2.D) 0 M2.Ty.t132 l]) (fun xs => xs.length ≤ maxLen ∧ ∀ x ∈ xs, x.f1.size ≤ maxLen) := op_slice (te := M2.Ty.t132) Tryz.underlying70 (by kernel_rfl) (fun _ => rfl) (by decide) oE132
theorem oE72 : OpM Tryz.prog kit 72 1 (kit.emb .t72) (fun x : S72 => x.f2.length ≤ maxLen ∧ ∀ y ∈ x.f2, y.f1.size ≤ maxLen) := op_iso (fun p : Bool × Int × List S132 => (⟨p.1, p.2.1, p.2.2⟩ : S72)) (op_tuple Tryz.underlying72 (by kernel_rfl) (opF_cons (n := 1) rfl (by kernel_rfl) (op_bool Tryz.underlying4).up (opF_cons (n := 1) rfl (by kernel_rfl) (op_int Tryz.underlying3).up (opF_one (n := 1) rfl (by kernel_rfl) oS70)))) (fun _ => rfl) (fun _ h => ⟨h.2.2.1, h.2.2.2⟩)
theorem oS22 : OpM Tryz.prog kit 22 2 (fun l : List (M2.D .t72) => [AV.row (Ty := M2.Ty) (D := M2.D) 0 M2.Ty.t72 l]) (fun xs => xs.length ≤ maxLen ∧ ∀ x ∈ xs, x.f2.length ≤ maxLen ∧ ∀ y ∈ x.f2, y.f1.size ≤ maxLen) := op_slice (te := M2.Ty.t72) Tryz.underlying22 (by kernel_rfl) (fun _ => rfl) (by decide) oE72
theorem oE87 : OpM Tryz.prog kit 87 0 (kit.emb .t87) (fun x : S87 => True) := op_iso (fun p : Int × Int => (⟨p.1, p.2⟩ : S87)) (op_tuple Tryz.underlying87 (by kernel_rfl) (opF_cons (n := 1) rfl (by kernel_rfl) (op_int Tryz.underlying3) (opF_one (n := 1) rfl (by kernel_rfl) (op_int Tryz.underlying3)))) (fun _ => rfl) (fun _ h => trivial)
theorem oS25 : OpM Tryz.prog kit 25 1 (fun l : List (M2.D .t87) => [AV.row (Ty := M2.Ty) (D := M2.D) 0 M2.Ty.t87 l]) (fun xs => xs.length ≤ maxLen ∧ ∀ x ∈ xs, True) := op_slice (te := M2.Ty.t87) Tryz.underlying25 (by kernel_rfl) (fun _ => rfl) (by decide) oE87
theorem oE3 : OpM Tryz.prog kit 3 0 (kit.emb .t3) (fun x : Int => True) := op_iso (fun x : Int => x) (op_int Tryz.underlying3) (fun _ => rfl) (fun _ h => trivial)
theorem oS56 : OpM Tryz.prog kit 56 1 (fun l : List (M2.D .t3) => [AV.row (Ty := M2.Ty) (D := M2.D) 0 M2.Ty.t3 l]) (fun xs => xs.length ≤ maxLen ∧ ∀ x ∈ xs, True) := op_slice (te := M2.Ty.t3) Tryz.underlying56 (by kernel_rfl) (fun _ => rfl) (by decide) oE3
theorem oE101 : OpM Tryz.prog kit 101 1 (kit.emb .t101) (fun x : S101 => x.f1.length ≤ maxLen) := op_iso (fun p : Bool × List Int => (⟨p.1, p.2⟩ : S101)) (op_tuple Tryz.underlying101 (by kernel_rfl) (opF_cons (n := 1) rfl (by kernel_rfl) (op_bool Tryz.underlying4).up (opF_one (n := 1) rfl (by kernel_rfl) oS56))) (fun _ => rfl) (fun _ h => h.2.1)
theorem oS26 : OpM Tryz.prog kit 26 2 (fun l : List (M2.D .t101) => [AV.row (Ty := M2.Ty) (D := M2.D) 0 M2.Ty.t101 l]) (fun xs => xs.length ≤ maxLen ∧ ∀ x ∈ xs, x.f1.length ≤ maxLen) := op_slice (te := M2.Ty.t101) Tryz.underlying26 (by kernel_rfl) (fun _ => rfl) (by decide) oE101
set_option maxRecDepth 100000 in
set_option maxHeartbeats 4000000 in
theorem lifted (os : Os) (started : os.Started) (H : Type) (enc : TypeId × Value → H) :
    ReturnsInHanded {} Tryz.checked os 3 .any (Rows.fnExactNeededOnSpec.pre6 enc Tryz.prog Tryz.f3 Rows.fnExactNeededOnRow.domain false) (Rows.fnExactNeededOnSpec.post enc Tryz.prog Tryz.f3 false true false false) := by
  refine returnsInHanded_of_change_sized (C := Tryz.checked) own started (by kernel_rfl) Tryz.func3
    (ChangeSpec.witness6 (enc := enc) (C := Tryz.checked) false ⟨#[], #[.agg #[.slice none 0 0], .agg #[.slice none 0 0, .slice none 0 0, .int .i64 0], .int .i64 0, .int .i64 0], []⟩ 8 (by kernel_rfl) (by kernel_rfl) (by kernel_rfl) (by kernel_rfl)) ?_
  intro W base args ds gs before hval0 hW hcnd hsz0 _
  have hval : ∀ (j : Nat) t v, Tryz.f3.params[j]? = some t → args[j]? = some v → Value.okWide Tryz.prog W .any base t v := hval0
  have hW' := hW
  obtain ⟨p, q, hA0, hV, rfl, hfz, hnd⟩ := hW
  have hA : DataW.TrodAll enc Tryz.prog W 0 (fun _ => true) true Tryz.f3.params.toList args.toList ds p := hA0
  rw [Tryz.params3] at hA hval
  obtain ⟨v0, vs0, d0, ds0, p0, q0, hargs, rfl, rfl, h0, r0⟩ := trodAll_cons hA
  obtain ⟨v1, vs1, d1, ds1, p1, q1, rfl, rfl, rfl, h1, r1⟩ := trodAll_cons r0
  obtain ⟨v2, vs2, d2, ds2, p2, q2, rfl, rfl, rfl, h2, r2⟩ := trodAll_cons r1
  obtain ⟨v3, vs3, d3, ds3, p3, q3, rfl, rfl, rfl, h3, r3⟩ := trodAll_cons r2
  obtain ⟨rfl, rfl, rfl⟩ := trodAll_nil r3
  obtain rfl : args = #[v0, v1, v2, v3] := by cases args; simp_all
  obtain ⟨rfl, rfl⟩ := trodVars_none hV
  have k0 := h0
  have lt0 : ∀ x ∈ p0, x.block < W.heap.size := by obtain ⟨m, hm⟩ := k0; exact DataW.trod_lt m _ _ _ hm
  obtain ⟨fu0, hf0⟩ := h0
  obtain ⟨y0, K0, Y0⟩ := (op_tuple Tryz.underlying24 (by kernel_rfl) (opF_one (n := 1) rfl (by kernel_rfl) oS22)) H enc W 0 (fun _ => true) true fu0 _ _ hf0
  obtain ⟨cs0, rfl, sz0⟩ := okWide_struct Tryz.underlying24 (hval 0 24 v0 rfl rfl)
  have k1 := h1
  have lt1 : ∀ x ∈ p1, x.block < W.heap.size := by obtain ⟨m, hm⟩ := k1; exact DataW.trod_lt m _ _ _ hm
  obtain ⟨fu1, hf1⟩ := h1
  obtain ⟨y1, K1, Y1⟩ := (op_tuple Tryz.underlying30 (by kernel_rfl) (opF_cons (n := 1) rfl (by kernel_rfl) oS25.up (opF_cons (n := 1) rfl (by kernel_rfl) (op_tuple Tryz.underlying28 (by kernel_rfl) (opF_one (n := 1) rfl (by kernel_rfl) oS26)) (opF_one (n := 1) rfl (by kernel_rfl) (op_int Tryz.underlying3).up.up)))) H enc W 0 (fun _ => true) true fu1 _ _ hf1
  obtain ⟨cs1, rfl, sz1⟩ := okWide_struct Tryz.underlying30 (hval 1 30 v1 rfl rfl)
  have k2 := h2
  have lt2 : ∀ x ∈ p2, x.block < W.heap.size := by obtain ⟨m, hm⟩ := k2; exact DataW.trod_lt m _ _ _ hm
  obtain ⟨fu2, hf2⟩ := h2
  obtain ⟨y2, K2, Y2⟩ := (op_int Tryz.underlying3) H enc W 0 (fun _ => true) true fu2 _ _ hf2
  obtain ⟨b2, rfl⟩ := okWide_int Tryz.underlying3 (hval 2 3 v2 rfl rfl)
  have k3 := h3
  have lt3 : ∀ x ∈ p3, x.block < W.heap.size := by obtain ⟨m, hm⟩ := k3; exact DataW.trod_lt m _ _ _ hm
  obtain ⟨fu3, hf3⟩ := h3
  obtain ⟨y3, K3, Y3⟩ := (op_int Tryz.underlying3) H enc W 0 (fun _ => true) true fu3 _ _ hf3
  obtain ⟨b3, rfl⟩ := okWide_int Tryz.underlying3 (hval 3 3 v3 rfl rfl)

  obtain ⟨k, hp⟩ := M2.Mp.evx_out (M2.Mp.fnExactNeededOnX y0 y1.1 y1.2.1 y1.2.2 y2 y3 (Y0.1) (Y0.2) (Y1.1.1) (Y1.2.1.1) (Y1.2.1.2))
  have con : Contract Tryz.prog kit 3 [.ag [.row 0 .t72 y0], .ag [.row 0 .t87 y1.1, .row 0 .t101 y1.2.1, .sc (.int .i64 y1.2.2)], .sc (.int .i64 y2), .sc (.int .i64 y3)] [] (.sc (.bool true)) [] [] := M2.laws_FnExactNeededOn.con k y0 y1.1 y1.2.1 y1.2.2 y2 y3 true hp
  refine (top con W #[.agg cs0, .agg cs1, .int .i64 b2, .int .i64 b3] rfl (fun j u x hu hx => by
    match j, hu, hx with
    | 0, hu, hx => simp only [List.getElem?_cons_zero, List.getElem?_cons_succ, List.getElem?_toArray, Option.some.injEq] at hu hx; subst hu hx; exact ⟨by simp, (va_ag (cs := cs0.toList) K0)⟩
    | 1, hu, hx => simp only [List.getElem?_cons_zero, List.getElem?_cons_succ, List.getElem?_toArray, Option.some.injEq] at hu hx; subst hu hx; exact ⟨by simp, (va_ag (cs := cs1.toList) K1)⟩
    | 2, hu, hx => simp only [List.getElem?_cons_zero, List.getElem?_cons_succ, List.getElem?_toArray, Option.some.injEq] at hu hx; subst hu hx; exact ⟨by simp, (va_sc K2)⟩
    | 3, hu, hx => simp only [List.getElem?_cons_zero, List.getElem?_cons_succ, List.getElem?_toArray, Option.some.injEq] at hu hx; subst hu hx; exact ⟨by simp, (va_sc K3)⟩
    | j + 4, hu, _ => simp at hu)).mono fun e W' ⟨he, bel⟩ => ?_
  subst he
  exact ⟨_, rfl, _, _, _, [], _, [], hW', trodAll_mk1 (shut_bool Tryz.underlying4 _), (trodAll_cons_mk (Below.trod laidOut (by kernel_rfl) (of_decide_eq_true (by kernel_rfl)) k0 bel lt0) (trodAll_cons_mk (Below.trod laidOut (by kernel_rfl) (of_decide_eq_true (by kernel_rfl)) k1 bel lt1) (trodAll_cons_mk (Below.trod laidOut (by kernel_rfl) (of_decide_eq_true (by kernel_rfl)) k2 bel lt2) (trodAll_cons_mk (Below.trod laidOut (by kernel_rfl) (of_decide_eq_true (by kernel_rfl)) k3 bel lt3) trodAll_mk0)))), rfl, bel.frame _, fun h => by cases h⟩
theorem over : Rows.fnExactNeededOnRow.holds Tryz.pinned (OpenSpec.ofChange Rows.fnExactNeededOnSpec) :=
  OpenClaim.holds_of_wide 3 Tryz.f3 rfl rfl rfl rfl rfl rfl rfl ⟨rfl, rfl, rfl, rfl, rfl⟩ rfl rfl rfl rfl rfl (by kernel_rfl) Tryz.func3 (by kernel_rfl)
    (of_decide_eq_true (by kernel_rfl)) (by unfold Func.isWrapper; first | (rw [if_pos (by decide +kernel)]; kernel_rfl) | (rw [if_neg (by decide +kernel)]; exact ⟨rfl, rfl⟩))
    (fun os started H enc _ => lifted os started H enc)
end Go.Proofs.YtibhkbljjnlpjaaGreat.fnExactNeededOn
namespace Go.Proofs.YtibhkbljjnlpjaaGreat
/-- The row, under a short name, for the claim. -/
theorem fnExactNeededOn_holds : Rows.FnExactNeededOnSaid := fnExactNeededOn.over
end Go.Proofs.YtibhkbljjnlpjaaGreat
