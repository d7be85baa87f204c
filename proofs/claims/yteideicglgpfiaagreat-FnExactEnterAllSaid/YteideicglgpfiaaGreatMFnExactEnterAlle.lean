/- FnExactEnterAll: functions of the translation as Lean functions with what their calls come to, plain lemmas on them, and, at the end, the row. Parts of one proof, merged by a program of this session; each part's own sentence stands at its head. -/
import Derived.Below
import Derived.ChangeArms
import Derived.DataReads
import Derived.Test.YteideicglgpfiaaGreatRows
import Derived.WalkKit
import Derived.ProofKit
import Derived.OpenShut
import Derived.ShutString
import Derived.ChangeOld
import Derived.SizedLaws
import Derived.ChangeSlices
import Derived.Test.YteideicglgpfiaaGreatMFnExactEnterAlld
namespace Go.Proofs.YteideicglgpfiaaGreat.M2
open Go Go.RowKit Go.Proofs.YteideicglgpfiaaGreatW.PrintWords Go.Proofs.YteideicglgpfiaaGreat.PK
set_option linter.unusedVariables false
set_option linter.unusedSimpArgs false
theorem laws_eqIntS.rel_l (k : Nat) : (∀ x0 x1 x5 r,PK.laws_eqIntS.l0 k x0 x1 x5 = some r → ∀ m,k ≤ m → laws_eqIntS.c4 m x0 x1 x5 = some r):=by
 induction k using Nat.strongRecOn with
 | _ k ih =>
 have il0:=fun k' hk'=>(ih k' hk');clear ih;intro x0 x1 x5 r h m hm;cases k with
 | zero=>simp only [PK.laws_eqIntS.l0] at h;cases h
 | succ k =>
  obtain ⟨m,rfl⟩ : ∃ m',m = m' + 1:=⟨m - 1,by omega⟩;rw [PK.laws_eqIntS.l0] at h;rw [laws_eqIntS.c4]
  try simp only [w64_eq,wu8_eq,gt_iff_lt,ge_iff_le,int_beq,fdiv33,fdiv45,bt_eq,tmodN,rdOfB,rdOfL] at h
  try simp only [shlR]
  try simp only [w64_eq,wu8_eq,gt_iff_lt,ge_iff_le,int_beq,fdiv33,fdiv45,bt_eq,tmodN,rdOfB,rdOfL,rdT3_eq,seq,maxI,minI,emp_eq,rdn71,rdn3,rdn79,rdn56,rdn80,rdn69,rdn4,rdn52]
  refine (itE h (fun q h=>(itE h (fun q h=>(itE h (fun q h=>(itE h (fun q h=>((fun h=>?_) (il0 _ (by omega) _ _ _ _ h m (by omega)))) (fun q h=>?_))) (fun q h=>(noE h)))) (fun q h=>(noE h)))) (fun q h=>?_))
  all_goals clear il0
  all_goals (try cases h)
  all_goals (try simp only [*,if_true,if_false,↓reduceIte,Option.bind_some,List.length_cons,List.length_nil,List.length_append,Bool.not_true,Bool.not_false,Bool.true_eq_false,Bool.false_eq_true])
  all_goals (repeat first | rw [if_pos (by omega)] | rw [if_neg (by omega)])
  all_goals first | exact h | apply h | rfl | (simp_all [-Bool.forall_bool];done) | (simp_all [-Bool.forall_bool];first | exact h | apply h) | (simp_all [-Bool.forall_bool,emp_eq,int_beq];done) | (simp_all [-Bool.forall_bool];(intros;simp_all;done)) | (simp_all [-Bool.forall_bool,rdset71,rdset3,rdset79,rdset56,rdset80,rdset69,rdset4,rdset52];done) | grind
theorem laws_eqIntS.rel (k : Nat) (l0 : List Int) (l1 : List Int) (r) (h : PK.laws_eqIntS.f k l0 l1 = some r) (m : Nat) (hm : k ≤ m) : laws_eqIntS.f m l0 l1 = some r:=by
 have il0:=fun k' (_ : k' < k + 1)=>(laws_eqIntS.rel_l k');rw [PK.laws_eqIntS.f] at h;rw [laws_eqIntS.f]
 try simp only [w64_eq,wu8_eq,gt_iff_lt,ge_iff_le,int_beq,fdiv33,fdiv45,bt_eq,tmodN,rdOfB,rdOfL] at h
 try simp only [shlR]
 try simp only [w64_eq,wu8_eq,gt_iff_lt,ge_iff_le,int_beq,fdiv33,fdiv45,bt_eq,tmodN,rdOfB,rdOfL,rdT3_eq,seq,maxI,minI,emp_eq,rdn71,rdn3,rdn79,rdn56,rdn80,rdn69,rdn4,rdn52]
 refine (itE h (fun q h=>((fun h=>?_) (il0 _ (by omega) _ _ _ _ h m (by omega)))) (fun q h=>?_))
 all_goals clear il0
 all_goals (try cases h)
 all_goals (try simp only [*,if_true,if_false,↓reduceIte,Option.bind_some,List.length_cons,List.length_nil,List.length_append,Bool.not_true,Bool.not_false,Bool.true_eq_false,Bool.false_eq_true])
 all_goals (repeat first | rw [if_pos (by omega)] | rw [if_neg (by omega)])
 all_goals first | exact h | apply h | rfl | (simp_all [-Bool.forall_bool];done) | (simp_all [-Bool.forall_bool];first | exact h | apply h) | (simp_all [-Bool.forall_bool,emp_eq,int_beq];done) | (simp_all [-Bool.forall_bool];(intros;simp_all;done)) | (simp_all [-Bool.forall_bool,rdset71,rdset3,rdset79,rdset56,rdset80,rdset69,rdset4,rdset52];done) | grind
theorem laws_eqKnot.rel (k : Nat) (a0_0 : Bool) (l0_1 : List Int) (a1_0 : Bool) (l1_1 : List Int) (r) (h : PK.laws_eqKnot.f k a0_0 l0_1 a1_0 l1_1 = some r) (m : Nat) (hm : k ≤ m) : laws_eqKnot.f m a0_0 l0_1 a1_0 l1_1 = some r:=by
 rw [PK.laws_eqKnot.f] at h;rw [laws_eqKnot.f]
 try simp only [w64_eq,wu8_eq,gt_iff_lt,ge_iff_le,int_beq,fdiv33,fdiv45,bt_eq,tmodN,rdOfB,rdOfL] at h
 try simp only [shlR]
 try simp only [w64_eq,wu8_eq,gt_iff_lt,ge_iff_le,int_beq,fdiv33,fdiv45,bt_eq,tmodN,rdOfB,rdOfL,rdT3_eq,seq,maxI,minI,emp_eq,rdn71,rdn3,rdn79,rdn56,rdn80,rdn69,rdn4,rdn52]
 refine (itE h (fun q h=>?_) (fun q h=>(bnE h (fun _ g h=>(fun g=>(itE h (fun q h=>?_) (fun q h=>?_))) (laws_eqIntS.rel _ _ _ _ g m (by omega))))))
 all_goals (try cases h)
 all_goals (try simp only [*,if_true,if_false,↓reduceIte,Option.bind_some,List.length_cons,List.length_nil,List.length_append,Bool.not_true,Bool.not_false,Bool.true_eq_false,Bool.false_eq_true])
 all_goals (repeat first | rw [if_pos (by omega)] | rw [if_neg (by omega)])
 all_goals first | exact h | apply h | rfl | (simp_all [-Bool.forall_bool];done) | (simp_all [-Bool.forall_bool];first | exact h | apply h) | (simp_all [-Bool.forall_bool,emp_eq,int_beq];done) | (simp_all [-Bool.forall_bool];(intros;simp_all;done)) | (simp_all [-Bool.forall_bool,rdset71,rdset3,rdset79,rdset56,rdset80,rdset69,rdset4,rdset52];done) | grind
theorem laws_eqKnotS.rel_l (k : Nat) : (∀ x0 x1 x5 r,PK.laws_eqKnotS.l0 k x0 x1 x5 = some r → ∀ m,k ≤ m → laws_eqKnotS.c4 m x0 x1 x5 = some r):=by
 induction k using Nat.strongRecOn with
 | _ k ih =>
 have il0:=fun k' hk'=>(ih k' hk');clear ih;intro x0 x1 x5 r h m hm;cases k with
 | zero=>simp only [PK.laws_eqKnotS.l0] at h;cases h
 | succ k =>
  obtain ⟨m,rfl⟩ : ∃ m',m = m' + 1:=⟨m - 1,by omega⟩;rw [PK.laws_eqKnotS.l0] at h;rw [laws_eqKnotS.c4]
  try simp only [w64_eq,wu8_eq,gt_iff_lt,ge_iff_le,int_beq,fdiv33,fdiv45,bt_eq,tmodN,rdOfB,rdOfL] at h
  try simp only [shlR]
  try simp only [w64_eq,wu8_eq,gt_iff_lt,ge_iff_le,int_beq,fdiv33,fdiv45,bt_eq,tmodN,rdOfB,rdOfL,rdT3_eq,seq,maxI,minI,emp_eq,rdn71,rdn3,rdn79,rdn56,rdn80,rdn69,rdn4,rdn52]
  refine (itE h (fun q h=>(itE h (fun q h=>(itE h (fun q h=>(bnE h (fun _ g h=>(fun g=>(itE h (fun q h=>((fun h=>?_) (il0 _ (by omega) _ _ _ _ h m (by omega)))) (fun q h=>?_))) (laws_eqKnot.rel _ _ _ _ _ _ g m (by omega))))) (fun q h=>(noE h)))) (fun q h=>(noE h)))) (fun q h=>?_))
  all_goals clear il0
  all_goals (try cases h)
  all_goals (try simp only [*,if_true,if_false,↓reduceIte,Option.bind_some,List.length_cons,List.length_nil,List.length_append,Bool.not_true,Bool.not_false,Bool.true_eq_false,Bool.false_eq_true])
  all_goals (repeat first | rw [if_pos (by omega)] | rw [if_neg (by omega)])
  all_goals first | exact h | apply h | rfl | (simp_all [-Bool.forall_bool];done) | (simp_all [-Bool.forall_bool];first | exact h | apply h) | (simp_all [-Bool.forall_bool,emp_eq,int_beq];done) | (simp_all [-Bool.forall_bool];(intros;simp_all;done)) | (simp_all [-Bool.forall_bool,rdset71,rdset3,rdset79,rdset56,rdset80,rdset69,rdset4,rdset52];done) | grind
theorem laws_eqKnotS.rel (k : Nat) (l0 : List (S80)) (l1 : List (S80)) (r) (h : PK.laws_eqKnotS.f k l0 l1 = some r) (m : Nat) (hm : k ≤ m) : laws_eqKnotS.f m l0 l1 = some r:=by
 have il0:=fun k' (_ : k' < k + 1)=>(laws_eqKnotS.rel_l k');rw [PK.laws_eqKnotS.f] at h;rw [laws_eqKnotS.f]
 try simp only [w64_eq,wu8_eq,gt_iff_lt,ge_iff_le,int_beq,fdiv33,fdiv45,bt_eq,tmodN,rdOfB,rdOfL] at h
 try simp only [shlR]
 try simp only [w64_eq,wu8_eq,gt_iff_lt,ge_iff_le,int_beq,fdiv33,fdiv45,bt_eq,tmodN,rdOfB,rdOfL,rdT3_eq,seq,maxI,minI,emp_eq,rdn71,rdn3,rdn79,rdn56,rdn80,rdn69,rdn4,rdn52]
 refine (itE h (fun q h=>((fun h=>?_) (il0 _ (by omega) _ _ _ _ h m (by omega)))) (fun q h=>?_))
 all_goals clear il0
 all_goals (try cases h)
 all_goals (try simp only [*,if_true,if_false,↓reduceIte,Option.bind_some,List.length_cons,List.length_nil,List.length_append,Bool.not_true,Bool.not_false,Bool.true_eq_false,Bool.false_eq_true])
 all_goals (repeat first | rw [if_pos (by omega)] | rw [if_neg (by omega)])
 all_goals first | exact h | apply h | rfl | (simp_all [-Bool.forall_bool];done) | (simp_all [-Bool.forall_bool];first | exact h | apply h) | (simp_all [-Bool.forall_bool,emp_eq,int_beq];done) | (simp_all [-Bool.forall_bool];(intros;simp_all;done)) | (simp_all [-Bool.forall_bool,rdset71,rdset3,rdset79,rdset56,rdset80,rdset69,rdset4,rdset52];done) | grind
end Go.Proofs.YteideicglgpfiaaGreat.M2

namespace Go.Proofs.YteideicglgpfiaaGreat.M2
open Go Go.RowKit Go.Proofs.YteideicglgpfiaaGreatW.PrintWords Go.Proofs.YteideicglgpfiaaGreat.PK
set_option linter.unusedVariables false
set_option linter.unusedSimpArgs false
theorem laws_eqArena.rel (k : Nat) (l0_0 : List (S80)) (l1_0 : List (S80)) (r) (h : PK.laws_eqArena.f k l0_0 l1_0 = some r) (m : Nat) (hm : k ≤ m) : laws_eqArena.f m l0_0 l1_0 = some r:=by
 rw [PK.laws_eqArena.f] at h;rw [laws_eqArena.f]
 try simp only [w64_eq,wu8_eq,gt_iff_lt,ge_iff_le,int_beq,fdiv33,fdiv45,bt_eq,tmodN,rdOfB,rdOfL] at h
 try simp only [shlR]
 try simp only [w64_eq,wu8_eq,gt_iff_lt,ge_iff_le,int_beq,fdiv33,fdiv45,bt_eq,tmodN,rdOfB,rdOfL,rdT3_eq,seq,maxI,minI,emp_eq,rdn71,rdn3,rdn79,rdn56,rdn80,rdn69,rdn4,rdn52]
 refine (bnE h (fun _ g h=>(fun g=>(itE h (fun q h=>?_) (fun q h=>?_))) (laws_eqKnotS.rel _ _ _ _ g m (by omega))))
 all_goals (try cases h)
 all_goals (try simp only [*,if_true,if_false,↓reduceIte,Option.bind_some,List.length_cons,List.length_nil,List.length_append,Bool.not_true,Bool.not_false,Bool.true_eq_false,Bool.false_eq_true])
 all_goals (repeat first | rw [if_pos (by omega)] | rw [if_neg (by omega)])
 all_goals first | exact h | apply h | rfl | (simp_all [-Bool.forall_bool];done) | (simp_all [-Bool.forall_bool];first | exact h | apply h) | (simp_all [-Bool.forall_bool,emp_eq,int_beq];done) | (simp_all [-Bool.forall_bool];(intros;simp_all;done)) | (simp_all [-Bool.forall_bool,rdset71,rdset3,rdset79,rdset56,rdset80,rdset69,rdset4,rdset52];done) | grind
theorem laws_eqStore.rel (k : Nat) (l0_0 : List (S69)) (l0_1 : List (S80)) (a0_2 : Int) (l1_0 : List (S69)) (l1_1 : List (S80)) (a1_2 : Int) (r) (h : PK.laws_eqStore.f k l0_0 l0_1 a0_2 l1_0 l1_1 a1_2 = some r) (m : Nat) (hm : k ≤ m) : laws_eqStore.f m l0_0 l0_1 a0_2 l1_0 l1_1 a1_2 = some r:=by
 rw [PK.laws_eqStore.f] at h;rw [laws_eqStore.f]
 try simp only [w64_eq,wu8_eq,gt_iff_lt,ge_iff_le,int_beq,fdiv33,fdiv45,bt_eq,tmodN,rdOfB,rdOfL] at h
 try simp only [shlR]
 try simp only [w64_eq,wu8_eq,gt_iff_lt,ge_iff_le,int_beq,fdiv33,fdiv45,bt_eq,tmodN,rdOfB,rdOfL,rdT3_eq,seq,maxI,minI,emp_eq,rdn71,rdn3,rdn79,rdn56,rdn80,rdn69,rdn4,rdn52]
 refine (bnE h (fun _ g h=>(fun g=>(itE h (fun q h=>(bnE h (fun _ g h=>(fun g=>(itE h (fun q h=>(itE h (fun q h=>?_) (fun q h=>?_))) (fun q h=>?_))) (laws_eqArena.rel _ _ _ _ g m (by omega))))) (fun q h=>?_))) (laws_eqVolS.rel _ _ _ _ g m (by omega))))
 all_goals (try cases h)
 all_goals (try simp only [*,if_true,if_false,↓reduceIte,Option.bind_some,List.length_cons,List.length_nil,List.length_append,Bool.not_true,Bool.not_false,Bool.true_eq_false,Bool.false_eq_true])
 all_goals (repeat first | rw [if_pos (by omega)] | rw [if_neg (by omega)])
 all_goals first | exact h | apply h | rfl | (simp_all [-Bool.forall_bool];done) | (simp_all [-Bool.forall_bool];first | exact h | apply h) | (simp_all [-Bool.forall_bool,emp_eq,int_beq];done) | (simp_all [-Bool.forall_bool];(intros;simp_all;done)) | (simp_all [-Bool.forall_bool,rdset71,rdset3,rdset79,rdset56,rdset80,rdset69,rdset4,rdset52];done) | grind
theorem laws_szRecS.rel (k : Nat) (l0 : List (S56)) (a1 : Int) (r) (h : PK.laws_szRecS.f l0 a1 = some r) (m : Nat) (hm : k ≤ m) : laws_szRecS.f m l0 a1 = some r:=by
 rw [PK.laws_szRecS.f] at h;rw [laws_szRecS.f]
 try simp only [w64_eq,wu8_eq,gt_iff_lt,ge_iff_le,int_beq,fdiv33,fdiv45,bt_eq,tmodN,rdOfB,rdOfL] at h
 try simp only [shlR]
 try simp only [w64_eq,wu8_eq,gt_iff_lt,ge_iff_le,int_beq,fdiv33,fdiv45,bt_eq,tmodN,rdOfB,rdOfL,rdT3_eq,seq,maxI,minI,emp_eq,rdn71,rdn3,rdn79,rdn56,rdn80,rdn69,rdn4,rdn52]
 refine (itE h (fun q h=>?_) (fun q h=>?_))
 all_goals (try cases h)
 all_goals (try simp only [*,if_true,if_false,↓reduceIte,Option.bind_some,List.length_cons,List.length_nil,List.length_append,Bool.not_true,Bool.not_false,Bool.true_eq_false,Bool.false_eq_true])
 all_goals (repeat first | rw [if_pos (by omega)] | rw [if_neg (by omega)])
 all_goals first | exact h | apply h | rfl | (simp_all [-Bool.forall_bool];done) | (simp_all [-Bool.forall_bool];first | exact h | apply h) | (simp_all [-Bool.forall_bool,emp_eq,int_beq];done) | (simp_all [-Bool.forall_bool];(intros;simp_all;done)) | (simp_all [-Bool.forall_bool,rdset71,rdset3,rdset79,rdset56,rdset80,rdset69,rdset4,rdset52];done) | grind
theorem laws_toRec.rel (k : Nat) (a0_0 : Int) (a0_1 : Int) (a0_2 : Int) (a0_3 : Int) (r) (h : PK.laws_toRec.f a0_0 a0_1 a0_2 a0_3 = some r) (m : Nat) (hm : k ≤ m) : laws_toRec.f m a0_0 a0_1 a0_2 a0_3 = some (r.1,r.2.1,r.2.2.1,r.2.2.2):=by
 rw [PK.laws_toRec.f] at h;rw [laws_toRec.f]
 try simp only [w64_eq,wu8_eq,gt_iff_lt,ge_iff_le,int_beq,fdiv33,fdiv45,bt_eq,tmodN,rdOfB,rdOfL] at h
 try simp only [shlR]
 try simp only [w64_eq,wu8_eq,gt_iff_lt,ge_iff_le,int_beq,fdiv33,fdiv45,bt_eq,tmodN,rdOfB,rdOfL,rdT3_eq,seq,maxI,minI,emp_eq,rdn71,rdn3,rdn79,rdn56,rdn80,rdn69,rdn4,rdn52]
 refine ?_
 all_goals (try cases h)
 all_goals (try simp only [*,if_true,if_false,↓reduceIte,Option.bind_some,List.length_cons,List.length_nil,List.length_append,Bool.not_true,Bool.not_false,Bool.true_eq_false,Bool.false_eq_true])
 all_goals (repeat first | rw [if_pos (by omega)] | rw [if_neg (by omega)])
 all_goals first | exact h | apply h | rfl | (simp_all [-Bool.forall_bool];done) | (simp_all [-Bool.forall_bool];first | exact h | apply h) | (simp_all [-Bool.forall_bool,emp_eq,int_beq];done) | (simp_all [-Bool.forall_bool];(intros;simp_all;done)) | (simp_all [-Bool.forall_bool,rdset71,rdset3,rdset79,rdset56,rdset80,rdset69,rdset4,rdset52];done) | grind
theorem laws_toRecS.rel_l (k : Nat) : (∀ x0 x3 x4 r,PK.laws_toRecS.l0 k x0 x3 x4 = some r → ∀ m,k ≤ m → laws_toRecS.c3 m x0 x4 x3 = some r):=by
 induction k using Nat.strongRecOn with
 | _ k ih =>
 have il0:=fun k' hk'=>(ih k' hk');clear ih;intro x0 x3 x4 r h m hm;cases k with
 | zero=>simp only [PK.laws_toRecS.l0] at h;cases h
 | succ k =>
  obtain ⟨m,rfl⟩ : ∃ m',m = m' + 1:=⟨m - 1,by omega⟩;rw [PK.laws_toRecS.l0] at h;rw [laws_toRecS.c3]
  try simp only [w64_eq,wu8_eq,gt_iff_lt,ge_iff_le,int_beq,fdiv33,fdiv45,bt_eq,tmodN,rdOfB,rdOfL] at h
  try simp only [shlR]
  try simp only [w64_eq,wu8_eq,gt_iff_lt,ge_iff_le,int_beq,fdiv33,fdiv45,bt_eq,tmodN,rdOfB,rdOfL,rdT3_eq,seq,maxI,minI,emp_eq,rdn71,rdn3,rdn79,rdn56,rdn80,rdn69,rdn4,rdn52]
  refine (itE h (fun q h=>(itE h (fun q h=>(bnE h (fun _ g h=>(fun g=>(itE h (fun q h=>((fun h=>?_) (il0 _ (by omega) _ _ _ _ h m (by omega)))) (fun q h=>(noE h)))) (laws_toRec.rel m _ _ _ _ _ g m (by omega))))) (fun q h=>(noE h)))) (fun q h=>?_))
  all_goals clear il0
  all_goals (try cases h)
  all_goals (try simp only [*,if_true,if_false,↓reduceIte,Option.bind_some,List.length_cons,List.length_nil,List.length_append,Bool.not_true,Bool.not_false,Bool.true_eq_false,Bool.false_eq_true])
  all_goals (repeat first | rw [if_pos (by omega)] | rw [if_neg (by omega)])
  all_goals first | exact h | apply h | rfl | (simp_all [-Bool.forall_bool];done) | (simp_all [-Bool.forall_bool];first | exact h | apply h) | (simp_all [-Bool.forall_bool,emp_eq,int_beq];done) | (simp_all [-Bool.forall_bool];(intros;simp_all;done)) | (simp_all [-Bool.forall_bool,rdset71,rdset3,rdset79,rdset56,rdset80,rdset69,rdset4,rdset52];done) | grind
theorem laws_toRecS.rel (k : Nat) (l0 : List (S56)) (r) (h : PK.laws_toRecS.f k l0 = some r) (m : Nat) (hm : k ≤ m) : laws_toRecS.f m l0 = some r:=by
 have il0:=fun k' (_ : k' < k + 1)=>(laws_toRecS.rel_l k');rw [PK.laws_toRecS.f] at h;rw [laws_toRecS.f]
 try simp only [w64_eq,wu8_eq,gt_iff_lt,ge_iff_le,int_beq,fdiv33,fdiv45,bt_eq,tmodN,rdOfB,rdOfL] at h
 try simp only [shlR]
 try simp only [w64_eq,wu8_eq,gt_iff_lt,ge_iff_le,int_beq,fdiv33,fdiv45,bt_eq,tmodN,rdOfB,rdOfL,rdT3_eq,seq,maxI,minI,emp_eq,rdn71,rdn3,rdn79,rdn56,rdn80,rdn69,rdn4,rdn52]
 refine (itE h (fun q h=>(itE h (fun q h=>((fun h=>?_) (il0 _ (by omega) _ _ _ _ h m (by omega)))) (fun q h=>(noE h)))) (fun q h=>(noE h)))
 all_goals clear il0
 all_goals (try cases h)
 all_goals (try simp only [*,if_true,if_false,↓reduceIte,Option.bind_some,List.length_cons,List.length_nil,List.length_append,Bool.not_true,Bool.not_false,Bool.true_eq_false,Bool.false_eq_true])
 all_goals (repeat first | rw [if_pos (by omega)] | rw [if_neg (by omega)])
 all_goals first | exact h | apply h | rfl | (simp_all [-Bool.forall_bool];done) | (simp_all [-Bool.forall_bool];first | exact h | apply h) | (simp_all [-Bool.forall_bool,emp_eq,int_beq];done) | (simp_all [-Bool.forall_bool];(intros;simp_all;done)) | (simp_all [-Bool.forall_bool,rdset71,rdset3,rdset79,rdset56,rdset80,rdset69,rdset4,rdset52];done) | grind
end Go.Proofs.YteideicglgpfiaaGreat.M2



namespace Go.Proofs.YteideicglgpfiaaGreat.Pu
set_option linter.unusedVariables false
set_option linter.unusedSimpArgs false
open Go.RowKit Go.Proofs.YteideicglgpfiaaGreatW.PrintWords
theorem w64 {x : Int} (h1 : -9223372036854775808 ≤ x) (h2 : x ≤ 9223372036854775807) : wrap64 x = x:=by
 unfold wrap64;omega
theorem wsucc {i n : Nat} (h : i < n) (hn : n ≤ 9223372036854775807) : wrap64 ((i : Int) + 1) = ((i + 1 : Nat) : Int):=by
 rw [w64 (by omega) (by omega)];rfl
theorem wf_i64 {n : Int} (h : (Lit.int .i64 n).wf = true) : -9223372036854775808 ≤ n ∧ n ≤ 9223372036854775807:=by
 simp only [Lit.wf,Bool.and_eq_true,decide_eq_true_eq] at h;have h1 : IntKind.min .i64 = -9223372036854775808:=by decide
 have h2 : IntKind.max .i64 = 9223372036854775807:=by decide
 omega
theorem ev_some {α : Type} {g : Nat → Option α} {r : α} (h : ∀ k,g (k + 1) = some r) : Ev g r:=Ev.step h (Ev.now r)
theorem ev_const {α : Type} {o : Option α} {r : α} (h : o = some r) : Ev (fun _=>o) r:=⟨0,fun _ _=>h⟩
theorem ev_bind {α β : Type} {g : Nat → Option α} {f : Nat → α → Option β} {a : α} {r : β} (h : Ev g a) (k : Ev (fun n=>f n a) r) : Ev (fun n=>(g n).bind (f n)) r:=Ev.bind h k
theorem ev_uniq {α : Type} {g : Nat → Option α} {a b : α} (h : Ev g a) (k : Ev g b) : a = b:=by
 obtain ⟨K,hK⟩:=h;obtain ⟨M,hM⟩:=k;have h1:=hK (max K M) (Nat.le_max_left _ _);rw [hM (max K M) (Nat.le_max_right _ _)] at h1;injection h1 with h1;exact h1.symm
theorem ev_ext {α : Type} {g f : Nat → Option α} {r : α} (h : ∀ k,g k = f k) (k : Ev f r) : Ev g r:=Ev.congr h k
theorem ev_fill {β : Type} {L : Nat → List β → Int → Option (List β)} {E : Nat → Int → Option β} {n : Nat} {e : Nat → β} (hn : n ≤ 9223372036854775807)
  (hs : ∀ k xs i,L (k + 1) xs i = if i < (n : Int) then (if 0 ≤ i then ((E k i).bind fun b=>if i < (xs.length : Int) then L k (xs.set i.toNat b) (wrap64 (i + 1)) else none) else none) else some xs)
  (hE : ∀ i,i < n → Ev (fun k=>E k (i : Int)) (e i)) :
  ∀ (d i : Nat) (xs : List β),xs.length = n → i + d = n → Ev (fun k=>L k xs (i : Int)) (xs.take i ++ (List.range' i d).map e):=by
 intro d
 induction d with
 | zero =>
  intro i xs hl hi;refine ev_some fun k=>?_;rw [hs,if_neg (by omega)];simp [List.take_of_length_le (show xs.length ≤ i by omega)]
 | succ d ih =>
  intro i xs hl hi;refine Ev.step (f:=fun k=>(E k (i : Int)).bind fun b=>L k (xs.set i b) ((i + 1 : Nat) : Int)) (fun k=>?_) ?_
  ·rw [hs,if_pos (by omega),if_pos (by omega),wsucc (n:=n) (by omega) hn]
   congr 1
   funext b
   rw [if_pos (by omega)];rfl
  refine ev_bind (hE i (by omega)) ?_;have h:=ih (i + 1) (xs.set i (e i)) (by rw [List.length_set];exact hl) (by omega)
  have e1 : (xs.set i (e i)).take (i + 1) ++ (List.range' (i + 1) d).map e = xs.take i ++ (List.range' i (d + 1)).map e:=by
   rw [List.range'_succ,List.map_cons,List.take_succ_eq_append_getElem (by rw [List.length_set];omega),List.getElem_set_self,List.take_set_of_le (Nat.le_refl _)];simp
  rw [e1] at h;exact h
theorem map_range {α β : Type} (l : List α) (z : α) (g : α → β) : (List.range' 0 l.length).map (fun i=>g (l.getD i z)) = l.map g:=by
 apply List.ext_getElem
 ·simp
 intro i h1 h2;simp only [List.length_map] at h2;simp [List.getD_eq_getElem?_getD,List.getElem?_eq_getElem h2]
theorem ev_fill_all {α β : Type} {L : Nat → List β → Int → Option (List β)} {E : Nat → Int → Option β} {l : List α} {z : α} {g : α → β} {xs : List β} (hn : l.length ≤ 9223372036854775807)
  (hs : ∀ k xs i,L (k + 1) xs i = if i < (l.length : Int) then (if 0 ≤ i then ((E k i).bind fun b=>if i < (xs.length : Int) then L k (xs.set i.toNat b) (wrap64 (i + 1)) else none) else none) else some xs)
  (hE : ∀ i,i < l.length → Ev (fun k=>E k (i : Int)) (g (l.getD i z))) (hx : xs.length = l.length) : Ev (fun k=>L k xs 0) (l.map g):=by
 have h:=ev_fill (e:=fun i=>g (l.getD i z)) hn hs hE l.length 0 xs hx (by omega);rw [map_range] at h
 simpa using h
theorem ev_all {L E : Nat → Int → Option Bool} {n m : Nat} (hn : n ≤ 9223372036854775807) (hnm : n ≤ m)
  (hs : ∀ k i,L (k + 1) i = if i < (n : Int) then (if 0 ≤ i then (if i < (m : Int) then ((E k i).bind fun b=>if b = true then L k (wrap64 (i + 1)) else some false) else none) else none) else some true)
  (hE : ∀ i,i < n → Ev (fun k=>E k (i : Int)) true) : ∀ (d i : Nat),i + d = n → Ev (fun k=>L k (i : Int)) true:=by
 intro d
 induction d with
 | zero=>intro i hi;exact ev_some fun k=>by rw [hs,if_neg (by omega)]
 | succ d ih =>
  intro i hi;refine Ev.step (f:=fun k=>(E k (i : Int)).bind fun b=>if b = true then L k ((i + 1 : Nat) : Int) else some false) (fun k=>?_) (ev_bind (hE i (by omega)) (by simpa using ih (i + 1) (by omega)));rw [hs,if_pos (by omega),if_pos (by omega),if_pos (by omega),wsucc (n:=n) (by omega) hn]
theorem ev_size {L E : Nat → Int → Int → Option Int} {n : Nat} {P : Nat → Prop} (hn : n ≤ 9223372036854775807)
  (hs : ∀ k a i,L (k + 1) a i = if i < (n : Int) then (if 0 ≤ i then ((E k i a).bind fun t=>if t < 0 then some (-1) else L k t (wrap64 (i + 1))) else none) else some a)
  (hE : ∀ i a,i < n → 0 ≤ a → a ≤ 1048576 → ∃ t,Ev (fun k=>E k (i : Int) a) t ∧ t ≤ a ∧ (0 ≤ t → P i)) :
  ∀ (d i : Nat) (a : Int),i + d = n → 0 ≤ a → a ≤ 1048576 → ∃ r,Ev (fun k=>L k a (i : Int)) r ∧ r ≤ a ∧ (0 ≤ r → ∀ m,i ≤ m → m < n → P m):=by
 intro d
 induction d with
 | zero=>intro i a hi h0 h1;exact ⟨a,ev_some fun k=>by rw [hs,if_neg (by omega)],Int.le_refl _,fun _ m h2 h3=>by omega⟩
 | succ d ih =>
  intro i a hi h0 h1;obtain ⟨t,ht,hta,hp⟩:=hE i a (by omega) h0 h1
  have hst : ∀ k,L (k + 1) a (i : Int) = (E k (i : Int) a).bind fun t=>if t < 0 then some (-1) else L k t ((i + 1 : Nat) : Int):=fun k=>by
   rw [hs,if_pos (by omega),if_pos (by omega),wsucc (n:=n) (by omega) hn]
  by_cases hneg : t < 0
  ·exact ⟨-1,Ev.step hst (ev_bind ht (by simp only [if_pos hneg];exact Ev.now _)),by omega,fun h=>by omega⟩
  obtain ⟨r,hr,hra,hq⟩:=ih (i + 1) t (by omega) (by omega) (by omega);refine ⟨r,Ev.step hst (ev_bind ht (by simp only [if_neg hneg];exact hr)),by omega,fun h0r m h2 h3=>?_⟩
  by_cases e : m = i
  ·subst e;exact hp (by omega)
  exact hq h0r m (by omega) h3
end Go.Proofs.YteideicglgpfiaaGreat.Pu

namespace Go.Proofs.YteideicglgpfiaaGreat.Pu
set_option linter.unusedVariables false
set_option linter.unusedSimpArgs false
open Go.RowKit Go.Proofs.YteideicglgpfiaaGreatW.PrintWords
theorem ev_scan {L : Nat → Int → Option Bool} {g : Nat → Option Bool} {n : Nat} {T : Nat → Bool} {r : Bool}
  (hs : ∀ k i,i < n → L (k + 1) (i : Int) = if T i = true then L k ((i + 1 : Nat) : Int) else some false) (he : ∀ k,L (k + 1) (n : Int) = g k) (hr : Ev g r) :
  ∀ (d i : Nat),i + d = n → Ev (fun k=>L k (i : Int)) ((List.range' i d).all T && r):=by
 intro d
 induction d with
 | zero =>
  intro i hi;obtain rfl : i = n:=by omega
  exact Ev.step he hr
 | succ d ih =>
  intro i hi;rw [List.range'_succ,List.all_cons]
  by_cases h : T i = true
  ·rw [h,Bool.true_and];exact Ev.step (fun k=>by rw [hs k i (by omega),if_pos h]) (ih (i + 1) (by omega))
  rw [Bool.eq_false_iff.mpr h,Bool.false_and,Bool.false_and];exact ev_some fun k=>by rw [hs k i (by omega),if_neg h]
theorem ev_outer {L : Nat → Int → Option Bool} {n : Nat} {T : Nat → Bool} {r0 : Bool}
  (hs : ∀ i r,i < n → Ev (fun k=>L k ((i + 1 : Nat) : Int)) r → Ev (fun k=>L k (i : Int)) (T i && r)) (he : Ev (fun k=>L k (n : Int)) r0) :
  ∀ (d i : Nat),i + d = n → Ev (fun k=>L k (i : Int)) ((List.range' i d).all T && r0):=by
 intro d
 induction d with
 | zero =>
  intro i hi;obtain rfl : i = n:=by omega
  exact he
 | succ d ih =>
  intro i hi;rw [List.range'_succ,List.all_cons,Bool.and_assoc];exact hs i _ (by omega) (ih (i + 1) (by omega))
theorem ev_fold {σ ρ : Type} {L : Nat → σ → Int → Option ρ} {n : Nat} {F : σ → Nat → σ} {fin : σ → ρ} (Inv : Nat → σ → Prop)
  (hs : ∀ s i,i < n → Inv i s → ∀ r,Ev (fun k=>L k (F s i) ((i + 1 : Nat) : Int)) r → Ev (fun k=>L k s (i : Int)) r) (hi : ∀ s i,i < n → Inv i s → Inv (i + 1) (F s i))
  (he : ∀ s,Inv n s → Ev (fun k=>L k s (n : Int)) (fin s)) : ∀ (d i : Nat) (s : σ),i + d = n → Inv i s → Ev (fun k=>L k s (i : Int)) (fin ((List.range' i d).foldl F s)):=by
 intro d
 induction d with
 | zero =>
  intro i s h hv;obtain rfl : i = n:=by omega
  exact he s hv
 | succ d ih =>
  intro i s h hv;rw [List.range'_succ,List.foldl_cons];exact hs s i (by omega) hv _ (ih (i + 1) (F s i) (by omega) (hi s i (by omega) hv))
def findI (T : Nat → Bool) : Nat → Nat → Int
 | _,0=>-1
 | i,d + 1=>if T i = true then (i : Int) else findI T (i + 1) d
theorem ev_find {L : Nat → Int → Option Int} {n : Nat} {T : Nat → Bool}
  (hy : ∀ i,i < n → T i = true → Ev (fun k=>L k (i : Int)) (i : Int)) (hn : ∀ i,i < n → T i = false → ∀ r,Ev (fun k=>L k ((i + 1 : Nat) : Int)) r → Ev (fun k=>L k (i : Int)) r)
  (he : Ev (fun k=>L k (n : Int)) (-1)) : ∀ (d i : Nat),i + d = n → Ev (fun k=>L k (i : Int)) (findI T i d):=by
 intro d
 induction d with
 | zero =>
  intro i hi;obtain rfl : i = n:=by omega
  exact he
 | succ d ih =>
  intro i hi;unfold findI
  by_cases h : T i = true
  ·rw [if_pos h];exact hy i (by omega) h
  rw [if_neg h];exact hn i (by omega) (Bool.eq_false_iff.mpr h) _ (ih (i + 1) (by omega))
theorem findI_range {T : Nat → Bool} : ∀ (d i : Nat),findI T i d = -1 ∨ ∃ j,i ≤ j ∧ j < i + d ∧ findI T i d = (j : Int) ∧ T j = true
 | 0,i=>.inl rfl
 | d + 1,i=>by
  unfold findI
  by_cases h : T i = true
  ·rw [if_pos h];exact .inr ⟨i,Nat.le_refl _,by omega,rfl,h⟩
  rw [if_neg h];rcases findI_range d (i + 1) with h1 | ⟨j,h1,h2,h3,h4⟩
  ·exact .inl h1
  exact .inr ⟨j,by omega,by omega,h3,h4⟩
theorem bytes_empty (a : ByteArray) : (a.toList == ([] : List UInt8)) = decide ((a.size : Int) ≤ 0):=by
 rw [ByteArray.toList_eq];have h : a.data.toList.length = a.size:=by rw [Array.length_toList];rfl
 cases e : a.data.toList with
 | nil =>
  have h1 : a.size = 0:=by rw [← h,e];rfl
  rw [decide_eq_true (by omega)];rfl
 | cons x l =>
  have h1 : a.size = l.length + 1:=by rw [← h,e];rfl
  rw [decide_eq_false (by omega)];rfl
theorem getD_mem' {α : Type} {l : List α} {i : Nat} {z : α} (hi : i < l.length) : l.getD i z ∈ l:=by
 rw [List.getD_eq_getElem?_getD,List.getElem?_eq_getElem hi];exact List.getElem_mem hi
end Go.Proofs.YteideicglgpfiaaGreat.Pu

namespace Go.Proofs.YteideicglgpfiaaGreat.Pu
set_option linter.unusedVariables false
set_option linter.unusedSimpArgs false
open Go.RowKit Go.Proofs.YteideicglgpfiaaGreat.PK Go.Proofs.YteideicglgpfiaaGreatW.PrintWords
theorem and255 (x : Int) : 0 ≤ Go.bits .and .i64 x 255 ∧ Go.bits .and .i64 x 255 ≤ 255:=by
 have h : (BitVec.ofInt 64 x &&& BitVec.ofInt 64 255).toNat ≤ 255:=by
  rw [BitVec.toNat_and];exact Nat.le_trans Nat.and_le_right (by decide)
 have e : Go.bits .and .i64 x 255 = Go.IntKind.i64.wrap ((BitVec.ofInt 64 x &&& BitVec.ofInt 64 255).toNat : Int):=rfl;rw [e,Go.IntKind.wrap_i64];omega
end Go.Proofs.YteideicglgpfiaaGreat.Pu

namespace Go.Proofs.YteideicglgpfiaaGreat.Pu
set_option linter.unusedVariables false
set_option linter.unusedSimpArgs false
open Go.RowKit Go.Proofs.YteideicglgpfiaaGreat.PK Go.Proofs.YteideicglgpfiaaGreatW.PrintWords
theorem str_size (l : List Int) : (strOfNums l).size = l.length:=by
 unfold strOfNums;simp [ByteArray.size]
end Go.Proofs.YteideicglgpfiaaGreat.Pu

namespace Go.Proofs.YteideicglgpfiaaGreat.M2.Mp
set_option linter.unusedVariables false
set_option linter.unusedSimpArgs false
open Go.RowKit Go.Proofs.YteideicglgpfiaaGreat.PK Go.Proofs.YteideicglgpfiaaGreatW.PrintWords Go.Proofs.YteideicglgpfiaaGreat.Pu
def EvX {α : Type} (g : Nat → Option α) (P : α → Prop) : Prop:=∃ r,Ev g r ∧ P r
theorem ev_rel {α β : Type} {g : Nat → Option α} {f : Nat → Option β} {a : α} {c : α → β} (h : Ev g a) (hr : ∀ k r,g k = some r → ∀ m,k ≤ m → f m = some (c r)) : Ev f (c a):=by
 obtain ⟨K,hK⟩:=h;exact ⟨K,fun m hm=>hr K a (hK K (Nat.le_refl _)) m hm⟩
theorem ev_all_k {α : Type} {f : Nat → Option α} {a : α} (h : ∀ m,f m = some a) : Ev f a:=⟨0,fun m _=>h m⟩
theorem evx_of {α : Type} {g : Nat → Option α} {P : α → Prop} {a : α} (h : Ev g a) (hp : P a) : EvX g P:=⟨a,h,hp⟩
theorem evx_mono {α : Type} {g : Nat → Option α} {P Q : α → Prop} (h : EvX g P) (hq : ∀ a,P a → Q a) : EvX g Q:=by
 obtain ⟨r,h1,h2⟩:=h;exact ⟨r,h1,hq r h2⟩
theorem evx_bind {α β : Type} {g : Nat → Option α} {f : Nat → α → Option β} {Q : α → Prop} {P : β → Prop} (h : EvX g Q) (k : ∀ a,Q a → EvX (fun n=>f n a) P) : EvX (fun n=>(g n).bind (f n)) P:=by
 obtain ⟨a,h1,h2⟩:=h;obtain ⟨r,h3,h4⟩:=k a h2;exact ⟨r,Ev.bind h1 h3,h4⟩
theorem evx_ite {α : Type} {c : Prop} [Decidable c] {g f : Nat → Option α} {P : α → Prop} (h1 : c → EvX g P) (h2 : ¬ c → EvX f P) : EvX (fun n=>if c then g n else f n) P:=by
 by_cases h : c
 ·simp only [if_pos h];exact h1 h
 simp only [if_neg h];exact h2 h
theorem evx_pos {α : Type} {c : Prop} [Decidable c] {g f : Nat → Option α} {P : α → Prop} (h : c) (h1 : EvX g P) : EvX (fun n=>if c then g n else f n) P:=by
 simp only [if_pos h];exact h1
theorem evx_neg {α : Type} {c : Prop} [Decidable c] {g f : Nat → Option α} {P : α → Prop} (h : ¬ c) (h1 : EvX f P) : EvX (fun n=>if c then g n else f n) P:=by
 simp only [if_neg h];exact h1
theorem evx_some {α : Type} {P : α → Prop} {a : α} (h : P a) : EvX (fun _=>some a) P:=⟨a,Ev.now _,h⟩
theorem evx_step {α : Type} {g f : Nat → Option α} {P : α → Prop} (h : ∀ k,g (k + 1) = f k) (k : EvX f P) : EvX g P:=by
 obtain ⟨r,h1,h2⟩:=k;exact ⟨r,Ev.step h h1,h2⟩
theorem evx_out {g : Nat → Option Bool} (h : EvX g (fun r=>r = true)) : ∃ k,g k = some true:=by
 obtain ⟨r,⟨K,hK⟩,rfl⟩:=h;exact ⟨K,hK K (Nat.le_refl _)⟩
def Cur (b : List Int) (i : Int) : Prop:=0 ≤ i ∧ i ≤ b.length
abbrev Cb (b : List Int) : Prop:=b.length ≤ 9223372036854775807
end Go.Proofs.YteideicglgpfiaaGreat.M2.Mp

namespace Go.Proofs.YteideicglgpfiaaGreat.Pu
set_option linter.unusedVariables false
set_option linter.unusedSimpArgs false
open Go.RowKit Go.Proofs.YteideicglgpfiaaGreat.PK Go.Proofs.YteideicglgpfiaaGreatW.PrintWords
end Go.Proofs.YteideicglgpfiaaGreat.Pu

namespace Go.Proofs.YteideicglgpfiaaGreat.M2.Mp
set_option linter.unusedVariables false
set_option linter.unusedSimpArgs false
open Go.RowKit Go.Proofs.YteideicglgpfiaaGreat.PK Go.Proofs.YteideicglgpfiaaGreatW.PrintWords Go.Proofs.YteideicglgpfiaaGreat.Pu
theorem m64 {i : Nat} {n : Nat} (h : i < n) (hn : n ≤ 9223372036854775807) : M2.w64 ((i : Int) + 1) = ((i + 1 : Nat) : Int):=by
 rw [w64_eq];exact wsucc h hn
theorem m64i {x : Int} (h1 : -9223372036854775808 ≤ x) (h2 : x ≤ 9223372036854775807) : M2.w64 x = x:=by
 rw [w64_eq];exact Pu.w64 h1 h2
theorem l01InX (a l h : Int) : EvX (fun k=>spec_l01In.f k a l h) (fun r=>r = decide (l ≤ a ∧ a ≤ h)):=by
 simp only [spec_l01In.f];refine evx_ite (fun h1=>evx_some ?_) (fun h1=>evx_some ?_)
 ·exact decide_eq_decide.2 ⟨fun h2=>⟨by omega,h2⟩,fun h2=>h2.2⟩
 exact (decide_eq_false (by omega)).symm
theorem inX (a l h : Int) : EvX (fun k=>impl_in.f k a l h) (fun r=>r = decide (l ≤ a ∧ a ≤ h)):=by
 simp only [impl_in.f];refine evx_ite (fun h1=>evx_some ?_) (fun h1=>evx_some ?_)
 ·exact decide_eq_decide.2 ⟨fun h2=>⟨by omega,h2⟩,fun h2=>h2.2⟩
 exact (decide_eq_false (by omega)).symm
end Go.Proofs.YteideicglgpfiaaGreat.M2.Mp

namespace Go.Proofs.YteideicglgpfiaaGreat.Pu
set_option linter.unusedVariables false
set_option linter.unusedSimpArgs false
open Go.RowKit Go.Proofs.YteideicglgpfiaaGreat.PK Go.Proofs.YteideicglgpfiaaGreatW.PrintWords
theorem rd_nat (l : List Int) (i : Nat) : rd l (i : Int) = l.getD i 0:=rfl
theorem rdLK_nat (l : List S79) (i : Nat) : rd_T79 l (i : Int) = l.getD i z79:=rfl
theorem rdIK_nat (l : List S80) (i : Nat) : rd_T80 l (i : Int) = l.getD i z80:=rfl
def toK (x : S79) : S80:=⟨x.f0,x.f1⟩
def toA (l : List S79) : List S80:=l.map toK
theorem toIntS_ev (l : List Int) (h : l.length ≤ 35184372088832) : Ev (fun k=>laws_toIntS.f k l) l:=by
 have hn : l.length ≤ 9223372036854775807:=by omega
 have h1:=ev_fill_all (E:=fun _ i=>some (rd l i)) (l:=l) (z:=0) (g:=fun x=>x) (xs:=List.replicate l.length 0) (L:=fun k xs i=>laws_toIntS.l0 k l xs i) hn (fun k xs i=>by
  simp only [laws_toIntS.l0,Option.bind_some]) (fun i _=>by rw [rd_nat];exact Ev.now _) (by simp)
 rw [List.map_id'] at h1;refine ev_ext (fun k=>?_) h1;unfold laws_toIntS.f;rw [if_pos (by omega),if_pos (by simpa using h)];simp
theorem toKnot_ev (b : Bool) (l : List Int) (h : l.length ≤ 35184372088832) : Ev (fun k=>laws_toKnot.f k b l) (b,l):=by
 unfold laws_toKnot.f;exact ev_bind (toIntS_ev l h) (Ev.now _)
theorem toKnotS_ev (l : List S79) (h : l.length ≤ 8796093022208) (hk : ∀ x ∈ l,x.f1.length ≤ 35184372088832) : Ev (fun k=>laws_toKnotS.f k l) (toA l):=by
 have hn : l.length ≤ 9223372036854775807:=by omega
 have h1:=ev_fill_all (E:=fun k i=>(laws_toKnot.f k (rd_T79 l i).f0 (rd_T79 l i).f1).bind fun bt=>some (⟨bt.1,bt.2⟩ : S80)) (l:=l) (z:=z79) (g:=toK) (xs:=List.replicate l.length z80) (L:=fun k xs i=>laws_toKnotS.l0 k l xs i) hn (fun k xs i=>by
  simp only [laws_toKnotS.l0,Option.bind_assoc,Option.bind_some]) (fun i hi=>by
   rw [rdLK_nat];have hm : l.getD i z79 ∈ l:=by rw [List.getD_eq_getElem?_getD,List.getElem?_eq_getElem hi];exact List.getElem_mem hi
   exact ev_bind (toKnot_ev _ _ (hk _ hm)) (Ev.now _)) (by simp)
 refine ev_ext (fun k=>?_) h1;unfold laws_toKnotS.f;rw [if_pos (by omega),if_pos (by simpa using h)];simp
theorem toArena_ev (l : List S79) (h : l.length ≤ 8796093022208) (hk : ∀ x ∈ l,x.f1.length ≤ 35184372088832) : Ev (fun k=>laws_toArena.f k l) (toA l):=by
 unfold laws_toArena.f;exact ev_bind (toKnotS_ev l h hk) (Ev.now _)
theorem eqIntS_ev (l : List Int) (hn : l.length ≤ 9223372036854775807) : Ev (fun k=>laws_eqIntS.f k l l) true:=by
 have h1:=ev_all (n:=l.length) (m:=l.length) (L:=fun k i=>laws_eqIntS.l0 k l l i) (E:=fun _ _=>some true) hn (Nat.le_refl _) (fun k i=>by simp [laws_eqIntS.l0]) (fun i _=>Ev.now _) l.length 0 (by omega);refine ev_ext (fun k=>?_) h1;unfold laws_eqIntS.f;rw [if_pos rfl];rfl
theorem eqKnot_ev (b : Bool) (l : List Int) (hn : l.length ≤ 9223372036854775807) : Ev (fun k=>laws_eqKnot.f k b l b l) true:=by
 unfold laws_eqKnot.f;simp only [bne_self_eq_false,Bool.false_eq_true,if_false];exact ev_bind (eqIntS_ev l hn) (by simp only [if_true];exact Ev.now _)
theorem eqKnotS_ev (l : List S80) (hn : l.length ≤ 9223372036854775807) (hk : ∀ x ∈ l,x.f1.length ≤ 9223372036854775807) : Ev (fun k=>laws_eqKnotS.f k l l) true:=by
 have h1:=ev_all (n:=l.length) (m:=l.length) (L:=fun k i=>laws_eqKnotS.l0 k l l i) (E:=fun k i=>laws_eqKnot.f k (rd_T80 l i).f0 (rd_T80 l i).f1 (rd_T80 l i).f0 (rd_T80 l i).f1) hn (Nat.le_refl _) (fun k i=>by simp only [laws_eqKnotS.l0]) (fun i hi=>by
  rw [rdIK_nat];have hm : l.getD i z80 ∈ l:=by rw [List.getD_eq_getElem?_getD,List.getElem?_eq_getElem hi];exact List.getElem_mem hi
  exact eqKnot_ev _ _ (hk _ hm)) l.length 0 (by omega)
 refine ev_ext (fun k=>?_) h1;unfold laws_eqKnotS.f;rw [if_pos rfl];rfl
theorem eqArena_ev (l : List S80) (hn : l.length ≤ 9223372036854775807) (hk : ∀ x ∈ l,x.f1.length ≤ 9223372036854775807) : Ev (fun k=>laws_eqArena.f k l l) true:=by
 unfold laws_eqArena.f;exact ev_bind (eqKnotS_ev l hn hk) (by simp only [if_true];exact Ev.now _)
theorem szIntS_eq (l : List Int) (a : Int) (h0 : 0 ≤ a) (h1 : a ≤ 1048576) (hn : l.length ≤ 9223372036854775807) : ∃ t,laws_szIntS.f l a = some t ∧ t ≤ a ∧ (0 ≤ t → (l.length : Int) ≤ a):=by
 unfold laws_szIntS.f;rw [w64 (by omega) (by omega)]
 by_cases h : a - (l.length : Int) < 0
 ·exact ⟨-1,by rw [if_pos h],by omega,fun h2=>by omega⟩
 exact ⟨_,by rw [if_neg h],by omega,fun _=>by omega⟩
theorem szKnot_eq (b : Bool) (l : List Int) (a : Int) (h0 : 0 ≤ a) (h1 : a ≤ 1048576) (hn : l.length ≤ 9223372036854775807) : ∃ t,laws_szKnot.f b l a = some t ∧ t ≤ a ∧ (0 ≤ t → (l.length : Int) ≤ a):=by
 obtain ⟨t,ht,hta,hp⟩:=szIntS_eq l a h0 h1 hn;unfold laws_szKnot.f;rw [ht];simp only [Option.bind_some]
 by_cases h : t < 0
 ·exact ⟨-1,by rw [if_pos h],by omega,fun h2=>by omega⟩
 exact ⟨t,by rw [if_neg h],hta,hp⟩
theorem szKnotS_ev (l : List S79) (a : Int) (h0 : 0 ≤ a) (h1 : a ≤ 1048576) (hn : l.length ≤ 9223372036854775807) (hk : ∀ x ∈ l,x.f1.length ≤ 9223372036854775807) :
  ∃ r,Ev (fun k=>laws_szKnotS.f k l a) r ∧ r ≤ a ∧ (0 ≤ r → (l.length : Int) ≤ a ∧ ∀ x ∈ l,(x.f1.length : Int) ≤ 1048576):=by
 by_cases h : a - (l.length : Int) < 0
 ·refine ⟨-1,⟨0,fun k _=>?_⟩,by omega,fun h2=>by omega⟩;show laws_szKnotS.f k l a = _;unfold laws_szKnotS.f;rw [w64 (by omega) (by omega),if_pos h]
 obtain ⟨r,hr,hra,hq⟩:=ev_size (n:=l.length) (L:=fun k a i=>laws_szKnotS.l0 k l a i) (E:=fun _ i a=>laws_szKnot.f (rd_T79 l i).f0 (rd_T79 l i).f1 a) (P:=fun i=>((l.getD i z79).f1.length : Int) ≤ 1048576) hn (fun k a i=>by simp only [laws_szKnotS.l0])
  (fun i a hi h2 h3=>by
   have hm : l.getD i z79 ∈ l:=by rw [List.getD_eq_getElem?_getD,List.getElem?_eq_getElem hi];exact List.getElem_mem hi
   obtain ⟨t,ht,hta,hp⟩:=szKnot_eq (rd_T79 l i).f0 (rd_T79 l i).f1 a h2 h3 (by rw [rdLK_nat];exact hk _ hm)
   exact ⟨t,ev_const ht,hta,fun h4=>by have:=hp h4;rw [rdLK_nat] at this;omega⟩) l.length 0 (a - (l.length : Int)) (by omega) (by omega) (by omega)
 refine ⟨r,ev_ext (fun k=>?_) hr,by omega,fun h2=>⟨by omega,fun x hx=>?_⟩⟩
 ·unfold laws_szKnotS.f;rw [w64 (by omega) (by omega),if_neg h];rfl
 obtain ⟨i,hi,rfl⟩:=List.getElem_of_mem hx;have:=hq h2 i (by omega) hi
 rwa [List.getD_eq_getElem?_getD,List.getElem?_eq_getElem hi] at this
theorem szArena_ev (l : List S79) (a : Int) (h0 : 0 ≤ a) (h1 : a ≤ 1048576) (hn : l.length ≤ 9223372036854775807) (hk : ∀ x ∈ l,x.f1.length ≤ 9223372036854775807) :
  ∃ r,Ev (fun k=>laws_szArena.f k l a) r ∧ r ≤ a ∧ (0 ≤ r → (l.length : Int) ≤ a ∧ ∀ x ∈ l,(x.f1.length : Int) ≤ 1048576):=by
 obtain ⟨r,hr,hra,hq⟩:=szKnotS_ev l a h0 h1 hn hk
 by_cases h : r < 0
 ·exact ⟨-1,by unfold laws_szArena.f;exact ev_bind hr (by simp only [if_pos h];exact Ev.now _),by omega,fun h2=>by omega⟩
 exact ⟨r,by unfold laws_szArena.f;exact ev_bind hr (by simp only [if_neg h];exact Ev.now _),hra,hq⟩
end Go.Proofs.YteideicglgpfiaaGreat.Pu

namespace Go.Proofs.YteideicglgpfiaaGreat.Pu
set_option linter.unusedVariables false
set_option linter.unusedSimpArgs false
open Go.RowKit Go.Proofs.YteideicglgpfiaaGreat.PK Go.Proofs.YteideicglgpfiaaGreatW.PrintWords
theorem in_eq (a l h : Int) : impl_in.f a l h = some (decide (l ≤ a ∧ a ≤ h)):=by
 unfold impl_in.f
 by_cases h1 : a ≥ l
 ·rw [if_pos h1];congr 1;simp;omega
 rw [if_neg h1];congr 1;simp;omega
theorem l01In_eq (a l h : Int) : spec_l01In.f a l h = some (decide (l ≤ a ∧ a ≤ h)):=by
 unfold spec_l01In.f
 by_cases h1 : a ≥ l
 ·rw [if_pos h1];congr 1;simp;omega
 rw [if_neg h1];congr 1;simp;omega
def kidB (l : List S80) (i : Nat) (leaf : Bool) (n : Int) : Bool :=
 if leaf = true then decide (0 ≤ n) else decide (n = -1) || (decide (0 ≤ n ∧ n ≤ (i : Int) - 1) && (l.getD n.toNat z80).f0)
def knotB (l : List S80) (i : Nat) (x : S80) : Bool:=decide (x.f1.length = 4) && x.f1.all (kidB l i x.f0)
def arenaB (l : List S80) : Bool:=(List.range' 0 l.length).all fun i=>knotB l i (l.getD i z80)
theorem sArena_step (k : Nat) (kids : List Int) (i j : Nat) (a : List S80) (leaf : Bool) (hi : i < a.length) (hn : a.length ≤ 9223372036854775807) (hj : j < 4) (hk : kids.length = 4) :
  spec_ArenaOk.l1 (k + 1) i j a leaf kids = if kidB a i leaf (kids.getD j 0) = true then spec_ArenaOk.l1 k i ((j + 1 : Nat) : Int) a leaf kids else some false:=by
 simp only [spec_ArenaOk.l1];rw [if_pos (by omega),if_pos (by omega),if_pos (by omega),wsucc (n:=4) hj (by omega),w64 (x:=(i : Int) - 1) (by omega) (by omega),rd_nat];generalize kids.getD j 0 = n;unfold kidB;cases leaf with
 | true=>by_cases h : n < 0 <;> simp [h] <;> omega
 | false =>
  simp only [Bool.false_eq_true,if_false,l01In_eq,Option.bind_some,decide_eq_true_eq]
  by_cases h1 : n = -1
  ·simp [h1]
  by_cases h2 : 0 ≤ n ∧ n ≤ (i : Int) - 1
  ·rw [if_neg h1,if_pos h2,if_pos h2.1,if_pos (by omega)];simp [h1,h2,rd_T80]
  simp [h1,h2]
theorem iArena_step (k : Nat) (kids : List Int) (i j : Nat) (a : List S80) (leaf : Bool) (hi : i < a.length) (hn : a.length ≤ 9223372036854775807) (hj : j < 4) (hk : kids.length = 4) :
  impl_ArenaOk.l1 (k + 1) i a a.length i kids kids.length j a leaf kids = if kidB a i leaf (kids.getD j 0) = true then impl_ArenaOk.l1 k i a a.length i kids kids.length ((j + 1 : Nat) : Int) a leaf kids else some false:=by
 simp only [impl_ArenaOk.l1];rw [if_pos (by omega),if_pos (by omega),if_pos (by omega),wsucc (n:=4) hj (by omega),w64 (x:=(i : Int) - 1) (by omega) (by omega),rd_nat];generalize kids.getD j 0 = n;unfold kidB;cases leaf with
 | true=>by_cases h : n < 0 <;> simp [h] <;> omega
 | false =>
  simp only [Bool.false_eq_true,if_false,in_eq,Option.bind_some,decide_eq_true_eq]
  by_cases h1 : n = -1
  ·simp [h1]
  by_cases h2 : 0 ≤ n ∧ n ≤ (i : Int) - 1
  ·rw [if_neg h1,if_pos h2,if_pos h2.1,if_pos (by omega)];simp [h1,h2,rd_T80]
  simp [h1,h2]
theorem ev_kids {L : Nat → Int → Option Bool} {g : Nat → Option Bool} {kids : List Int} {T : Int → Bool} {r : Bool} (hk : kids.length = 4)
  (hs : ∀ k j,j < 4 → L (k + 1) ((j : Nat) : Int) = if T (kids.getD j 0) = true then L k ((j + 1 : Nat) : Int) else some false) (he : ∀ k,L (k + 1) 4 = g k) (hr : Ev g r) :
  ∀ (d j : Nat),j + d = 4 → Ev (fun k=>L k (j : Int)) ((kids.drop j).all T && r):=by
 intro d
 induction d with
 | zero =>
  intro j hj;obtain rfl : j = 4:=by omega
  refine Ev.step (f:=g) (fun k=>he k) ?_;rw [List.drop_eq_nil_of_le (by omega)];exact hr
 | succ d ih =>
  intro j hj;have hjl : j < kids.length:=by omega
  rw [List.drop_eq_getElem_cons hjl,List.all_cons];have e : kids.getD j 0 = kids[j]:=by rw [List.getD_eq_getElem?_getD,List.getElem?_eq_getElem hjl];rfl
  by_cases h : T kids[j] = true
  ·rw [h,Bool.true_and];exact Ev.step (f:=fun k=>L k ((j + 1 : Nat) : Int)) (fun k=>by rw [hs k j (by omega),e,if_pos h]) (ih (j + 1) (by omega))
  rw [Bool.eq_false_iff.mpr h,Bool.false_and,Bool.false_and];exact ev_some fun k=>by rw [hs k j (by omega),e,if_neg h]
theorem sArena_ev (a : List S80) (hn : a.length ≤ 9223372036854775807) : Ev (fun k=>spec_ArenaOk.f k a) (arenaB a):=by
 have main : ∀ (d i : Nat),i + d = a.length → Ev (fun k=>spec_ArenaOk.l0 k (i : Int) a) ((List.range' i d).all fun i=>knotB a i (a.getD i z80)):=by
  intro d
  induction d with
  | zero=>intro i hi;exact ev_some fun k=>by simp only [spec_ArenaOk.l0];rw [if_neg (by omega)];rfl
  | succ d ih =>
   intro i hi;rw [List.range'_succ,List.all_cons];unfold knotB
   by_cases h4 : (a.getD i z80).f1.length = 4
   ·rw [decide_eq_true h4,Bool.true_and]
    have h:=ev_kids (L:=fun k j=>spec_ArenaOk.l1 k i j a (a.getD i z80).f0 (a.getD i z80).f1) (T:=kidB a i (a.getD i z80).f0) h4 (fun k j hj=>sArena_step k (a.getD i z80).f1 i j a _ (by omega) hn hj h4)
     (g:=fun k=>spec_ArenaOk.l0 k ((i + 1 : Nat) : Int) a) (fun k=>by simp only [spec_ArenaOk.l1];rw [if_neg (by omega),wsucc (n:=a.length) (by omega) hn]) (ih (i + 1) (by omega)) 4 0 rfl
    refine Ev.step (fun k=>?_) h;simp only [spec_ArenaOk.l0];rw [if_pos (by omega),if_pos (by omega),rdIK_nat,if_pos (by omega)];rfl
   rw [decide_eq_false h4,Bool.false_and,Bool.false_and];refine ev_some fun k=>?_;simp only [spec_ArenaOk.l0];rw [if_pos (by omega),if_pos (by omega),rdIK_nat,if_neg (by omega)]
 exact main a.length 0 (by omega)
theorem iArena_ev (a : List S80) (hn : a.length ≤ 9223372036854775807) : Ev (fun k=>impl_ArenaOk.f k a) (arenaB a):=by
 have main : ∀ (d i : Nat),i + d = a.length → Ev (fun k=>impl_ArenaOk.l0 k a a.length (i : Int) a) ((List.range' i d).all fun i=>knotB a i (a.getD i z80)):=by
  intro d
  induction d with
  | zero=>intro i hi;exact ev_some fun k=>by simp only [impl_ArenaOk.l0];rw [if_neg (by omega)];rfl
  | succ d ih =>
   intro i hi;rw [List.range'_succ,List.all_cons];unfold knotB
   by_cases h4 : (a.getD i z80).f1.length = 4
   ·rw [decide_eq_true h4,Bool.true_and]
    have h:=ev_kids (L:=fun k j=>impl_ArenaOk.l1 k i a a.length i (a.getD i z80).f1 (a.getD i z80).f1.length j a (a.getD i z80).f0 (a.getD i z80).f1) (T:=kidB a i (a.getD i z80).f0) h4 (fun k j hj=>iArena_step k (a.getD i z80).f1 i j a _ (by omega) hn hj h4)
     (g:=fun k=>impl_ArenaOk.l0 k a a.length ((i + 1 : Nat) : Int) a) (fun k=>by simp only [impl_ArenaOk.l1];rw [if_neg (by omega),wsucc (n:=a.length) (by omega) hn]) (ih (i + 1) (by omega)) 4 0 rfl
    refine Ev.step (fun k=>?_) h;simp only [impl_ArenaOk.l0];rw [if_pos (by omega),if_pos (by omega),if_pos (by omega),rdIK_nat,if_pos (by omega)];rfl
   rw [decide_eq_false h4,Bool.false_and,Bool.false_and];refine ev_some fun k=>?_;simp only [impl_ArenaOk.l0];rw [if_pos (by omega),if_pos (by omega),if_pos (by omega),rdIK_nat,if_neg (by omega)]
 exact main a.length 0 (by omega)
end Go.Proofs.YteideicglgpfiaaGreat.Pu

namespace Go.Proofs.YteideicglgpfiaaGreat.Pu
set_option linter.unusedVariables false
set_option linter.unusedSimpArgs false
open Go.RowKit Go.Proofs.YteideicglgpfiaaGreat.PK Go.Proofs.YteideicglgpfiaaGreatW.PrintWords
def rootB (a : List S80) (r : Int) : Bool:=decide (0 ≤ r ∧ r ≤ (a.length : Int) - 1) && !(a.getD r.toNat z80).f0
def numB (a : List S80) (r s : Int) : Int:=if (a.getD r.toNat z80).f1.getD (s / 4).toNat 0 < 0 then 0 else (a.getD ((a.getD r.toNat z80).f1.getD (s / 4).toNat 0).toNat z80).f1.getD (s % 4).toNat 0
def getB (a : List S80) (r s : Int) : Int:=if (0 ≤ s ∧ s ≤ 15) ∧ rootB a r = true ∧ arenaB a = true then numB a r s else 0
theorem knot_of {a : List S80} (h : arenaB a = true) {i : Nat} (hi : i < a.length) : (a.getD i z80).f1.length = 4 ∧ ∀ n ∈ (a.getD i z80).f1,kidB a i (a.getD i z80).f0 n = true:=by
 unfold arenaB at h;rw [List.all_eq_true] at h;have h1:=h i (by simp;omega);unfold knotB at h1;rw [Bool.and_eq_true,decide_eq_true_eq,List.all_eq_true] at h1;exact h1
theorem getD_mem {α : Type} {l : List α} {i : Nat} {z : α} (hi : i < l.length) : l.getD i z ∈ l:=by
 rw [List.getD_eq_getElem?_getD,List.getElem?_eq_getElem hi];exact List.getElem_mem hi
theorem kid_of {a : List S80} (h : arenaB a = true) {r : Nat} (hr : r < a.length) (hf : (a.getD r z80).f0 = false) {j : Nat} (hj : j < 4) :
  (a.getD r z80).f1.getD j 0 = -1 ∨ (0 ≤ (a.getD r z80).f1.getD j 0 ∧ (a.getD r z80).f1.getD j 0 < r ∧ (a.getD ((a.getD r z80).f1.getD j 0).toNat z80).f0 = true):=by
 obtain ⟨h4,hk⟩:=knot_of h hr;have h1:=hk _ (getD_mem (i:=j) (z:=0) (by omega));unfold kidB at h1;rw [hf] at h1;simp only [Bool.false_eq_true,if_false,Bool.or_eq_true,decide_eq_true_eq,Bool.and_eq_true] at h1;rcases h1 with h1 | ⟨h1,h2⟩
 ·exact .inl h1
 exact .inr ⟨h1.1,by omega,h2⟩
theorem iRoot_eq (a : List S80) (r : Int) (hn : a.length ≤ 9223372036854775807) : impl_isRoot.f a r = some (rootB a r):=by
 unfold impl_isRoot.f rootB;rw [w64 (by omega) (by omega),in_eq];simp only [Option.bind_some]
 by_cases h : 0 ≤ r ∧ r ≤ (a.length : Int) - 1
 ·rw [decide_eq_true h,if_pos rfl,if_pos h.1,if_pos (by omega),Bool.true_and];rfl
 rw [decide_eq_false h,if_neg (by decide),Bool.false_and]
theorem sRoot_eq (a : List S80) (r : Int) (hn : a.length ≤ 9223372036854775807) : spec_l11Root.f a r = some (decide (r = -1) || rootB a r):=by
 unfold spec_l11Root.f rootB
 by_cases h0 : r = -1
 ·rw [if_pos h0,decide_eq_true h0,Bool.true_or]
 rw [if_neg h0,decide_eq_false h0,Bool.false_or,w64 (by omega) (by omega),l01In_eq];simp only [Option.bind_some]
 by_cases h : 0 ≤ r ∧ r ≤ (a.length : Int) - 1
 ·rw [decide_eq_true h,if_pos rfl,if_pos h.1,if_pos (by omega),Bool.true_and];rfl
 rw [decide_eq_false h,if_neg (by decide),Bool.false_and]
theorem div4 {s : Int} (h0 : 0 ≤ s) (h1 : s ≤ 15) : wrap64 (Int.tdiv s 4) = s / 4 ∧ Int.tmod s 4 = s % 4 ∧ 0 ≤ s / 4 ∧ s / 4 < 4 ∧ 0 ≤ s % 4 ∧ s % 4 < 4:=by
 rw [Int.tdiv_eq_ediv_of_nonneg h0,Int.tmod_eq_emod_of_nonneg h0,w64 (by omega) (by omega)];omega
theorem root_lt {a : List S80} {r : Int} (h : rootB a r = true) : 0 ≤ r ∧ r.toNat < a.length ∧ (a.getD r.toNat z80).f0 = false:=by
 unfold rootB at h;rw [Bool.and_eq_true,decide_eq_true_eq,Bool.not_eq_true'] at h;exact ⟨h.1.1,by omega,h.2⟩
theorem num_eq (a : List S80) (r s : Int) (ha : arenaB a = true) (hr : rootB a r = true) (h0 : 0 ≤ s) (h1 : s ≤ 15) : (if 0 ≤ r then if r < (a.length : Int) then if 0 ≤ s / 4 then if s / 4 < (((a.getD r.toNat z80).f1.length : Nat) : Int) then if (a.getD r.toNat z80).f1.getD (s / 4).toNat 0 < 0 then some 0 else if 0 ≤ (a.getD r.toNat z80).f1.getD (s / 4).toNat 0 then if (a.getD r.toNat z80).f1.getD (s / 4).toNat 0 < (a.length : Int) then if 0 ≤ s % 4 then if s % 4 < (((a.getD ((a.getD r.toNat z80).f1.getD (s / 4).toNat 0).toNat z80).f1.length : Nat) : Int) then some ((a.getD ((a.getD r.toNat z80).f1.getD (s / 4).toNat 0).toNat z80).f1.getD (s % 4).toNat 0) else none else none else none else none else none else none else none else none) = some (numB a r s):=by
 obtain ⟨r0,rl,rf⟩:=root_lt hr;obtain ⟨d1,d2,d3,d4,d5,d6⟩:=div4 h0 h1;have h4:=(knot_of ha rl).1;have hk:=kid_of ha rl rf (j:=(s / 4).toNat) (by omega);unfold numB;rw [if_pos r0,if_pos (by omega),if_pos d3,if_pos (by omega)];rcases hk with hk | ⟨k0,k1,_⟩
 ·rw [if_pos (by omega),if_pos (by omega)]
 have h5:=(knot_of ha (i:=((a.getD r.toNat z80).f1.getD (s / 4).toNat 0).toNat) (by omega)).1;rw [if_neg (by omega),if_pos k0,if_pos (by omega),if_pos d5,if_pos (by omega),if_neg (by omega)]
theorem sGet_eq (a : List S80) (r s : Int) (ha : arenaB a = true) (hr : rootB a r = true) (h0 : 0 ≤ s) (h1 : s ≤ 15) : spec_l11Get.f a r s = some (numB a r s):=by
 obtain ⟨r0,rl,rf⟩:=root_lt hr;obtain ⟨d1,d2,_⟩:=div4 h0 h1;unfold spec_l11Get.f;simp only [d1,d2];rw [if_neg (by omega)];exact num_eq a r s ha hr h0 h1
end Go.Proofs.YteideicglgpfiaaGreat.Pu

namespace Go.Proofs.YteideicglgpfiaaGreat.Pu
set_option linter.unusedVariables false
set_option linter.unusedSimpArgs false
open Go.RowKit Go.Proofs.YteideicglgpfiaaGreat.PK Go.Proofs.YteideicglgpfiaaGreatW.PrintWords
theorem drop_cons {α : Type} {l : List α} {i : Nat} (z : α) (h : i < l.length) : l.drop i = l.getD i z :: l.drop (i + 1):=by
 rw [List.drop_eq_getElem_cons h,List.getD_eq_getElem?_getD,List.getElem?_eq_getElem h];rfl
theorem sCopyArena_ev (a : List S80) (hn : a.length ≤ 1048576) (hx : ∀ x ∈ a,x.f1.length ≤ 1048576) : Ev (fun k=>spec_l11Copy.f k a) a:=by
 have main : ∀ (d i : Nat) (acc : List S80),i + d = a.length → acc.length = i → Ev (fun k=>spec_l11Copy.l0 k (i : Int) a acc) (acc ++ a.drop i):=by
  intro d
  induction d with
  | zero=>intro i acc hi hl;exact ev_some fun k=>by simp only [spec_l11Copy.l0];rw [if_neg (by omega),List.drop_eq_nil_of_le (by omega),List.append_nil]
  | succ d ih =>
   intro i acc hi hl;have hil : i < a.length:=by omega
   have hm:=hx _ (getD_mem (z:=z80) hil);have h:=ih (i + 1) (acc ++ [a.getD i z80]) (by omega) (by simp;omega);rw [List.append_assoc,List.singleton_append,← drop_cons z80 hil] at h;refine Ev.step (fun k=>?_) h;simp only [spec_l11Copy.l0];rw [if_pos (by omega),if_pos (by omega),rdIK_nat,Option.bind_some,if_pos (show ([] : List Int).length + (a.getD i z80).f1.length < 17592186044416 by rw [List.length_nil];omega),if_pos (by omega),wsucc (n:=a.length) hil (by omega),List.nil_append]
 have h:=main a.length 0 [] (by omega) rfl;rw [List.nil_append,List.drop_zero] at h;exact h
theorem iCopyInts_eq {l : List Int} (h : l.length ≤ 1048576) : impl_copyInts.f l = some l:=by
 unfold impl_copyInts.f;rw [if_pos (by simp;omega),List.nil_append]
theorem app_ok {α : Type} (l : List α) {c : Nat} : l ++ [] = l:=List.append_nil l
theorem iCopyArena_ev (a : List S80) (hn : a.length ≤ 1048576) (hx : ∀ x ∈ a,x.f1.length ≤ 1048576) : Ev (fun k=>impl_copyArena.f k a) a:=by
 have main : ∀ (d i : Nat) (acc : List S80),i + d = a.length → acc.length = i → Ev (fun k=>impl_copyArena.l0 k a a.length (i : Int) acc) (acc ++ a.drop i):=by
  intro d
  induction d with
  | zero=>intro i acc hi hl;exact ev_some fun k=>by simp only [impl_copyArena.l0];rw [if_neg (by omega),List.drop_eq_nil_of_le (by omega),List.append_nil]
  | succ d ih =>
   intro i acc hi hl;have hil : i < a.length:=by omega
   have h:=ih (i + 1) (acc ++ [a.getD i z80]) (by omega) (by simp;omega);rw [List.append_assoc,List.singleton_append,← drop_cons z80 hil] at h;refine Ev.step (fun k=>?_) h;simp only [impl_copyArena.l0];rw [if_pos (by omega),if_pos (by omega),if_pos (by omega),rdIK_nat,iCopyInts_eq (hx _ (getD_mem hil)),Option.bind_some,if_pos (by omega),wsucc (n:=a.length) hil (by omega)]
 have h:=main a.length 0 [] (by omega) rfl;rw [List.nil_append,List.drop_zero] at h;exact h
end Go.Proofs.YteideicglgpfiaaGreat.Pu

namespace Go.Proofs.YteideicglgpfiaaGreat.Pu
set_option linter.unusedVariables false
set_option linter.unusedSimpArgs false
open Go.RowKit Go.Proofs.YteideicglgpfiaaGreat.PK Go.Proofs.YteideicglgpfiaaGreatW.PrintWords
theorem mem_cons_ne {x y : Int} {t : List Int} (h : ¬ y = x) : decide (x ∈ y :: t) = decide (x ∈ t):=by
 have : ¬ x = y:=fun e=>h e.symm;simp [this]
theorem rdOf_nat {α : Type} (z : α) (l : List α) (i : Nat) : rdOf z l (i : Int) = l.getD i z:=rfl
theorem getD_set {α : Type} {l : List α} {c : Nat} (i : Nat) (v z : α) (hc : c < l.length) : (l.set c v).getD i z = if i = c then v else l.getD i z:=by
 rw [List.getD_eq_getElem?_getD,List.getD_eq_getElem?_getD,List.getElem?_set]
 by_cases h : c = i
 ·subst h;simp [hc]
 rw [if_neg h,if_neg (fun e=>h e.symm)]
theorem getD_rep {α : Type} (n i : Nat) (z : α) : (List.replicate n z).getD i z = z:=by
 rw [List.getD_eq_getElem?_getD,List.getElem?_replicate]
 by_cases h : i < n <;> simp [h]
def upd (f : Int → Int) : List Int → Nat → List Int
 | [],_=>[]
 | x :: l,0=>x :: l
 | x :: l,j + 1=>f x :: upd f l j
theorem upd_zero (f : Int → Int) (l : List Int) : upd f l 0 = l:=by cases l <;> rfl
theorem upd_full (f : Int → Int) : ∀ l : List Int,upd f l l.length = l.map f
 | []=>rfl
 | x :: l=>by show f x :: upd f l l.length = f x :: l.map f;rw [upd_full f l]
theorem upd_len (f : Int → Int) : ∀ (l : List Int) (j : Nat),(upd f l j).length = l.length
 | [],_=>rfl
 | x :: l,0=>rfl
 | x :: l,j + 1=>by show (upd f l j).length + 1 = l.length + 1;rw [upd_len f l j]
theorem upd_get (f : Int → Int) : ∀ (l : List Int) (j : Nat),(upd f l j).getD j 0 = l.getD j 0
 | [],_=>rfl
 | x :: l,0=>rfl
 | x :: l,j + 1=>by show (upd f l j).getD j 0 = l.getD j 0;exact upd_get f l j
theorem upd_set (f : Int → Int) : ∀ (l : List Int) (j : Nat),j < l.length → (upd f l j).set j (f (l.getD j 0)) = upd f l (j + 1)
 | [],j,h=>absurd h (by simp)
 | x :: l,0,_=>by show f x :: l = f x :: upd f l 0;rw [upd_zero]
 | x :: l,j + 1,h=>by
  show f x :: (upd f l j).set j (f (l.getD j 0)) = f x :: upd f l (j + 1);rw [upd_set f l j (by simpa using h)]
theorem upd_id (f : Int → Int) : ∀ (l : List Int) (j : Nat),f (l.getD j 0) = l.getD j 0 → upd f l j = upd f l (j + 1)
 | [],_,_=>rfl
 | x :: l,0,h=>by
  have h2 : f x = x:=h;show x :: l = f x :: upd f l 0;rw [upd_zero,h2]
 | x :: l,j + 1,h=>by
  show f x :: upd f l j = f x :: upd f l (j + 1);rw [upd_id f l j h]
def keptB (a : List S80) (r : Int) (i : Nat) : Bool:=rootB a r && (decide ((i : Int) = r) || decide ((i : Int) ∈ (a.getD r.toNat z80).f1))
def movB (pos : List Int) (x : Int) : Int:=if x ≥ 0 then pos.getD x.toNat 0 else x
def swKids (leaf : Bool) (pos kids : List Int) : List Int:=if leaf = true then kids else kids.map (movB pos)
def swAll (a : List S80) (K : Nat → Bool) : Nat → Nat → List Int → List S80 → List Int × List S80
 | 0,_,pos,out=>(pos,out)
 | d + 1,i,pos,out=>if K i = true then swAll a K d (i + 1) (pos.set i (out.length : Int)) (out ++ [⟨(a.getD i z80).f0,swKids (a.getD i z80).f0 pos (a.getD i z80).f1⟩]) else swAll a K d (i + 1) pos out
def keepB (a : List S80) (roots : List Int) (i : Nat) : Bool:=roots.any fun r=>keptB a r i
def sweepOk (a : List S80) (roots : List Int) : Bool:=arenaB a && roots.all fun r=>decide (r = -1) || rootB a r
def sweepB (a : List S80) (roots : List Int) : List S80 × List Int :=
 if sweepOk a roots = true then ((swAll a (keepB a roots) a.length 0 (List.replicate a.length 0) []).2,roots.map (movB (swAll a (keepB a roots) a.length 0 (List.replicate a.length 0) []).1)) else (a,roots)
theorem swAll_pos (a : List S80) (K : Nat → Bool) : ∀ (d i : Nat) (pos : List Int) (out : List S80),(swAll a K d i pos out).1.length = pos.length
 | 0,_,_,_=>rfl
 | d + 1,i,pos,out=>by
  unfold swAll
  by_cases h : K i = true
  ·rw [if_pos h,swAll_pos a K d];exact List.length_set
  rw [if_neg h,swAll_pos a K d]
theorem swAll_out (a : List S80) (K : Nat → Bool) : ∀ (d i : Nat) (pos : List Int) (out : List S80),(swAll a K d i pos out).2.length = out.length + ((List.range' i d).filter K).length
 | 0,_,_,_=>rfl
 | d + 1,i,pos,out=>by
  unfold swAll;rw [List.range'_succ]
  by_cases h : K i = true
  ·rw [if_pos h,swAll_out a K d,List.filter_cons,if_pos h];simp;omega
  rw [if_neg h,swAll_out a K d,List.filter_cons,if_neg h]
theorem iHasInt_ev (l : List Int) (x : Int) (hl : l.length ≤ 9223372036854775807) : Ev (fun k=>impl_hasInt.f k l x) (decide (x ∈ l)):=by
 have main : ∀ (d i : Nat),i + d = l.length → Ev (fun k=>impl_hasInt.l0 k x l l.length (i : Int)) (decide (x ∈ l.drop i)):=by
  intro d
  induction d with
  | zero=>intro i hi;exact ev_some fun k=>by simp only [impl_hasInt.l0];rw [if_neg (by omega),List.drop_eq_nil_of_le (by omega)];simp
  | succ d ih =>
   intro i hi;have hil : i < l.length:=by omega
   rw [drop_cons 0 hil]
   by_cases h : l.getD i 0 = x
   ·rw [h,decide_eq_true (List.mem_cons_self)];refine ev_some fun k=>?_;simp only [impl_hasInt.l0];rw [if_pos (by omega),if_pos (by omega),if_pos (by omega),rd_nat,if_pos h]
   rw [mem_cons_ne h];refine Ev.step (fun k=>?_) (ih (i + 1) (by omega));simp only [impl_hasInt.l0];rw [if_pos (by omega),if_pos (by omega),if_pos (by omega),rd_nat,if_neg h,wsucc (n:=l.length) hil hl]
 have h:=main l.length 0 (by omega);rw [List.drop_zero] at h;exact h
theorem iKnots_ev (a : List S80) (r : Int) (hn : a.length ≤ 1048576) (hx : ∀ x ∈ a,x.f1.length ≤ 1048576) :
  ∃ L,Ev (fun k=>impl_knotsOf.f k a r) L ∧ L.length ≤ 1048577 ∧ ∀ i : Nat,i < a.length → ((i : Int) ∈ L ↔ keptB a r i = true):=by
 unfold impl_knotsOf.f keptB;simp only [iRoot_eq a r (by omega),Option.bind_some]
 by_cases hr : rootB a r = true
 ·obtain ⟨r0,rl,_⟩:=root_lt hr;simp only [if_pos hr,if_pos r0,if_pos (show r < (a.length : Int) by omega),rd_T80];have hm:=hx _ (getD_mem (z:=z80) rl);generalize (a.getD r.toNat z80).f1 = kids at hm ⊢
  have main : ∀ (d i : Nat) (acc : List Int),i + d = kids.length → acc.length ≤ 1 + i →
    ∃ L,Ev (fun k=>impl_knotsOf.l0 k acc kids kids.length (i : Int) a) L ∧ L.length ≤ 1048577 ∧ ∀ j : Nat,j < a.length → ((j : Int) ∈ L ↔ (j : Int) ∈ acc ∨ (j : Int) ∈ kids.drop i):=by
   intro d
   induction d with
   | zero =>
    intro i acc hi hl;refine ⟨acc,ev_some fun k=>by simp only [impl_knotsOf.l0];rw [if_neg (by omega)],by omega,fun j _=>?_⟩;rw [List.drop_eq_nil_of_le (by omega)];simp
   | succ d ih =>
    intro i acc hi hl;have hil : i < kids.length:=by omega
    have st : ∀ k,impl_knotsOf.l0 (k + 1) acc kids kids.length (i : Int) a = if 0 ≤ kids.getD i 0 ∧ kids.getD i 0 ≤ (a.length : Int) - 1 then (impl_hasInt.f k acc (kids.getD i 0)).bind fun t=>if t = true then impl_knotsOf.l0 k acc kids kids.length ((i + 1 : Nat) : Int) a else impl_knotsOf.l0 k (acc ++ [kids.getD i 0]) kids kids.length ((i + 1 : Nat) : Int) a else impl_knotsOf.l0 k acc kids kids.length ((i + 1 : Nat) : Int) a:=fun k=>by
     simp only [impl_knotsOf.l0];rw [if_pos (by omega),if_pos (by omega),if_pos (by omega),rd_nat,w64 (x:=(a.length : Int) - 1) (by omega) (by omega),wsucc (n:=kids.length) hil (by omega)];simp only [in_eq,Option.bind_some,decide_eq_true_eq,if_pos (show acc.length < 17592186044416 by omega)]
    rw [drop_cons 0 hil]
    by_cases h : 0 ≤ kids.getD i 0 ∧ kids.getD i 0 ≤ (a.length : Int) - 1
    ·by_cases h2 : kids.getD i 0 ∈ acc
     ·obtain ⟨L,h3,h4,h5⟩:=ih (i + 1) acc (by omega) (by omega);refine ⟨L,Ev.step (fun k=>by rw [st k,if_pos h]) (ev_bind (iHasInt_ev acc _ (by omega)) ?_),h4,fun j hj=>?_⟩
      ·rw [decide_eq_true h2];simp only [if_true];exact h3
      rw [h5 j hj,List.mem_cons];constructor
      ·rintro (h | h)
       ·exact .inl h
       exact .inr (.inr h)
      rintro (h | h | h)
      ·exact .inl h
      ·exact .inl (by rw [h];exact h2)
      exact .inr h
     obtain ⟨L,h3,h4,h5⟩:=ih (i + 1) (acc ++ [kids.getD i 0]) (by omega) (by simp;omega);refine ⟨L,Ev.step (fun k=>by rw [st k,if_pos h]) (ev_bind (iHasInt_ev acc _ (by omega)) ?_),h4,fun j hj=>?_⟩
     ·rw [decide_eq_false h2];exact h3
     rw [h5 j hj,List.mem_cons,List.mem_append,List.mem_singleton,or_assoc]
    obtain ⟨L,h3,h4,h5⟩:=ih (i + 1) acc (by omega) (by omega);refine ⟨L,Ev.step (fun k=>by rw [st k,if_neg h]) h3,h4,fun j hj=>?_⟩;rw [h5 j hj,List.mem_cons];constructor
    ·rintro (h | h)
     ·exact .inl h
     exact .inr (.inr h)
    rintro (h6 | h6 | h6)
    ·exact .inl h6
    ·exact absurd (by omega) h
    exact .inr h6
  obtain ⟨L,h1,h2,h3⟩:=main kids.length 0 [r] (by omega) (by simp);refine ⟨L,h1,h2,fun i hi=>?_⟩;rw [h3 i hi,hr];simp
 simp only [if_neg hr,Bool.eq_false_iff.mpr hr];exact ⟨[],Ev.now _,by simp,fun i hi=>by simp⟩
theorem sHas_ev (a : List S80) (r : Int) (hn : a.length ≤ 1048576) (ha : arenaB a = true) (hr : (decide (r = -1) || rootB a r) = true) :
  ∃ L,Ev (fun k=>spec_l11Has.f k a r) L ∧ L.length = a.length ∧ ∀ i : Nat,i < a.length → L.getD i false = keptB a r i:=by
 unfold spec_l11Has.f keptB;simp only [if_pos (show (0 : Int) ≤ (a.length : Int) by omega),Int.toNat_natCast,if_pos (show a.length ≤ 281474976710656 by omega),Option.bind_some,List.length_replicate]
 by_cases h0 : r < 0
 ·refine ⟨_,by simp only [if_pos h0];exact Ev.now _,by simp,fun i hi=>?_⟩;rw [getD_rep];unfold rootB;rw [decide_eq_false (by omega)];rfl
 have hb : rootB a r = true:=by
  rw [Bool.or_eq_true,decide_eq_true_eq] at hr;rcases hr with h | h
  ·omega
  exact h
 obtain ⟨r0,rl,rf⟩:=root_lt hb;simp only [if_neg h0,if_pos r0,if_pos (show r < (a.length : Int) by omega),hb,Bool.true_and];obtain ⟨h4,_⟩:=knot_of ha rl
 have main : ∀ (d j : Nat) (acc : List Bool),j + d = 4 → acc.length = a.length → ∃ L,Ev (fun k=>spec_l11Has.l0 k r acc (j : Int) a) L ∧ L.length = a.length ∧ ∀ i : Nat,i < a.length → L.getD i false = (acc.getD i false || decide ((i : Int) ∈ (a.getD r.toNat z80).f1.drop j)):=by
  intro d
  induction d with
  | zero =>
   intro j acc hj hl;refine ⟨acc,ev_some fun k=>by simp only [spec_l11Has.l0];rw [if_neg (by omega)],hl,fun i _=>?_⟩;rw [List.drop_eq_nil_of_le (by omega)];simp
  | succ d ih =>
   intro j acc hj hl;have hjl : j < (a.getD r.toNat z80).f1.length:=by omega
   have hk:=kid_of ha rl rf (j:=j) (by omega);rw [drop_cons 0 hjl]
   have st : ∀ k,spec_l11Has.l0 (k + 1) r acc (j : Int) a = if (a.getD r.toNat z80).f1.getD j 0 ≥ 0 then spec_l11Has.l0 k r (acc.set ((a.getD r.toNat z80).f1.getD j 0).toNat true) ((j + 1 : Nat) : Int) a else spec_l11Has.l0 k r acc ((j + 1 : Nat) : Int) a:=fun k=>by
    simp only [spec_l11Has.l0];rw [show rd_T80 a r = a.getD r.toNat z80 from rfl,if_pos (by omega),if_pos r0,if_pos (by omega),if_pos (by omega),if_pos (by omega),rd_nat,wsucc (i:=j) (n:=4) (by omega) (by omega)]
    by_cases h : (a.getD r.toNat z80).f1.getD j 0 ≥ 0
    ·rw [if_pos h,if_pos h,if_pos (by omega),if_pos (by omega)]
    rw [if_neg h,if_neg h]
   rcases hk with hk | ⟨k0,k1,_⟩
   ·obtain ⟨L,h3,h5,h6⟩:=ih (j + 1) acc (by omega) hl;refine ⟨L,Ev.step (fun k=>by rw [st k,if_neg (by omega)]) h3,h5,fun i hi=>?_⟩;rw [h6 i hi,mem_cons_ne (by omega)]
   obtain ⟨L,h3,h5,h6⟩:=ih (j + 1) (acc.set ((a.getD r.toNat z80).f1.getD j 0).toNat true) (by omega) (by rw [List.length_set];exact hl);refine ⟨L,Ev.step (fun k=>by rw [st k,if_pos (by omega)]) h3,h5,fun i hi=>?_⟩;rw [h6 i hi,getD_set _ _ _ (by omega)]
   by_cases h : (a.getD r.toNat z80).f1.getD j 0 = (i : Int)
   ·rw [if_pos (by omega),h,decide_eq_true (List.mem_cons_self)];simp
   rw [if_neg (by omega),mem_cons_ne h]
 obtain ⟨L,h1,h2,h3⟩:=main 4 0 ((List.replicate a.length false).set r.toNat true) rfl (by simp);refine ⟨L,h1,h2,fun i hi=>?_⟩;rw [h3 i hi,getD_set _ _ _ (by simp;omega),getD_rep,List.drop_zero]
 by_cases h : (i : Int) = r
 ·rw [if_pos (by omega),decide_eq_true h]
 rw [if_neg (by omega),decide_eq_false h]
def swRes (roots : List Int) (z : List Int × List S80) : List S80 × List Int:=(z.2,roots.map (movB z.1))
theorem okRoots {a : List S80} {roots : List Int} (h : (roots.all fun r=>decide (r = -1) || rootB a r) = true) {m : Nat} (hm : m < roots.length) : (decide (roots.getD m 0 = -1) || rootB a (roots.getD m 0)) = true:=by
 rw [List.all_eq_true] at h;exact h _ (getD_mem hm)
theorem okRoots_lt {a : List S80} {roots : List Int} (h : (roots.all fun r=>decide (r = -1) || rootB a r) = true) (m : Nat) (hm : m < roots.length) (hge : roots.getD m 0 ≥ 0) : roots.getD m 0 < (a.length : Int):=by
 have h1:=okRoots h hm;rw [Bool.or_eq_true,decide_eq_true_eq] at h1;rcases h1 with h1 | h1
 ·omega
 have:=root_lt h1;omega
end Go.Proofs.YteideicglgpfiaaGreat.Pu

namespace Go.Proofs.YteideicglgpfiaaGreat.Pu
set_option linter.unusedVariables false
set_option linter.unusedSimpArgs false
open Go.RowKit Go.Proofs.YteideicglgpfiaaGreat.PK Go.Proofs.YteideicglgpfiaaGreatW.PrintWords
theorem sSweep5 (roots pos : List Int) (out : List S80) (hr : roots.length ≤ 1048576) (hok : ∀ m,m < roots.length → roots.getD m 0 ≥ 0 → roots.getD m 0 < (pos.length : Int)) :
  ∀ (d m : Nat),m + d = roots.length → Ev (fun k=>spec_SweepArena.l5 k (upd (movB pos) roots m) pos (m : Int) out) (out,roots.map (movB pos)):=by
 intro d
 induction d with
 | zero =>
  intro m hm;obtain rfl : m = roots.length:=by omega
  refine ev_some fun k=>?_;simp only [spec_SweepArena.l5];rw [upd_len,if_neg (by omega),upd_full]
 | succ d ih =>
  intro m hm;have hml : m < roots.length:=by omega
  refine Ev.step (fun k=>?_) (ih (m + 1) (by omega));simp only [spec_SweepArena.l5];rw [upd_len,if_pos (by omega),if_pos (by omega),rd_nat,upd_get,Int.toNat_natCast,wsucc (n:=roots.length) hml (by omega)]
  by_cases h : roots.getD m 0 ≥ 0
  ·have e : rd pos (roots.getD m 0) = movB pos (roots.getD m 0):=by unfold movB;rw [if_pos h];rfl
   have h2:=hok m hml h;rw [if_pos h,if_pos (by omega),if_pos (by omega),e,upd_set _ _ _ hml]
  rw [if_neg h,upd_id _ _ _ (by unfold movB;rw [if_neg h])]
theorem sSweep4 (a : List S80) (roots : List Int) (x9 : List Bool) (pos kids : List Int) (i : Nat) (out : List S80) (leaf : Bool) (R : List S80 × List Int)
  (hi : i < a.length) (hn : a.length ≤ 1048576) (hp : pos.length = a.length) (ho : out.length ≤ i) (h4 : kids.length = 4) (hk : leaf = false → ∀ j,j < 4 → kids.getD j 0 ≥ 0 → kids.getD j 0 < (a.length : Int))
  (he : Ev (fun k=>spec_SweepArena.l3 k roots x9 (pos.set i (out.length : Int)) ((i + 1 : Nat) : Int) a (out ++ [⟨leaf,swKids leaf pos kids⟩])) R) :
  Ev (fun k=>spec_SweepArena.l4 k roots x9 pos (i : Int) 0 a out leaf kids) R:=by
 have fin : ∀ (j : Nat),(leaf = true ∨ j = 4) → Ev (fun k=>spec_SweepArena.l4 k roots x9 pos (i : Int) (j : Int) a out leaf (swKids leaf pos kids)) R:=by
  intro j hj;refine Ev.step (f:=fun k=>spec_SweepArena.j6 k roots x9 pos (i : Int) (j : Int) false a out leaf (swKids leaf pos kids)) (fun k=>?_) (Ev.step (fun k=>?_) he)
  ·simp only [spec_SweepArena.l4]
   by_cases h : j < 4
   ·obtain rfl : leaf = true:=by rcases hj with h1 | h1;exact h1;omega
    rw [if_pos (by omega)];rfl
   rw [if_neg (by omega)]
  simp only [spec_SweepArena.j6];rw [if_neg (by decide),if_pos (by omega),if_pos (by omega),if_pos (by omega),wsucc (n:=a.length) hi (by omega),Int.toNat_natCast]
 cases leaf with
 | true=>exact fin 0 (.inl rfl)
 | false =>
  have main : ∀ (e j : Nat),j + e = 4 → Ev (fun k=>spec_SweepArena.l4 k roots x9 pos (i : Int) (j : Int) a out false (upd (movB pos) kids j)) R:=by
   intro e
   induction e with
   | zero =>
    intro j hj;obtain rfl : j = 4:=by omega
    have h:=fin 4 (.inr rfl);rw [show swKids false pos kids = upd (movB pos) kids 4 by rw [← h4,upd_full];rfl] at h;exact h
   | succ e ihe =>
    intro j hj;have hjl : j < kids.length:=by omega
    refine Ev.step (f:=fun k=>spec_SweepArena.j6 k roots x9 pos (i : Int) (j : Int) true a out false (upd (movB pos) kids j)) (fun k=>?_) (Ev.step (fun k=>?_) (ihe (j + 1) (by omega)))
    ·simp only [spec_SweepArena.l4];rw [if_pos (by omega)];rfl
    simp only [spec_SweepArena.j6];rw [if_pos trivial,upd_len,if_pos (by omega),if_pos (by omega),rd_nat,upd_get,Int.toNat_natCast,wsucc (i:=j) (n:=4) (by omega) (by omega)]
    by_cases h : kids.getD j 0 ≥ 0
    ·have e : rd pos (kids.getD j 0) = movB pos (kids.getD j 0):=by unfold movB;rw [if_pos h];rfl
     have h2:=hk rfl j (by omega) h;rw [if_pos h,if_pos (by omega),if_pos (by omega),e,upd_set _ _ _ hjl]
    rw [if_neg h,upd_id _ _ _ (by unfold movB;rw [if_neg h])]
  have h:=main 4 0 rfl;rw [upd_zero] at h;exact h
theorem sSweep3 (a : List S80) (roots : List Int) (x9 : List Bool) (K : Nat → Bool) (hn : a.length ≤ 1048576) (hr : roots.length ≤ 1048576) (ha : arenaB a = true) (hok : ∀ m,m < roots.length → roots.getD m 0 ≥ 0 → roots.getD m 0 < (a.length : Int))
  (hl : x9.length = a.length) (hK : ∀ i,i < a.length → x9.getD i false = K i) :
  ∀ (d i : Nat) (pos : List Int) (out : List S80),i + d = a.length → pos.length = a.length → out.length ≤ i → Ev (fun k=>spec_SweepArena.l3 k roots x9 pos (i : Int) a out) (swRes roots (swAll a K d i pos out)):=by
 intro d
 induction d with
 | zero =>
  intro i pos out hi hp ho;have h:=sSweep5 roots pos out hr (by rw [hp];exact hok) roots.length 0 (by omega);rw [upd_zero] at h;refine Ev.step (fun k=>?_) h;simp only [spec_SweepArena.l3];rw [if_neg (by omega)];rfl
 | succ d ih =>
  intro i pos out hi hp ho;have hil : i < a.length:=by omega
  obtain ⟨h4,_⟩:=knot_of ha hil;unfold swAll
  by_cases h : K i = true
  ·rw [if_pos h];have he:=ih (i + 1) (pos.set i (out.length : Int)) (out ++ [⟨(a.getD i z80).f0,swKids (a.getD i z80).f0 pos (a.getD i z80).f1⟩]) (by omega) (by rw [List.length_set];exact hp) (by simp;omega);refine Ev.step (fun k=>?_) (sSweep4 a roots x9 pos _ i out _ _ hil hn hp ho h4 (fun hf j hj hge=>?_) he)
   ·simp only [spec_SweepArena.l3];rw [if_pos (by omega),if_pos (by omega),if_pos (by omega),rdOf_nat,hK i hil,if_pos h,rdIK_nat,Option.bind_some,if_pos (show ([] : List Int).length + (a.getD i z80).f1.length < 17592186044416 by rw [h4];decide),List.nil_append]
   rcases kid_of ha hil hf hj with h1 | ⟨_,h2,_⟩
   ·omega
   omega
  rw [if_neg h];refine Ev.step (fun k=>?_) (ih (i + 1) pos out (by omega) hp (by omega));simp only [spec_SweepArena.l3];rw [if_pos (by omega),if_pos (by omega),if_pos (by omega),rdOf_nat,hK i hil,if_neg h,wsucc (n:=a.length) hil (by omega)]
theorem sSweep1 (a : List S80) (roots : List Int) (hn : a.length ≤ 1048576) (hr : roots.length ≤ 1048576) (ha : arenaB a = true) (hok : (roots.all fun r=>decide (r = -1) || rootB a r) = true) :
  ∀ (d m : Nat) (x9 : List Bool),m + d = roots.length → x9.length = a.length → (∀ i,i < a.length → (x9.getD i false || (roots.drop m).any fun r=>keptB a r i) = keepB a roots i) →
   Ev (fun k=>spec_SweepArena.l1 k roots roots x9 (m : Int) a) (swRes roots (swAll a (keepB a roots) a.length 0 (List.replicate a.length 0) [])):=by
 intro d
 induction d with
 | zero =>
  intro m x9 hm hl hK;refine Ev.step (fun k=>?_) (sSweep3 a roots x9 (keepB a roots) hn hr ha (okRoots_lt hok) hl (fun i hi=>?_) a.length 0 (List.replicate a.length 0) [] (by omega) (by simp) (by simp))
  ·simp only [spec_SweepArena.l1];rw [if_neg (by omega),if_pos (by omega),Int.toNat_natCast,if_pos (by omega)];rfl
  have h:=hK i hi;rw [List.drop_eq_nil_of_le (by omega)] at h
  simpa using h
 | succ d ih =>
  intro m x9 hm hl hK;have hml : m < roots.length:=by omega
  obtain ⟨L,h1,h2,h3⟩:=sHas_ev a (roots.getD m 0) hn ha (okRoots hok hml)
  have main : ∀ (e j : Nat) (y9 : List Bool),j + e = a.length → y9.length = a.length → (∀ i,i < a.length → (y9.getD i false || (if j ≤ i then L.getD i false else false)) = (x9.getD i false || keptB a (roots.getD m 0) i)) →
    Ev (fun k=>spec_SweepArena.l2 k roots roots y9 (m : Int) L (j : Int) a) (swRes roots (swAll a (keepB a roots) a.length 0 (List.replicate a.length 0) [])):=by
   intro e
   induction e with
   | zero =>
    intro j y9 hj hy hY;refine Ev.step (fun k=>?_) (ih (m + 1) y9 (by omega) hy (fun i hi=>?_))
    ·simp only [spec_SweepArena.l2];rw [if_neg (by omega),wsucc (n:=roots.length) hml (by omega)]
    have h:=hY i hi;rw [if_neg (by omega),Bool.or_false] at h;rw [h,← hK i hi,drop_cons 0 hml,List.any_cons,Bool.or_assoc]
   | succ e ihe =>
    intro j y9 hj hy hY;have hjl : j < a.length:=by omega
    refine Ev.step (fun k=>?_) (ihe (j + 1) (y9.set j (if y9.getD j false = true then true else L.getD j false)) (by omega) (by rw [List.length_set];exact hy) (fun i hi=>?_))
    ·simp only [spec_SweepArena.l2];rw [if_pos (by omega),if_pos (by omega),if_pos (by omega),rdOf_nat,rdOf_nat,Int.toNat_natCast,wsucc (i:=j) (n:=a.length) (by omega) (by omega)]
     by_cases h : y9.getD j false = true
     ·rw [if_pos h,if_pos h]
     rw [if_neg h,if_neg h]
    rw [← hY i hi,getD_set _ _ _ (by omega)]
    by_cases h : i = j
    ·subst h;rw [if_pos rfl,if_neg (show ¬ (i + 1 ≤ i) by omega),if_pos (Nat.le_refl i)]
     by_cases h5 : y9.getD i false = true
     ·rw [if_pos h5,h5];rfl
     rw [if_neg h5,Bool.eq_false_iff.mpr h5];cases L.getD i false <;> rfl
    rw [if_neg h]
    by_cases h5 : j ≤ i
    ·rw [if_pos (by omega),if_pos h5]
    rw [if_neg (by omega),if_neg h5]
  refine Ev.step (f:=fun k=>(spec_l11Has.f k a (roots.getD m 0)).bind fun t=>spec_SweepArena.l2 k roots roots x9 (m : Int) t 0 a) (fun k=>?_) (ev_bind h1 (main a.length 0 x9 (by omega) hl (fun i hi=>?_)))
  ·simp only [spec_SweepArena.l1];rw [if_pos (by omega),if_pos (by omega),rd_nat]
  rw [if_pos (by omega),h3 i hi]
theorem sSweep_ev (a : List S80) (roots : List Int) (hn : a.length ≤ 1048576) (hx : ∀ x ∈ a,x.f1.length ≤ 1048576) (hr : roots.length ≤ 1048576) : Ev (fun k=>spec_SweepArena.f k a roots) (sweepB a roots):=by
 have j1 : ∀ q : Bool,(q = true → arenaB a = true ∧ (roots.all fun r=>decide (r = -1) || rootB a r) = true) → Ev (fun k=>spec_SweepArena.j1 k roots roots q a) (if q = true then swRes roots (swAll a (keepB a roots) a.length 0 (List.replicate a.length 0) []) else (a,roots)):=by
  intro q hq;cases q with
  | false =>
   refine Ev.step (f:=fun k=>(spec_l11Copy.f k a).bind fun t=>some (t,roots)) (fun k=>?_) (ev_bind (sCopyArena_ev a hn hx) (Ev.now _));simp only [spec_SweepArena.j1];rw [if_neg (by decide)]
  | true =>
   obtain ⟨h1,h2⟩:=hq rfl;rw [if_pos rfl];refine Ev.step (fun k=>?_) (sSweep1 a roots hn hr h1 h2 roots.length 0 (List.replicate a.length false) (by omega) (by simp) (fun i hi=>?_))
   ·simp only [spec_SweepArena.j1];rw [if_pos trivial,if_pos (by omega),Int.toNat_natCast,if_pos (by omega)];rfl
   rw [getD_rep,List.drop_zero];rfl
 have l0 : ∀ (d m : Nat) (q : Bool),m + d = roots.length → (q = true → arenaB a = true ∧ ∀ r ∈ roots.take m,(decide (r = -1) || rootB a r) = true) →
   Ev (fun k=>spec_SweepArena.l0 k roots roots q (m : Int) a) (if (q && (roots.drop m).all fun r=>decide (r = -1) || rootB a r) = true then swRes roots (swAll a (keepB a roots) a.length 0 (List.replicate a.length 0) []) else (a,roots)):=by
  intro d
  induction d with
  | zero =>
   intro m q hm hq;rw [List.drop_eq_nil_of_le (by omega),List.all_nil,Bool.and_true];refine Ev.step (fun k=>?_) (j1 q fun h=>⟨(hq h).1,?_⟩)
   ·simp only [spec_SweepArena.l0];rw [if_neg (by omega)]
   have:=(hq h).2;rw [List.take_of_length_le (by omega)] at this;rw [List.all_eq_true];exact this
  | succ d ih =>
   intro m q hm hq;have hml : m < roots.length:=by omega
   cases q with
   | false =>
    rw [Bool.false_and];refine Ev.step (fun k=>?_) (j1 false (fun h=>absurd h (by decide)));simp only [spec_SweepArena.l0];rw [if_pos (by omega),if_neg (by decide)]
   | true =>
    rw [Bool.true_and,drop_cons 0 hml,List.all_cons];refine Ev.step (fun k=>?_) (ih (m + 1) (decide (roots.getD m 0 = -1) || rootB a (roots.getD m 0)) (by omega) fun h=>⟨(hq rfl).1,fun r hr2=>?_⟩)
    ·simp only [spec_SweepArena.l0];rw [if_pos (by omega),if_pos trivial,if_pos (by omega),rd_nat,sRoot_eq a _ (by omega),Option.bind_some,wsucc (n:=roots.length) hml (by omega)]
    rw [List.take_succ_eq_append_getElem hml,List.mem_append,List.mem_singleton] at hr2;rcases hr2 with h5 | h5
    ·exact (hq rfl).2 r h5
    rw [h5];rw [List.getD_eq_getElem?_getD,List.getElem?_eq_getElem hml] at h;exact h
 unfold spec_SweepArena.f sweepB sweepOk;simp only [Option.bind_some,List.nil_append];simp only [if_pos (show ([] : List Int).length + roots.length < 17592186044416 by rw [List.length_nil];omega)];have h:=l0 roots.length 0 (arenaB a) (by omega) (fun h=>⟨h,by simp⟩);rw [List.drop_zero] at h;exact ev_bind (sArena_ev a (by omega)) h
end Go.Proofs.YteideicglgpfiaaGreat.Pu

namespace Go.Proofs.YteideicglgpfiaaGreat.Pu
set_option linter.unusedVariables false
set_option linter.unusedSimpArgs false
open Go.RowKit Go.Proofs.YteideicglgpfiaaGreat.PK Go.Proofs.YteideicglgpfiaaGreatW.PrintWords
theorem rdLV_nat (l : List S71) (i : Nat) : rd_T71 l (i : Int) = l.getD i z71:=rfl
theorem rdIV_nat (l : List S69) (i : Nat) : rd_T69 l (i : Int) = l.getD i z69:=rfl
def toVl (x : S71) : S69:=⟨x.f0,x.f1⟩
theorem toVolS_ev (l : List S71) (h : l.length ≤ 1048576) : Ev (fun k=>laws_toVolS.f k l) (l.map toVl):=by
 have h1:=ev_fill_all (E:=fun _ i=>(laws_toVol.f (rd_T71 l i).f0 (rd_T71 l i).f1).bind fun bt=>some (⟨bt.1,bt.2⟩ : S69)) (l:=l) (z:=z71) (g:=toVl) (xs:=List.replicate l.length z69) (L:=fun k xs i=>laws_toVolS.l0 k l xs i) (by omega) (fun k xs i=>by
  simp only [laws_toVolS.l0,Option.bind_assoc,Option.bind_some]) (fun i hi=>by rw [rdLV_nat];exact Ev.now _) (by simp)
 refine ev_ext (fun k=>?_) h1;unfold laws_toVolS.f;rw [if_pos (by omega),if_pos (by simp;omega)];simp
theorem toStore_ev (v : List S71) (a : List S79) (n : Int) (hv : v.length ≤ 1048576) (h : a.length ≤ 1048576) (hk : ∀ x ∈ a,x.f1.length ≤ 1048576) : Ev (fun k=>laws_toStore.f k v a n) (v.map toVl,toA a,n):=by
 unfold laws_toStore.f;exact ev_bind (toVolS_ev v hv) (ev_bind (toArena_ev a (by omega) (fun x hx=>by have:=hk x hx;omega)) (Ev.now _))
theorem eqVolS_ev (l : List S69) (hn : l.length ≤ 1048576) : Ev (fun k=>laws_eqVolS.f k l l) true:=by
 have h1:=ev_all (n:=l.length) (m:=l.length) (L:=fun k i=>laws_eqVolS.l0 k l l i) (E:=fun _ i=>laws_eqVol.f (rd_T69 l i).f0 (rd_T69 l i).f1 (rd_T69 l i).f0 (rd_T69 l i).f1) (by omega) (Nat.le_refl _) (fun k i=>by simp only [laws_eqVolS.l0])
  (fun i _=>ev_const (by simp [laws_eqVol.f])) l.length 0 (by omega)
 refine ev_ext (fun k=>?_) h1;unfold laws_eqVolS.f;rw [if_pos rfl];rfl
theorem eqStore_ev (v : List S69) (a : List S80) (n : Int) (hv : v.length ≤ 1048576) (hn : a.length ≤ 9223372036854775807) (hk : ∀ x ∈ a,x.f1.length ≤ 9223372036854775807) : Ev (fun k=>laws_eqStore.f k v a n v a n) true:=by
 unfold laws_eqStore.f;refine ev_bind (eqVolS_ev v hv) ?_;simp only [if_true];refine ev_bind (eqArena_ev a hn hk) ?_;simp only [if_true];exact Ev.now _
theorem szStore_ev (v : List S71) (l : List S79) (n a : Int) (h0 : 0 ≤ a) (h1 : a ≤ 1048576) (hv : v.length ≤ 9223372036854775807) (hn : l.length ≤ 9223372036854775807) (hk : ∀ x ∈ l,x.f1.length ≤ 9223372036854775807) :
  ∃ r,Ev (fun k=>laws_szStore.f k v l n a) r ∧ r ≤ a ∧ (0 ≤ r → v.length ≤ 1048576 ∧ l.length ≤ 1048576 ∧ ∀ x ∈ l,x.f1.length ≤ 1048576):=by
 unfold laws_szStore.f laws_szVolS.f;rw [w64 (by omega) (by omega)]
 by_cases h : a - (v.length : Int) < 0
 ·exact ⟨-1,by simp only [if_pos h,Option.bind_some,if_pos (show (-1 : Int) < 0 by omega)];exact Ev.now _,by omega,fun h2=>by omega⟩
 simp only [if_neg h,Option.bind_some];obtain ⟨r,hr,hra,hq⟩:=szArena_ev l (a - (v.length : Int)) (by omega) (by omega) hn hk
 by_cases h2 : r < 0
 ·exact ⟨-1,ev_bind hr (by simp only [if_pos h2];exact Ev.now _),by omega,fun h3=>by omega⟩
 refine ⟨r,ev_bind hr (by simp only [if_neg h2];exact Ev.now _),by omega,fun h3=>?_⟩;obtain ⟨a1,a2⟩:=hq h3;exact ⟨by omega,by omega,fun x hx=>by have:=a2 x hx;omega⟩
theorem store_start {v : List S71} {l : List S79} {n a : Int} (h0 : 0 ≤ a) (h1 : a ≤ 1048576) (hv : v.length ≤ maxLen) (hl : l.length ≤ maxLen) (hx : ∀ x ∈ l,x.f1.length ≤ maxLen) :
  ∃ r,Ev (fun k=>laws_szStore.f k v l n a) r ∧ r ≤ a ∧ (0 ≤ r → Ev (fun k=>laws_toStore.f k v l n) (v.map toVl,toA l,n) ∧ Ev (fun k=>laws_eqStore.f k (v.map toVl) (toA l) n (v.map toVl) (toA l) n) true ∧ (v.map toVl).length ≤ 1048576 ∧ (toA l).length ≤ 1048576 ∧ ∀ x ∈ toA l,x.f1.length ≤ 1048576):=by
 unfold maxLen at hv hl hx;obtain ⟨r,hr,hra,hq⟩:=szStore_ev v l n a h0 h1 (by omega) (by omega) (fun x h=>by have:=hx x h;omega);refine ⟨r,hr,hra,fun h2=>?_⟩;obtain ⟨a1,a2,a3⟩:=hq h2;have hlen : (toA l).length = l.length:=by unfold toA;exact List.length_map _
 have hlv : (v.map toVl).length = v.length:=List.length_map _
 have hm : ∀ x ∈ toA l,x.f1.length ≤ 1048576:=by
  intro x h;unfold toA at h;obtain ⟨y,hy,rfl⟩:=List.mem_map.1 h;exact a3 y hy
 exact ⟨toStore_ev v l n a1 a2 a3,eqStore_ev _ _ n (by omega) (by omega) (fun x h=>by have:=hm x h;omega),by omega,by omega,hm⟩
end Go.Proofs.YteideicglgpfiaaGreat.Pu

namespace Go.Proofs.YteideicglgpfiaaGreat.Pu
set_option linter.unusedVariables false
set_option linter.unusedSimpArgs false
open Go.RowKit Go.Proofs.YteideicglgpfiaaGreat.PK Go.Proofs.YteideicglgpfiaaGreatW.PrintWords
def rootsB (v : List S69) : List Int:=v.map fun x=>x.f1
theorem rootsB_get (v : List S69) {i : Nat} (h : i < v.length) : (rootsB v).getD i 0 = (v.getD i z69).f1:=by
 unfold rootsB;rw [List.getD_eq_getElem?_getD,List.getD_eq_getElem?_getD,List.getElem?_map,List.getElem?_eq_getElem h];rfl
def volOk (v : List S69) (a : List S80) (i : Nat) : Bool :=
 decide (1 ≤ (v.getD i z69).f0 ∧ (v.getD i z69).f0 ≤ 9) && ((decide (i = 0) || !decide ((v.getD (i - 1) z69).f0 ≥ (v.getD i z69).f0)) && (decide ((v.getD i z69).f1 = -1) || rootB a (v.getD i z69).f1))
def gB (a : List S80) (r : Int) (s : Nat) : Int:=if r < 0 then 0 else numB a r (s : Int)
def getOk (a : List S80) (n r : Int) : Bool:=(List.range' 0 16).all fun s=>!decide (gB a r s ≥ n)
def leafOk (a : List S80) (n : Int) (j : Nat) : Bool:=(a.getD j z80).f1.all fun x=>!((a.getD j z80).f0 && decide (x ≥ n))
def specOk (v : List S69) (a : List S80) (n : Int) : Bool :=
 (List.range' 0 v.length).all (fun i=>volOk v a i && getOk a n (v.getD i z69).f1) && decide ((sweepB a (rootsB v)).1.length = a.length)
def implOk (v : List S69) (a : List S80) (n : Int) : Bool :=
 (List.range' 0 v.length).all (volOk v a) && (List.range' 0 a.length).all fun j=>keepB a (rootsB v) j && leafOk a n j
theorem gB_eq (a : List S80) (r : Int) (s : Nat) (ha : arenaB a = true) (hr : (decide (r = -1) || rootB a r) = true) (hs : s < 16) : spec_l11Get.f a r (s : Int) = some (gB a r s):=by
 unfold gB
 by_cases h : r < 0
 ·rw [if_pos h];unfold spec_l11Get.f;rw [if_pos h]
 rw [if_neg h];rw [Bool.or_eq_true,decide_eq_true_eq] at hr;exact sGet_eq a r s ha (hr.resolve_left (by omega)) (by omega) (by omega)
theorem volOk_root {v : List S69} {a : List S80} {i : Nat} (h : volOk v a i = true) : (decide ((v.getD i z69).f1 = -1) || rootB a (v.getD i z69).f1) = true:=by
 unfold volOk at h;rw [Bool.and_eq_true,Bool.and_eq_true] at h;exact h.2.2
theorem wpred {i : Nat} (h : 0 < i) (hn : i ≤ 9223372036854775807) : wrap64 ((i : Int) - 1) = ((i - 1 : Nat) : Int):=by
 rw [w64 (by omega) (by omega)];omega
theorem sRoots_ev (v : List S69) (a : List S80) (n : Int) (hv : v.length ≤ 1048576) : Ev (fun k=>spec_l12Roots.f k v a n) (rootsB v):=by
 have main : ∀ (d i : Nat) (acc : List Int),i + d = v.length → acc.length = i → Ev (fun k=>spec_l12Roots.l0 k acc (i : Int) v a n) (acc ++ (rootsB v).drop i):=by
  intro d
  induction d with
  | zero=>intro i acc hi hl;exact ev_some fun k=>by simp only [spec_l12Roots.l0];rw [if_neg (by omega),List.drop_eq_nil_of_le (by unfold rootsB;rw [List.length_map];omega),List.append_nil]
  | succ d ih =>
   intro i acc hi hl;have hil : i < v.length:=by omega
   have h:=ih (i + 1) (acc ++ [(v.getD i z69).f1]) (by omega) (by simp;omega);rw [List.append_assoc,List.singleton_append,← rootsB_get v hil,← drop_cons 0 (by unfold rootsB;rw [List.length_map];omega)] at h;refine Ev.step (fun k=>?_) h;simp only [spec_l12Roots.l0];rw [if_pos (by omega),if_pos (by omega),if_pos (by omega),rdIV_nat,wsucc (n:=v.length) hil (by omega),rootsB_get v hil]
 have h:=main v.length 0 [] (by omega) rfl;rw [List.nil_append,List.drop_zero] at h;exact h
theorem iVol_step (k i : Nat) (acc : List Int) (v : List S69) (a : List S80) (n : Int) (hi : i < v.length) (hv : v.length ≤ 1048576) (hn : a.length ≤ 1048576) :
  impl_StoreOk.l0 (k + 1) acc v (v.length : Int) (i : Int) v a n = if volOk v a i = true then (impl_knotsOf.f k a (v.getD i z69).f1).bind fun t=>if acc.length + t.length < 17592186044416 then impl_StoreOk.l0 k (acc ++ t) v (v.length : Int) ((i + 1 : Nat) : Int) v a n else none else some false:=by
 simp only [impl_StoreOk.l0];rw [if_pos (by omega),if_pos (by omega),if_pos (by omega),rdIV_nat,in_eq,Option.bind_some,iRoot_eq a _ (by omega),wsucc (n:=v.length) hi (by omega)];unfold volOk
 by_cases h1 : 1 ≤ (v.getD i z69).f0 ∧ (v.getD i z69).f0 ≤ 9
 ·rw [decide_eq_true h1,if_pos rfl,Bool.true_and]
  have tail : (if (v.getD i z69).f1 = -1 then (impl_knotsOf.f k a (v.getD i z69).f1).bind fun t=>if acc.length + t.length < 17592186044416 then impl_StoreOk.l0 k (acc ++ t) v (v.length : Int) ((i + 1 : Nat) : Int) v a n else none else
    (some (rootB a (v.getD i z69).f1)).bind fun q=>if q = true then (impl_knotsOf.f k a (v.getD i z69).f1).bind fun t=>if acc.length + t.length < 17592186044416 then impl_StoreOk.l0 k (acc ++ t) v (v.length : Int) ((i + 1 : Nat) : Int) v a n else none else some false) =
    if (decide ((v.getD i z69).f1 = -1) || rootB a (v.getD i z69).f1) = true then (impl_knotsOf.f k a (v.getD i z69).f1).bind fun t=>if acc.length + t.length < 17592186044416 then impl_StoreOk.l0 k (acc ++ t) v (v.length : Int) ((i + 1 : Nat) : Int) v a n else none else some false:=by
   by_cases h3 : (v.getD i z69).f1 = -1
   ·rw [if_pos h3,decide_eq_true h3,Bool.true_or,if_pos rfl]
   rw [if_neg h3,decide_eq_false h3,Bool.false_or,Option.bind_some]
  by_cases h0 : i = 0
  ·rw [if_neg (by omega),decide_eq_true h0,Bool.true_or,Bool.true_and];exact tail
  rw [if_pos (by omega),wpred (by omega) (by omega),if_pos (by omega),if_pos (by omega),rdIV_nat,decide_eq_false h0,Bool.false_or]
  by_cases h2 : (v.getD (i - 1) z69).f0 ≥ (v.getD i z69).f0
  ·rw [if_pos h2,decide_eq_true h2];rfl
  rw [if_neg h2,decide_eq_false h2,Bool.not_false,Bool.true_and];exact tail
 rw [decide_eq_false h1,if_neg (by decide),Bool.false_and,if_neg (by decide)]
theorem iStore_ev (v : List S69) (a : List S80) (n : Int) (hv : v.length ≤ 1048576) (hn : a.length ≤ 1048576) (hx : ∀ x ∈ a,x.f1.length ≤ 1048576) : Ev (fun k=>impl_StoreOk.l0 k [] v (v.length : Int) 0 v a n) (implOk v a n):=by
 have l1 : ∀ (acc : List Int),acc.length ≤ 9223372036854775807 → (∀ j : Nat,j < a.length → ((j : Int) ∈ acc ↔ keepB a (rootsB v) j = true)) → ∀ (d j : Nat),j + d = a.length →
   Ev (fun k=>impl_StoreOk.l1 k acc a (a.length : Int) (j : Int) v a n) ((List.range' j d).all fun j=>keepB a (rootsB v) j && leafOk a n j):=by
  intro acc hacc hK d
  induction d with
  | zero=>intro j hj;exact ev_some fun k=>by simp only [impl_StoreOk.l1];rw [if_neg (by omega)];rfl
  | succ d ih =>
   intro j hj;have hjl : j < a.length:=by omega
   have hm:=hx _ (getD_mem (z:=z80) hjl);rw [List.range'_succ,List.all_cons];refine Ev.step (f:=fun k=>(impl_hasInt.f k acc (j : Int)).bind fun t=>if t = true then impl_StoreOk.l2 k acc a (a.length : Int) (j : Int) (a.getD j z80).f1 ((a.getD j z80).f1.length : Int) 0 v a n (a.getD j z80).f0 (a.getD j z80).f1 else some false) (fun k=>?_) (ev_bind (iHasInt_ev acc _ hacc) ?_)
   ·simp only [impl_StoreOk.l1];rw [if_pos (by omega),if_pos (by omega),if_pos (by omega),rdIK_nat]
   by_cases h : keepB a (rootsB v) j = true
   ·rw [decide_eq_true ((hK j hjl).2 h),h,Bool.true_and];simp only [if_true]
    have inner : ∀ (e s : Nat),s + e = (a.getD j z80).f1.length → Ev (fun k=>impl_StoreOk.l2 k acc a (a.length : Int) (j : Int) (a.getD j z80).f1 ((a.getD j z80).f1.length : Int) (s : Int) v a n (a.getD j z80).f0 (a.getD j z80).f1) (((a.getD j z80).f1.drop s).all (fun x=>!((a.getD j z80).f0 && decide (x ≥ n))) && (List.range' (j + 1) d).all fun j=>keepB a (rootsB v) j && leafOk a n j):=by
     intro e
     induction e with
     | zero =>
      intro s hs;rw [List.drop_eq_nil_of_le (by omega),List.all_nil,Bool.true_and];refine Ev.step (fun k=>?_) (ih (j + 1) (by omega));simp only [impl_StoreOk.l2];rw [if_neg (by omega),wsucc (n:=a.length) hjl (by omega)]
     | succ e ihe =>
      intro s hs;have hsl : s < (a.getD j z80).f1.length:=by omega
      rw [drop_cons 0 hsl,List.all_cons]
      have st : ∀ k,impl_StoreOk.l2 (k + 1) acc a (a.length : Int) (j : Int) (a.getD j z80).f1 ((a.getD j z80).f1.length : Int) (s : Int) v a n (a.getD j z80).f0 (a.getD j z80).f1 = if ((a.getD j z80).f0 && decide ((a.getD j z80).f1.getD s 0 ≥ n)) = true then some false else impl_StoreOk.l2 k acc a (a.length : Int) (j : Int) (a.getD j z80).f1 ((a.getD j z80).f1.length : Int) ((s + 1 : Nat) : Int) v a n (a.getD j z80).f0 (a.getD j z80).f1:=fun k=>by
       simp only [impl_StoreOk.l2];rw [if_pos (by omega),if_pos (by omega),if_pos (by omega),rd_nat,wsucc (i:=s) (n:=(a.getD j z80).f1.length) hsl (by omega)];cases hf : (a.getD j z80).f0 with
       | false=>rw [if_neg (by decide),Bool.false_and,if_neg (by decide)]
       | true =>
        rw [if_pos rfl,Bool.true_and]
        by_cases h2 : (a.getD j z80).f1.getD s 0 ≥ n
        ·rw [if_pos h2,decide_eq_true h2,if_pos rfl]
        rw [if_neg h2,decide_eq_false h2,if_neg (by decide)]
      by_cases h2 : ((a.getD j z80).f0 && decide ((a.getD j z80).f1.getD s 0 ≥ n)) = true
      ·rw [h2,Bool.not_true,Bool.false_and,Bool.false_and];exact ev_some fun k=>by rw [st k,if_pos h2]
      rw [Bool.eq_false_iff.mpr h2,Bool.not_false,Bool.true_and];exact Ev.step (fun k=>by rw [st k,if_neg h2]) (ihe (s + 1) (by omega))
    have h:=inner (a.getD j z80).f1.length 0 (by omega);rw [List.drop_zero] at h;exact h
   rw [decide_eq_false (fun e=>h ((hK j hjl).1 e)),Bool.eq_false_iff.mpr h,Bool.false_and,Bool.false_and];exact Ev.now _
 have main : ∀ (d i : Nat) (acc : List Int),i + d = v.length → acc.length ≤ 1048577 * i → (∀ j : Nat,j < a.length → (((j : Int) ∈ acc ∨ ((rootsB v).drop i).any (fun r=>keptB a r j) = true) ↔ keepB a (rootsB v) j = true)) →
   Ev (fun k=>impl_StoreOk.l0 k acc v (v.length : Int) (i : Int) v a n) ((List.range' i d).all (volOk v a) && (List.range' 0 a.length).all fun j=>keepB a (rootsB v) j && leafOk a n j):=by
  intro d
  induction d with
  | zero =>
   intro i acc hi hl hK;rw [List.range'_zero,List.all_nil,Bool.true_and];refine Ev.step (fun k=>?_) (l1 acc (by omega) (fun j hj=>?_) a.length 0 (by omega))
   ·simp only [impl_StoreOk.l0];rw [if_neg (by omega)];rfl
   have h:=hK j hj;rw [List.drop_eq_nil_of_le (by unfold rootsB;rw [List.length_map];omega)] at h
   simpa using h
  | succ d ih =>
   intro i acc hi hl hK;have hil : i < v.length:=by omega
   rw [List.range'_succ,List.all_cons]
   by_cases h : volOk v a i = true
   ·rw [h,Bool.true_and];obtain ⟨L,h1,h2,h3⟩:=iKnots_ev a (v.getD i z69).f1 hn hx;refine Ev.step (fun k=>by rw [iVol_step k i acc v a n hil hv hn,if_pos h]) (ev_bind h1 ?_);simp only [if_pos (show acc.length + L.length < 17592186044416 by omega)];refine ih (i + 1) (acc ++ L) (by omega) (by rw [List.length_append];omega) (fun j hj=>?_);rw [← hK j hj,drop_cons (l:=rootsB v) (i:=i) 0 (by unfold rootsB;rw [List.length_map];omega),rootsB_get v hil,List.any_cons,List.mem_append,h3 j hj,Bool.or_eq_true,or_assoc]
   rw [Bool.eq_false_iff.mpr h,Bool.false_and,Bool.false_and];exact ev_some fun k=>by rw [iVol_step k i acc v a n hil hv hn,if_neg h]
 exact main v.length 0 [] (by omega) (by simp) (fun j hj=>by rw [List.drop_zero];simp [keepB])
theorem sweep_len {a : List S80} {roots : List Int} (hs : sweepOk a roots = true) : (sweepB a roots).1.length = a.length ↔ ∀ j,j < a.length → keepB a roots j = true:=by
 unfold sweepB;rw [if_pos hs];show (swAll a (keepB a roots) a.length 0 (List.replicate a.length 0) []).2.length = a.length ↔ _;rw [swAll_out,List.length_nil,Nat.zero_add];have e : (List.range' 0 a.length).length = a.length:=List.length_range';constructor
 ·intro h j hj;exact List.length_filter_eq_length_iff.1 (by rw [h,e]) j (by rw [List.mem_range'_1];omega)
 intro h;rw [List.length_filter_eq_length_iff.2 (fun j hj=>h j (by rw [List.mem_range'_1] at hj;omega)),e]
theorem gB_val {a : List S80} {r : Int} (h : rootB a r = true) {q t : Nat} (hq : q < 4) (ht : t < 4) :
  gB a r (4 * q + t) = if (a.getD r.toNat z80).f1.getD q 0 < 0 then 0 else (a.getD ((a.getD r.toNat z80).f1.getD q 0).toNat z80).f1.getD t 0:=by
 have:=root_lt h;unfold gB numB;rw [if_neg (by omega),show (((4 * q + t : Nat) : Int) / 4).toNat = q by omega,show (((4 * q + t : Nat) : Int) % 4).toNat = t by omega]
theorem mem_getD {l : List Int} {x : Int} (h : x ∈ l) : ∃ i,i < l.length ∧ l.getD i 0 = x:=by
 obtain ⟨i,hi,e⟩:=List.getElem_of_mem h;exact ⟨i,hi,by rw [List.getD_eq_getElem?_getD,List.getElem?_eq_getElem hi];exact e⟩
theorem leaf_get (v : List S69) (a : List S80) (n : Int) (ha : arenaB a = true) (hn : 1 ≤ n) (hK : ∀ j,j < a.length → keepB a (rootsB v) j = true) :
  (∀ i,i < v.length → getOk a n (v.getD i z69).f1 = true) → (∀ j,j < a.length → leafOk a n j = true):=by
 intro h j hj;unfold leafOk;rw [List.all_eq_true];intro x hx;cases hf : (a.getD j z80).f0 with
 | false=>rw [Bool.false_and];rfl
 | true =>
  have hk:=hK j hj;unfold keepB at hk;rw [List.any_eq_true] at hk;obtain ⟨r,hr,hk⟩:=hk;obtain ⟨i,hi,e⟩:=mem_getD hr;have hi2 : i < v.length:=by unfold rootsB at hi;rw [List.length_map] at hi;exact hi
  rw [rootsB_get v hi2] at e;have hg:=h i hi2;rw [e] at hg;unfold keptB at hk;rw [Bool.and_eq_true,Bool.or_eq_true,decide_eq_true_eq,decide_eq_true_eq] at hk;obtain ⟨hb,hk⟩:=hk;obtain ⟨r0,rl,rf⟩:=root_lt hb;rcases hk with hk | hk
  ·rw [show r.toNat = j by omega,hf] at rf;exact absurd rf (by decide)
  obtain ⟨q,hq,e2⟩:=mem_getD hk;obtain ⟨t,ht,e3⟩:=mem_getD hx;have h4:=(knot_of ha rl).1;have h5:=(knot_of ha hj).1;have hv:=gB_val hb (q:=q) (t:=t) (by omega) (by omega);rw [e2,if_neg (by omega),Int.toNat_natCast,e3] at hv;unfold getOk at hg;rw [List.all_eq_true] at hg;have h6:=hg (4 * q + t) (by rw [List.mem_range'_1];omega);rw [hv] at h6;rw [Bool.true_and];exact h6
theorem get_leaf (v : List S69) (a : List S80) (n : Int) (ha : arenaB a = true) (hn : 1 ≤ n) (hV : ∀ i,i < v.length → (decide ((v.getD i z69).f1 = -1) || rootB a (v.getD i z69).f1) = true) :
  (∀ j,j < a.length → leafOk a n j = true) → (∀ i,i < v.length → getOk a n (v.getD i z69).f1 = true):=by
 intro h i hi;have hr:=hV i hi;generalize (v.getD i z69).f1 = r at hr ⊢;unfold getOk;rw [List.all_eq_true];intro s hs;rw [List.mem_range'_1] at hs;rw [Bool.or_eq_true,decide_eq_true_eq] at hr
 by_cases h0 : r < 0
 ·unfold gB;rw [if_pos h0,decide_eq_false (by omega)];rfl
 have hb:=hr.resolve_left (by omega);obtain ⟨r0,rl,rf⟩:=root_lt hb;have e:=gB_val hb (q:=s / 4) (t:=s % 4) (by omega) (by omega);rw [show 4 * (s / 4) + s % 4 = s by omega] at e;rcases kid_of ha rl rf (j:=s / 4) (by omega) with h1 | ⟨h1,h2,h3⟩
 ·rw [if_pos (by omega)] at e;rw [e,decide_eq_false (by omega)];rfl
 rw [if_neg (by omega)] at e;have hl:=h ((a.getD r.toNat z80).f1.getD (s / 4) 0).toNat (by omega);have h5:=(knot_of ha (i:=((a.getD r.toNat z80).f1.getD (s / 4) 0).toNat) (by omega)).1;unfold leafOk at hl;rw [List.all_eq_true,h3] at hl;have h6:=hl _ (getD_mem (i:=s % 4) (z:=0) (by omega));rw [Bool.true_and] at h6;rw [e];exact h6
theorem ok_eq (v : List S69) (a : List S80) (n : Int) (ha : arenaB a = true) (hn : 1 ≤ n) : specOk v a n = implOk v a n:=by
 have mr : ∀ {P : Nat → Bool} {m : Nat},(List.range' 0 m).all P = true ↔ ∀ i,i < m → P i = true:=fun {P m}=>by
  rw [List.all_eq_true];exact ⟨fun h i hi=>h i (by rw [List.mem_range'_1];omega),fun h i hi=>h i (by rw [List.mem_range'_1] at hi;omega)⟩
 rw [Bool.eq_iff_iff];unfold specOk implOk;rw [Bool.and_eq_true,Bool.and_eq_true,mr,mr,mr,decide_eq_true_eq];simp only [Bool.and_eq_true]
 have ok : (∀ i,i < v.length → volOk v a i = true) → sweepOk a (rootsB v) = true:=fun h=>by
  unfold sweepOk;rw [ha,Bool.true_and,List.all_eq_true];intro r hr;obtain ⟨i,hi,e⟩:=mem_getD hr;have hi2 : i < v.length:=by unfold rootsB at hi;rw [List.length_map] at hi;exact hi
  rw [rootsB_get v hi2] at e;rw [← e];exact volOk_root (h i hi2)
 constructor
 ·rintro ⟨h1,h2⟩;have hV : ∀ i,i < v.length → volOk v a i = true:=fun i hi=>(h1 i hi).1;have hK:=(sweep_len (ok hV)).1 h2;exact ⟨hV,fun j hj=>⟨hK j hj,leaf_get v a n ha hn hK (fun i hi=>(h1 i hi).2) j hj⟩⟩
 rintro ⟨hV,h2⟩;exact ⟨fun i hi=>⟨hV i hi,get_leaf v a n ha hn (fun i hi=>volOk_root (hV i hi)) (fun j hj=>(h2 j hj).2) i hi⟩,(sweep_len (ok hV)).2 fun j hj=>(h2 j hj).1⟩
def storeB (v : List S69) (a : List S80) (n : Int) : Bool:=if (v.length : Int) > 3 then false else if arenaB a = true then (if 1 ≤ n ∧ n ≤ 1000000000 then implOk v a n else false) else false
theorem iStoreOk_ev (v : List S69) (a : List S80) (n : Int) (hv : v.length ≤ 1048576) (hn : a.length ≤ 1048576) (hx : ∀ x ∈ a,x.f1.length ≤ 1048576) : Ev (fun k=>impl_StoreOk.f k v a n) (storeB v a n):=by
 have no : Ev (fun k=>impl_StoreOk.j0 k true v a n) false:=ev_some fun k=>by simp only [impl_StoreOk.j0];rw [if_pos trivial]
 unfold impl_StoreOk.f storeB
 by_cases h1 : (v.length : Int) > 3
 ·simp only [if_pos h1];exact no
 simp only [if_neg h1];refine ev_bind (iArena_ev a (by omega)) ?_
 by_cases h2 : arenaB a = true
 ·simp only [if_pos h2,in_eq,Option.bind_some]
  by_cases h3 : 1 ≤ n ∧ n ≤ 1000000000
  ·rw [if_pos h3,decide_eq_true h3];refine Ev.step (fun k=>?_) (iStore_ev v a n hv hn hx);simp only [impl_StoreOk.j0];rw [if_neg (by decide)]
  rw [if_neg h3,decide_eq_false h3];exact no
 simp only [if_neg h2];exact no
end Go.Proofs.YteideicglgpfiaaGreat.Pu

namespace Go.Proofs.YteideicglgpfiaaGreat.Pu
set_option linter.unusedVariables false
set_option linter.unusedSimpArgs false
open Go.RowKit Go.Proofs.YteideicglgpfiaaGreat.PK Go.Proofs.YteideicglgpfiaaGreatW.PrintWords
def topB (a : List S80) (r : Int) : List Int:=if r = -1 then [-1,-1,-1,-1] else (a.getD r.toNat z80).f1
def leafB (a : List S80) (r s : Int) : List Int:=if 0 ≤ (topB a r).getD (s / 4).toNat 0 then (a.getD ((topB a r).getD (s / 4).toNat 0).toNat z80).f1 else List.replicate 4 0
def canPut (a : List S80) (r s n : Int) : Prop:=arenaB a = true ∧ (r = -1 ∨ rootB a r = true) ∧ (0 ≤ s ∧ s ≤ 15) ∧ 0 ≤ n
instance (a : List S80) (r s n : Int) : Decidable (canPut a r s n):=by unfold canPut;infer_instance
def putB (a : List S80) (r s n : Int) : List S80 × Int :=
 if canPut a r s n then (a ++ [⟨true,(leafB a r s).set (s % 4).toNat n⟩,⟨false,(topB a r).set (s / 4).toNat (a.length : Int)⟩],(a.length : Int) + 1) else (a,r)
theorem putB_no {a : List S80} {r s n : Int} (h : ¬ canPut a r s n) : putB a r s n = (a,r):=if_neg h
theorem putB_yes {a : List S80} {r s n : Int} {t l : List Int} (h : canPut a r s n) (ht : topB a r = t) (hl : leafB a r s = l) :
  putB a r s n = (a ++ [⟨true,l.set (s % 4).toNat n⟩,⟨false,t.set (s / 4).toNat (a.length : Int)⟩],(a.length : Int) + 1):=by
 unfold putB;rw [if_pos h,ht,hl]
theorem none4 : ∀ j : Nat,j < 4 → ([-1,-1,-1,-1] : List Int).getD j 0 = -1:=by decide
theorem rd_toNat (l : List Int) (i : Int) : rd l i = l.getD i.toNat 0:=Eq.trans rfl rfl
theorem rdK_toNat (l : List S80) (i : Int) : rd_T80 l i = l.getD i.toNat z80:=Eq.trans rfl rfl
theorem rep4_len : (List.replicate 4 (0 : Int)).length = 4:=rfl
theorem leaf_new {a : List S80} {r s : Int} {t : List Int} (ht : topB a r = t) (h : ¬ 0 ≤ t.getD (s / 4).toNat 0) : leafB a r s = List.replicate 4 0:=by
 unfold leafB;rw [ht,if_neg h]
theorem leaf_old {a : List S80} {r s : Int} {t : List Int} (ht : topB a r = t) (h : 0 ≤ t.getD (s / 4).toNat 0) : leafB a r s = (a.getD (t.getD (s / 4).toNat 0).toNat z80).f1:=by
 unfold leafB;rw [ht,if_pos h]
theorem top_none {a : List S80} {r : Int} (h : r = -1) : topB a r = [-1,-1,-1,-1]:=if_pos h
theorem top_some {a : List S80} {r : Int} (h : ¬ r = -1) : topB a r = (a.getD r.toNat z80).f1:=if_neg h
theorem putB_bound {a : List S80} {r s n : Int} (hn : a.length ≤ 1048576) (hx : ∀ x ∈ a,x.f1.length ≤ 1048576) : (putB a r s n).1.length ≤ 1048578 ∧ ∀ x ∈ (putB a r s n).1,x.f1.length ≤ 1048576:=by
 by_cases h : canPut a r s n
 ·have top : (topB a r).length ≤ 1048576:=by
   by_cases h0 : r = -1
   ·rw [top_none h0];decide
   rw [top_some h0];obtain ⟨_,h2,_⟩:=h;obtain ⟨_,rl,_⟩:=root_lt (h2.resolve_left h0);exact hx _ (getD_mem rl)
  have leaf : (leafB a r s).length ≤ 1048576:=by
   unfold leafB
   split
   ·by_cases hi : ((topB a r).getD (s / 4).toNat 0).toNat < a.length
    ·exact hx _ (getD_mem hi)
    rw [List.getD_eq_getElem?_getD,List.getElem?_eq_none (by omega)];exact Nat.zero_le _
   rw [List.length_replicate];omega
  rw [putB_yes h rfl rfl];refine ⟨by simp only [List.length_append,List.length_cons,List.length_nil];omega,fun x hx'=>?_⟩;rcases List.mem_append.1 hx' with hx' | hx'
  ·exact hx _ hx'
  rcases List.mem_cons.1 hx' with rfl | hx'
  ·show (List.set _ _ _).length ≤ _;rw [List.length_set];exact leaf
  obtain rfl:=List.mem_singleton.1 hx';show (List.set _ _ _).length ≤ _;rw [List.length_set];exact top
 rw [putB_no h];exact ⟨by show a.length ≤ _;omega,hx⟩
end Go.Proofs.YteideicglgpfiaaGreat.Pu

namespace Go.Proofs.YteideicglgpfiaaGreat.Pu
set_option linter.unusedVariables false
set_option linter.unusedSimpArgs false
open Go.RowKit Go.Proofs.YteideicglgpfiaaGreat.PK Go.Proofs.YteideicglgpfiaaGreatW.PrintWords
def allB (a : List S80) (r : Int) : List Int:=(List.range' 0 16).map fun (i : Nat)=>getB a r (i : Int)
theorem allB_len (a : List S80) (r : Int) : (allB a r).length = 16:=by simp [allB]
theorem allB_get (a : List S80) (r : Int) {i : Nat} (hi : i < 16) : (allB a r).getD i 0 = getB a r (i : Int):=by
 rw [List.getD_eq_getElem?_getD,List.getElem?_eq_getElem (by rw [allB_len];exact hi)];simp [allB]
theorem drop_get {α : Type} {l : List α} {i : Nat} (z : α) (h : i < l.length) : l.drop i = l.getD i z :: l.drop (i + 1):=by
 rw [List.drop_eq_getElem_cons h,List.getD_eq_getElem?_getD,List.getElem?_eq_getElem h];rfl
end Go.Proofs.YteideicglgpfiaaGreat.Pu

namespace Go.Proofs.YteideicglgpfiaaGreat.Pu
set_option linter.unusedVariables false
set_option linter.unusedSimpArgs false
open Go.RowKit Go.Proofs.YteideicglgpfiaaGreat.PK Go.Proofs.YteideicglgpfiaaGreatW.PrintWords
theorem getD_app {α : Type} {a t : List α} {i : Nat} {z : α} (h : i < a.length) : (a ++ t).getD i z = a.getD i z:=by
 rw [List.getD_eq_getElem?_getD,List.getD_eq_getElem?_getD,List.getElem?_append_left h]
theorem getD_app0 {α : Type} {a : List α} {x y z : α} : (a ++ [x,y]).getD a.length z = x:=by
 rw [List.getD_eq_getElem?_getD,List.getElem?_append_right (by omega),Nat.sub_self];rfl
theorem getD_app1 {α : Type} {a : List α} {x y z : α} : (a ++ [x,y]).getD (a.length + 1) z = y:=by
 rw [List.getD_eq_getElem?_getD,List.getElem?_append_right (by omega),Nat.add_sub_cancel_left];rfl
theorem getD_set' {α : Type} {l : List α} {c : Nat} (i : Nat) (v z : α) (hc : c < l.length) : (l.set c v).getD i z = if c = i then v else l.getD i z:=by
 rw [List.getD_eq_getElem?_getD,List.getD_eq_getElem?_getD,List.getElem?_set]
 by_cases h : c = i
 ·subst h;simp [hc]
 rw [if_neg h,if_neg h]
theorem getD_rep' {α : Type} (n i : Nat) (z : α) : (List.replicate n z).getD i z = z:=by
 rw [List.getD_eq_getElem?_getD,List.getElem?_replicate]
 by_cases h : i < n <;> simp [h]
theorem kidB_app {a t : List S80} {i : Nat} (hi : i ≤ a.length) (leaf : Bool) (n : Int) : kidB (a ++ t) i leaf n = kidB a i leaf n:=by
 unfold kidB
 by_cases h : leaf = true
 ·rw [if_pos h,if_pos h]
 rw [if_neg h,if_neg h]
 by_cases hk : 0 ≤ n ∧ n ≤ (i : Int) - 1
 ·rw [getD_app (by omega)]
 rw [decide_eq_false hk,Bool.false_and,Bool.false_and]
theorem knotB_app {a t : List S80} {i : Nat} (hi : i ≤ a.length) (x : S80) : knotB (a ++ t) i x = knotB a i x:=by
 unfold knotB;rw [show kidB (a ++ t) i x.f0 = kidB a i x.f0 from funext fun n=>kidB_app hi _ _]
theorem arenaB_iff {a : List S80} : arenaB a = true ↔ ∀ i,i < a.length → knotB a i (a.getD i z80) = true:=by
 unfold arenaB;rw [List.all_eq_true];constructor
 ·intro h i hi;exact h i (by simp;omega)
 intro h i hi;simp at hi;exact h i (by omega)
theorem knotB_iff {a : List S80} {i : Nat} {x : S80} : knotB a i x = true ↔ x.f1.length = 4 ∧ ∀ n ∈ x.f1,kidB a i x.f0 n = true:=by
 unfold knotB;rw [Bool.and_eq_true,decide_eq_true_eq,List.all_eq_true]
theorem kid_leaf {a : List S80} {i : Nat} {n : Int} : kidB a i true n = true ↔ 0 ≤ n:=by
 unfold kidB;rw [if_pos rfl,decide_eq_true_eq]
theorem kid_top {a : List S80} {i : Nat} {n : Int} : kidB a i false n = true ↔ n = -1 ∨ ((0 ≤ n ∧ n ≤ (i : Int) - 1) ∧ (a.getD n.toNat z80).f0 = true):=by
 unfold kidB;rw [if_neg (by decide),Bool.or_eq_true,Bool.and_eq_true,decide_eq_true_eq,decide_eq_true_eq]
theorem top_right {a : List S80} {r : Int} (ha : arenaB a = true) (hr : r = -1 ∨ rootB a r = true) : (topB a r).length = 4 ∧ ∀ n ∈ topB a r,kidB a a.length false n = true:=by
 by_cases h0 : r = -1
 ·rw [top_none h0];refine ⟨rfl,fun n hn=>?_⟩;have : n = -1:=by simpa using hn
  exact kid_top.2 (.inl this)
 obtain ⟨r0,rl,rf⟩:=root_lt (hr.resolve_left h0);obtain ⟨h4,hk⟩:=knot_of ha rl;rw [top_some h0];refine ⟨h4,fun n hn=>?_⟩;have h:=hk n hn;rw [rf] at h;rcases kid_top.1 h with h | ⟨h1,h2⟩
 ·exact kid_top.2 (.inl h)
 exact kid_top.2 (.inr ⟨by omega,h2⟩)
theorem top_kid {a : List S80} {r : Int} (ha : arenaB a = true) (hr : r = -1 ∨ rootB a r = true) {j : Nat} (hj : j < 4) : (topB a r).getD j 0 = -1 ∨ ((0 ≤ (topB a r).getD j 0 ∧ (topB a r).getD j 0 < (a.length : Int)) ∧ (a.getD ((topB a r).getD j 0).toNat z80).f0 = true):=by
 obtain ⟨h4,hk⟩:=top_right ha hr;rcases kid_top.1 (hk _ (getD_mem (i:=j) (z:=0) (by omega))) with h | ⟨h1,h2⟩
 ·exact .inl h
 exact .inr ⟨by omega,h2⟩
theorem leaf_right {a : List S80} {r s : Int} (ha : arenaB a = true) (hr : r = -1 ∨ rootB a r = true) (h0 : 0 ≤ s) (h1 : s ≤ 15) : (leafB a r s).length = 4 ∧ ∀ n ∈ leafB a r s,0 ≤ n:=by
 unfold leafB
 split
 ·rename_i h;rcases top_kid ha hr (j:=(s / 4).toNat) (by omega) with hk | ⟨hk,hf⟩
  ·omega
  obtain ⟨h4,hn⟩:=knot_of ha (i:=((topB a r).getD (s / 4).toNat 0).toNat) (by omega);rw [hf] at hn;exact ⟨h4,fun n h=>kid_leaf.1 (hn n h)⟩
 refine ⟨rfl,fun n hn=>?_⟩;have:=(List.mem_replicate.1 hn).2;omega
theorem put_eq {a : List S80} {r s n : Int} (h : canPut a r s n) : putB a r s n = (a ++ [⟨true,(leafB a r s).set (s % 4).toNat n⟩,⟨false,(topB a r).set (s / 4).toNat (a.length : Int)⟩],(a.length : Int) + 1):=putB_yes h rfl rfl
theorem put_len {a : List S80} {r s n : Int} (h : canPut a r s n) : (putB a r s n).1.length = a.length + 2:=by rw [put_eq h];simp
theorem put_root {a : List S80} {r s n : Int} (h : canPut a r s n) : (putB a r s n).2 = (a.length : Int) + 1:=by rw [put_eq h]
theorem put_arena {a : List S80} {r s n : Int} (h : canPut a r s n) : arenaB (putB a r s n).1 = true:=by
 obtain ⟨ha,hr,⟨h0,h1⟩,hn⟩:=id h;obtain ⟨t4,tk⟩:=top_right ha hr;obtain ⟨l4,lk⟩:=leaf_right ha hr h0 h1;rw [put_eq h];rw [arenaB_iff];intro i hi;have hi : i < a.length + 2:=by simpa using hi
 by_cases hc : i < a.length
 ·rw [getD_app hc,knotB_app (by omega)];exact arenaB_iff.1 ha i hc
 by_cases he : i = a.length
 ·subst he;rw [getD_app0,knotB_app (Nat.le_refl _),knotB_iff];refine ⟨by show (List.set _ _ _).length = 4;rw [List.length_set,l4],fun x hx=>kid_leaf.2 ?_⟩;rcases List.mem_or_eq_of_mem_set hx with hx | hx
  ·exact lk x hx
  omega
 obtain rfl : i = a.length + 1:=by omega
 rw [getD_app1,knotB_iff];refine ⟨by show (List.set _ _ _).length = 4;rw [List.length_set,t4],fun x hx=>kid_top.2 ?_⟩;rcases List.mem_or_eq_of_mem_set hx with hx | hx
 ·rcases kid_top.1 (tk x hx) with hx | ⟨h5,h6⟩
  ·exact .inl hx
  exact .inr ⟨by omega,by rw [getD_app (by omega)];exact h6⟩
 refine .inr ⟨by omega,?_⟩;rw [hx,Int.toNat_natCast,getD_app0]
theorem root_app {a t : List S80} {x : Int} (h : rootB a x = true) : rootB (a ++ t) x = true:=by
 obtain ⟨h0,h1,h2⟩:=root_lt h;unfold rootB;rw [getD_app h1,h2,decide_eq_true (by simp only [List.length_append];omega)];rfl
theorem put_keeps {a : List S80} {r s n x : Int} (h : canPut a r s n) (hx : rootB a x = true) : rootB (putB a r s n).1 x = true:=by
 rw [put_eq h];exact root_app hx
theorem put_new {a : List S80} {r s n : Int} (h : canPut a r s n) : rootB (putB a r s n).1 (putB a r s n).2 = true:=by
 rw [put_eq h];unfold rootB;rw [show ((a.length : Int) + 1).toNat = a.length + 1 by omega,getD_app1,decide_eq_true (by simp only [List.length_append,List.length_cons,List.length_nil];omega)];rfl
theorem get_root {a : List S80} {r i : Int} (ha : arenaB a = true) (hr : rootB a r = true) (h0 : 0 ≤ i) (h1 : i ≤ 15) : getB a r i = numB a r i:=if_pos ⟨⟨h0,h1⟩,hr,ha⟩
theorem get_none {a : List S80} {r i : Int} (hr : r = -1) : getB a r i = 0:=if_neg fun h=>by have:=(root_lt h.2.1).1;omega
theorem get_top {a : List S80} {r i : Int} (ha : arenaB a = true) (hr : r = -1 ∨ rootB a r = true) (h0 : 0 ≤ i) (h1 : i ≤ 15) : getB a r i = if (topB a r).getD (i / 4).toNat 0 < 0 then 0 else (a.getD ((topB a r).getD (i / 4).toNat 0).toNat z80).f1.getD (i % 4).toNat 0:=by
 by_cases h : r = -1
 ·rw [get_none h,top_none h,none4 _ (by omega),if_pos (by decide)]
 rw [get_root ha (hr.resolve_left h) h0 h1,top_some h];rfl
theorem get_out {a : List S80} {r i : Int} (h : ¬ (0 ≤ i ∧ i ≤ 15)) : getB a r i = 0:=if_neg fun g=>h g.1
theorem get_app {a t : List S80} {x i : Int} (ha : arenaB a = true) (hb : arenaB (a ++ t) = true) (hx : x = -1 ∨ rootB a x = true) : getB (a ++ t) x i = getB a x i:=by
 by_cases hi : 0 ≤ i ∧ i ≤ 15
 ·by_cases h : x = -1
  ·rw [get_none h,get_none h]
  have hr:=hx.resolve_left h;obtain ⟨r0,rl,rf⟩:=root_lt hr;rw [get_root hb (root_app hr) hi.1 hi.2,get_root ha hr hi.1 hi.2];unfold numB;rw [getD_app rl];rcases kid_of ha rl rf (j:=(i / 4).toNat) (by omega) with hk | ⟨k0,k1,_⟩
  ·rw [hk,if_pos (by decide),if_pos (by decide)]
  rw [if_neg (by omega),if_neg (by omega),getD_app (by omega)]
 rw [get_out hi,get_out hi]
theorem put_old {a : List S80} {r s n x i : Int} (h : canPut a r s n) (hx : x = -1 ∨ rootB a x = true) : getB (putB a r s n).1 x i = getB a x i:=by
 have hb:=put_arena h;rw [put_eq h] at hb ⊢;exact get_app h.1 hb hx
theorem put_get {a : List S80} {r s n i : Int} (h : canPut a r s n) (h0 : 0 ≤ i) (h1 : i ≤ 15) : getB (putB a r s n).1 (putB a r s n).2 i = if i = s then n else getB a r i:=by
 have hb:=put_arena h;have hq:=put_new h;obtain ⟨ha,hr,⟨s0,s1⟩,hn⟩:=id h;obtain ⟨t4,_⟩:=top_right ha hr;obtain ⟨l4,_⟩:=leaf_right ha hr s0 s1;rw [get_root hb hq h0 h1,get_top ha hr h0 h1];rw [put_eq h];unfold numB;show (if ((a ++ _).getD ((a.length : Int) + 1).toNat z80).f1.getD _ 0 < 0 then (0 : Int) else _) = _;rw [show ((a.length : Int) + 1).toNat = a.length + 1 by omega,getD_app1];simp only;rw [getD_set' _ _ _ (by omega)]
 by_cases hq : (s / 4).toNat = (i / 4).toNat
 ·rw [if_pos hq,if_neg (by omega),Int.toNat_natCast,getD_app0];simp only;rw [getD_set' _ _ _ (by omega)]
  by_cases hm : (s % 4).toNat = (i % 4).toNat
  ·rw [if_pos hm,if_pos (by omega)]
  rw [if_neg hm,if_neg (by omega)];unfold leafB;rw [hq]
  by_cases hk : 0 ≤ (topB a r).getD (i / 4).toNat 0
  ·rw [if_pos hk,if_neg (by omega)]
  rw [if_neg hk,if_pos (by omega),getD_rep']
 rw [if_neg hq,if_neg (show ¬ i = s by omega)];rcases top_kid ha hr (j:=(i / 4).toNat) (by omega) with hk | ⟨hk,_⟩
 ·rw [hk,if_pos (by decide),if_pos (by decide)]
 rw [if_neg (by omega),if_neg (by omega),getD_app (by omega)]
theorem allB_ext {a b : List S80} {r q : Int} (h : ∀ i : Int,0 ≤ i → i ≤ 15 → getB a r i = getB b q i) : allB a r = allB b q:=by
 unfold allB;refine List.map_congr_left fun i hi=>h i (by omega) ?_;simp at hi;omega
end Go.Proofs.YteideicglgpfiaaGreat.Pu

/- What a sweep leaves: a right arena with the same trees; swept again it is the same. -/
namespace Go.Proofs.YteideicglgpfiaaGreat.Pu
set_option linter.unusedVariables false
set_option linter.unusedSimpArgs false
open Go.RowKit Go.Proofs.YteideicglgpfiaaGreat.PK Go.Proofs.YteideicglgpfiaaGreatW.PrintWords

/-- How many knots below a place are kept. -/
def kcnt (K : Nat → Bool) : Nat → Nat
  | 0 => 0
  | i + 1 => if K i = true then kcnt K i + 1 else kcnt K i
theorem kcnt_le (K : Nat → Bool) : ∀ i, kcnt K i ≤ i
  | 0 => Nat.le_refl _
  | i + 1 => by
    have h := kcnt_le K i
    show (if K i = true then kcnt K i + 1 else kcnt K i) ≤ i + 1
    split <;> omega
theorem kcnt_yes {K : Nat → Bool} {i : Nat} (h : K i = true) : kcnt K (i + 1) = kcnt K i + 1 := by
  show (if K i = true then kcnt K i + 1 else kcnt K i) = _
  rw [if_pos h]
theorem kcnt_no {K : Nat → Bool} {i : Nat} (h : ¬ K i = true) : kcnt K (i + 1) = kcnt K i := by
  show (if K i = true then kcnt K i + 1 else kcnt K i) = _
  rw [if_neg h]
theorem kcnt_mono (K : Nat → Bool) {i j : Nat} (h : i ≤ j) : kcnt K i ≤ kcnt K j := by
  induction j with
  | zero => obtain rfl : i = 0 := by omega
            exact Nat.le_refl _
  | succ j ih =>
    by_cases e : i = j + 1
    · subst e; exact Nat.le_refl _
    · have := ih (by omega)
      by_cases hk : K j = true
      · rw [kcnt_yes hk]; omega
      · rw [kcnt_no hk]; exact this
theorem kcnt_lt {K : Nat → Bool} {i j : Nat} (hk : K i = true) (h : i < j) : kcnt K i < kcnt K j := by
  have h1 := kcnt_mono K (show i + 1 ≤ j from h)
  rw [kcnt_yes hk] at h1
  exact h1
theorem kcnt_inj {K : Nat → Bool} {i j : Nat} (hi : K i = true) (hj : K j = true) (h : kcnt K i = kcnt K j) : i = j := by
  rcases Nat.lt_trichotomy i j with h1 | h1 | h1
  · have := kcnt_lt hi h1; omega
  · exact h1
  · have := kcnt_lt hj h1; omega
theorem kcnt_find (K : Nat → Bool) : ∀ (n m : Nat), m < kcnt K n → ∃ j, j < n ∧ K j = true ∧ kcnt K j = m
  | 0, m, h => absurd h (Nat.not_lt_zero _)
  | n + 1, m, h => by
    by_cases hk : K n = true
    · rw [kcnt_yes hk] at h
      by_cases e : m = kcnt K n
      · exact ⟨n, by omega, hk, e.symm⟩
      · obtain ⟨j, h1, h2, h3⟩ := kcnt_find K n m (by omega)
        exact ⟨j, by omega, h2, h3⟩
    · rw [kcnt_no hk] at h
      obtain ⟨j, h1, h2, h3⟩ := kcnt_find K n m h
      exact ⟨j, by omega, h2, h3⟩
theorem kcnt_all {K : Nat → Bool} : ∀ (n : Nat), (∀ j, j < n → K j = true) → kcnt K n = n
  | 0, _ => rfl
  | n + 1, h => by rw [kcnt_yes (h n (by omega)), kcnt_all n fun j hj => h j (by omega)]
/-- Where a kid goes, and a knot. -/
def goB (K : Nat → Bool) (x : Int) : Int := if x ≥ 0 then (kcnt K x.toNat : Int) else x
def goK (K : Nat → Bool) (x : S80) : S80 := ⟨x.f0, if x.f0 = true then x.f1 else x.f1.map (goB K)⟩
theorem sw_spec (a : List S80) (K : Nat → Bool) (hK : ∀ j, j < a.length → K j = true → (a.getD j z80).f0 = false → ∀ n ∈ (a.getD j z80).f1, 0 ≤ n → n.toNat < j ∧ K n.toNat = true) :
    ∀ (d i : Nat) (pos : List Int) (out : List S80), i + d = a.length → pos.length = a.length → out.length = kcnt K i → (∀ j, j < i → K j = true → pos.getD j 0 = (kcnt K j : Int)) → (∀ j, j < i → K j = true → out.getD (kcnt K j) z80 = goK K (a.getD j z80)) →
      (swAll a K d i pos out).1.length = a.length ∧ (swAll a K d i pos out).2.length = kcnt K a.length ∧ (∀ j, j < a.length → K j = true → (swAll a K d i pos out).1.getD j 0 = (kcnt K j : Int)) ∧ ∀ j, j < a.length → K j = true → (swAll a K d i pos out).2.getD (kcnt K j) z80 = goK K (a.getD j z80) := by
  intro d
  induction d with
  | zero =>
    intro i pos out hi hp ho h1 h2
    obtain rfl : i = a.length := by omega
    exact ⟨hp, ho, h1, h2⟩
  | succ d ih =>
    intro i pos out hi hp ho h1 h2
    unfold swAll
    by_cases hk : K i = true
    · rw [if_pos hk]
      refine ih (i + 1) _ _ (by omega) (by rw [List.length_set]; exact hp) (by rw [kcnt_yes hk]; simp only [List.length_append, List.length_cons, List.length_nil]; omega) (fun j hj hkj => ?_) (fun j hj hkj => ?_)
      · rw [getD_set _ _ _ (by omega)]
        by_cases e : j = i
        · subst e; rw [if_pos rfl, ho]
        · rw [if_neg e]; exact h1 j (by omega) hkj
      · by_cases e : j = i
        · subst e
          rw [← ho, List.getD_eq_getElem?_getD, List.getElem?_append_right (Nat.le_refl _), Nat.sub_self]
          show (⟨(a.getD j z80).f0, swKids (a.getD j z80).f0 pos (a.getD j z80).f1⟩ : S80) = goK K (a.getD j z80)
          unfold goK swKids
          congr 1
          by_cases hf : (a.getD j z80).f0 = true
          · rw [if_pos hf, if_pos hf]
          · rw [if_neg hf, if_neg hf]
            refine List.map_congr_left fun n hn => ?_
            unfold movB goB
            by_cases h0 : n ≥ 0
            · rw [if_pos h0, if_pos h0]
              obtain ⟨h5, h6⟩ := hK j (by omega) hk (Bool.eq_false_iff.mpr hf) n hn h0
              exact h1 _ h5 h6
            · rw [if_neg h0, if_neg h0]
        · have := kcnt_lt hkj (show j < i by omega)
          rw [getD_app (by omega)]
          exact h2 j (by omega) hkj
    · rw [if_neg hk]
      refine ih (i + 1) pos out (by omega) hp (by rw [kcnt_no hk]; exact ho) (fun j hj hkj => ?_) (fun j hj hkj => ?_)
      · by_cases e : j = i
        · subst e; exact absurd hkj hk
        · exact h1 j (by omega) hkj
      · by_cases e : j = i
        · subst e; exact absurd hkj hk
        · exact h2 j (by omega) hkj
theorem keep_iff {a : List S80} {roots : List Int} {j : Nat} : keepB a roots j = true ↔ ∃ r ∈ roots, rootB a r = true ∧ ((j : Int) = r ∨ (j : Int) ∈ (a.getD r.toNat z80).f1) := by
  unfold keepB keptB
  rw [List.any_eq_true]
  constructor
  · rintro ⟨r, h1, h2⟩
    rw [Bool.and_eq_true, Bool.or_eq_true, decide_eq_true_eq, decide_eq_true_eq] at h2
    exact ⟨r, h1, h2⟩
  · rintro ⟨r, h1, h2⟩
    refine ⟨r, h1, ?_⟩
    rw [Bool.and_eq_true, Bool.or_eq_true, decide_eq_true_eq, decide_eq_true_eq]
    exact h2
/-- The kids of a knot that is no leaf, in a right arena. -/
theorem kid_mem {a : List S80} (ha : arenaB a = true) {j : Nat} (hj : j < a.length) (hf : (a.getD j z80).f0 = false) {n : Int} (hn : n ∈ (a.getD j z80).f1) : n = -1 ∨ ((0 ≤ n ∧ n.toNat < j) ∧ (a.getD n.toNat z80).f0 = true) := by
  have h := (knot_of ha hj).2 n hn
  rw [hf] at h
  rcases kid_top.1 h with h | ⟨h1, h2⟩
  · exact .inl h
  · exact .inr ⟨⟨by omega, by omega⟩, h2⟩
theorem keep_kids {a : List S80} {roots : List Int} (ha : arenaB a = true) : ∀ j, j < a.length → keepB a roots j = true → (a.getD j z80).f0 = false → ∀ n ∈ (a.getD j z80).f1, 0 ≤ n → n.toNat < j ∧ keepB a roots n.toNat = true := by
  intro j hj hk hf n hn h0
  rcases kid_mem ha hj hf hn with h | ⟨⟨_, h1⟩, h2⟩
  · omega
  · refine ⟨h1, ?_⟩
    obtain ⟨r, hr, hrb, h3⟩ := keep_iff.1 hk
    obtain ⟨r0, rl, rf⟩ := root_lt hrb
    rcases h3 with h3 | h3
    · refine keep_iff.2 ⟨r, hr, hrb, .inr ?_⟩
      rw [show ((n.toNat : Nat) : Int) = n by omega, ← h3, Int.toNat_natCast]
      exact hn
    · rcases kid_mem ha rl rf h3 with h | ⟨_, h4⟩
      · omega
      · rw [Int.toNat_natCast, hf] at h4; cases h4
theorem getD_map {f : Int → Int} (h0 : f 0 = 0) : ∀ (l : List Int) (i : Nat), (l.map f).getD i 0 = f (l.getD i 0)
  | [], i => by simp [h0]
  | x :: l, 0 => rfl
  | x :: l, i + 1 => by
    show (l.map f).getD i 0 = f (l.getD i 0)
    exact getD_map h0 l i
theorem getD_map' {f : Int → Int} {l : List Int} {i : Nat} (h : i < l.length) : (l.map f).getD i 0 = f (l.getD i 0) := by
  rw [List.getD_eq_getElem?_getD, List.getD_eq_getElem?_getD, List.getElem?_map, List.getElem?_eq_getElem h]; rfl
/-- All that a sweep of right roots leaves. -/
theorem swept {a : List S80} {roots : List Int} (ha : arenaB a = true) (hr : ∀ x ∈ roots, x = -1 ∨ rootB a x = true) :
    arenaB (sweepB a roots).1 = true ∧ (sweepB a roots).2.length = roots.length ∧ (sweepB a roots).1.length ≤ a.length ∧ (∀ i, i < roots.length → allB (sweepB a roots).1 ((sweepB a roots).2.getD i 0) = allB a (roots.getD i 0)) ∧
      (∀ x ∈ (sweepB a roots).2, x = -1 ∨ rootB (sweepB a roots).1 x = true) ∧ ∀ m, m < (sweepB a roots).1.length → keepB (sweepB a roots).1 (sweepB a roots).2 m = true := by
  have hok : sweepOk a roots = true := by
    unfold sweepOk
    rw [ha, Bool.true_and, List.all_eq_true]
    intro x hx
    rw [Bool.or_eq_true, decide_eq_true_eq]
    exact hr x hx
  have hs := sw_spec a (keepB a roots) (keep_kids ha) a.length 0 (List.replicate a.length 0) [] (by omega) (by simp) rfl (fun j hj => absurd hj (Nat.not_lt_zero _)) (fun j hj => absurd hj (Nat.not_lt_zero _))
  have e : sweepB a roots = ((swAll a (keepB a roots) a.length 0 (List.replicate a.length 0) []).2, roots.map (movB (swAll a (keepB a roots) a.length 0 (List.replicate a.length 0) []).1)) := if_pos hok
  rw [e]
  have hkk := keep_kids (roots := roots) ha
  have hkr : ∀ r ∈ roots, rootB a r = true → keepB a roots r.toNat = true := fun r h1 h2 => keep_iff.2 ⟨r, h1, h2, .inl (by have := (root_lt h2).1; omega)⟩
  have hki := fun (j : Nat) => keep_iff (a := a) (roots := roots) (j := j)
  generalize swAll a (keepB a roots) a.length 0 (List.replicate a.length 0) [] = W at hs
  generalize keepB a roots = K at hs hkk hkr hki
  obtain ⟨P, b⟩ := W
  obtain ⟨hp, hb, h1, h2⟩ := hs
  simp only at hp hb h1 h2 ⊢
  have lt : ∀ j, j < a.length → K j = true → kcnt K j < b.length := fun j hj hk => by rw [hb]; exact kcnt_lt hk hj
  have right : arenaB b = true := by
    rw [arenaB_iff]
    intro m hm
    obtain ⟨j, hj, hk, rfl⟩ := kcnt_find K a.length m (by omega)
    rw [h2 j hj hk, knotB_iff]
    obtain ⟨h4, hn⟩ := knot_of ha hj
    unfold goK
    by_cases hf : (a.getD j z80).f0 = true
    · simp only [hf, if_true] at hn ⊢
      exact ⟨h4, fun n hn2 => kid_leaf.2 (kid_leaf.1 (hn n hn2))⟩
    · have hf := Bool.eq_false_iff.mpr hf
      simp only [hf, Bool.false_eq_true, if_false]
      refine ⟨by rw [List.length_map]; exact h4, fun x hx => kid_top.2 ?_⟩
      obtain ⟨n, hn2, rfl⟩ := List.mem_map.1 hx
      rcases kid_mem ha hj hf hn2 with h | ⟨⟨h5, h6⟩, h7⟩
      · left; unfold goB; rw [if_neg (by omega), h]
      · right
        have hkn := (hkk j hj hk hf n hn2 h5).2
        have hlt := kcnt_lt hkn h6
        unfold goB
        rw [if_pos h5, Int.toNat_natCast, h2 _ (by omega) hkn]
        exact ⟨by omega, h7⟩
  have root : ∀ r, r ∈ roots → rootB a r = true → movB P r = (kcnt K r.toNat : Int) ∧ rootB b (kcnt K r.toNat : Int) = true := by
    intro r h3 h4
    obtain ⟨r0, rl, rf⟩ := root_lt h4
    have hk := hkr r h3 h4
    have hl := lt _ rl hk
    refine ⟨by unfold movB; rw [if_pos r0]; exact h1 _ rl hk, ?_⟩
    unfold rootB
    rw [Int.toNat_natCast, h2 _ rl hk, decide_eq_true (by omega)]
    show (true && !(a.getD r.toNat z80).f0) = true
    rw [rf]; rfl
  have none : movB P (-1) = -1 := rfl
  refine ⟨right, by rw [List.length_map], by rw [hb]; exact kcnt_le _ _, fun i hi => ?_, fun x hx => ?_, fun m hm => ?_⟩
  · rw [getD_map' hi]
    rcases hr _ (getD_mem (l := roots) (i := i) (z := 0) hi) with h | h
    · rw [h, none]
      refine allB_ext fun i _ _ => ?_
      rw [get_none rfl, get_none rfl]
    · obtain ⟨h3, h4⟩ := root _ (getD_mem hi) h
      have hk := hkr _ (getD_mem hi) h
      rw [h3]
      generalize roots.getD i 0 = r at h h4 hk
      obtain ⟨r0, rl, rf⟩ := root_lt h
      refine allB_ext fun i h5 h6 => ?_
      rw [get_root right h4 h5 h6, get_root ha h h5 h6]
      unfold numB
      rw [Int.toNat_natCast, h2 _ rl hk]
      unfold goK
      simp only [rf, Bool.false_eq_true, if_false]
      have l4 := (knot_of ha rl).1
      have hm := getD_mem (l := (a.getD r.toNat z80).f1) (i := (i / 4).toNat) (z := 0) (by omega)
      rw [getD_map' (by omega)]
      rcases kid_mem ha rl rf hm with h7 | ⟨⟨h7, h8⟩, h9⟩
      · rw [h7, show goB K (-1) = -1 from rfl, if_pos (by decide), if_pos (by decide)]
      · have hkn := (hkk _ rl hk rf _ hm h7).2
        unfold goB
        rw [if_pos h7, if_neg (by omega), if_neg (by omega), Int.toNat_natCast, h2 _ (by omega) hkn]
        unfold goK
        simp only [h9, if_true]
  · obtain ⟨r, h3, rfl⟩ := List.mem_map.1 hx
    rcases hr r h3 with h | h
    · left; rw [h]; exact none
    · obtain ⟨h4, h5⟩ := root r h3 h
      rw [h4]; exact .inr h5
  · obtain ⟨j, hj, hk, rfl⟩ := kcnt_find K a.length m (by omega)
    obtain ⟨r, h3, h4, h5⟩ := (hki j).1 hk
    obtain ⟨h6, h7⟩ := root r h3 h4
    obtain ⟨r0, rl, rf⟩ := root_lt h4
    have hkr2 := hkr r h3 h4
    refine keep_iff.2 ⟨(kcnt K r.toNat : Int), List.mem_map.2 ⟨r, h3, h6⟩, h7, ?_⟩
    rcases h5 with h5 | h5
    · left; rw [← h5, Int.toNat_natCast]
    · right
      rw [Int.toNat_natCast, h2 _ rl hkr2]
      unfold goK
      simp only [rf, Bool.false_eq_true, if_false]
      refine List.mem_map.2 ⟨(j : Int), h5, ?_⟩
      unfold goB
      rw [if_pos (by omega), Int.toNat_natCast]
/-- Swept again it is the same. -/
theorem swept_again {b : List S80} {now : List Int} (hb : arenaB b = true) (hr : ∀ x ∈ now, x = -1 ∨ rootB b x = true) (hk : ∀ m, m < b.length → keepB b now m = true) : (sweepB b now).1.length = b.length ∧ (sweepB b now).2 = now := by
  have hok : sweepOk b now = true := by
    unfold sweepOk
    rw [hb, Bool.true_and, List.all_eq_true]
    intro x hx
    rw [Bool.or_eq_true, decide_eq_true_eq]
    exact hr x hx
  have hs := sw_spec b (keepB b now) (keep_kids hb) b.length 0 (List.replicate b.length 0) [] (by omega) (by simp) rfl (fun j hj => absurd hj (Nat.not_lt_zero _)) (fun j hj => absurd hj (Nat.not_lt_zero _))
  have e : sweepB b now = ((swAll b (keepB b now) b.length 0 (List.replicate b.length 0) []).2, now.map (movB (swAll b (keepB b now) b.length 0 (List.replicate b.length 0) []).1)) := if_pos hok
  rw [e]
  generalize swAll b (keepB b now) b.length 0 (List.replicate b.length 0) [] = W at hs
  generalize keepB b now = K at hs hk
  obtain ⟨P, c⟩ := W
  obtain ⟨hp, hc, h1, h2⟩ := hs
  simp only at hp hc h1 h2 ⊢
  have same : ∀ j, j ≤ b.length → kcnt K j = j := fun j hj => kcnt_all j fun m hm => hk m (by omega)
  refine ⟨by rw [hc, same _ (Nat.le_refl _)], ?_⟩
  rw [show now = now.map id from (List.map_id now).symm, List.map_map]
  refine List.map_congr_left fun x hx => ?_
  show movB P x = x
  unfold movB
  rcases hr x hx with h | h
  · rw [h]; rfl
  · obtain ⟨r0, rl, rf⟩ := root_lt h
    rw [if_pos r0, h1 _ rl (hk _ rl), same _ (by omega)]
    omega
end Go.Proofs.YteideicglgpfiaaGreat.Pu

namespace Go.Proofs.YteideicglgpfiaaGreat.Pu
set_option linter.unusedVariables false
set_option linter.unusedSimpArgs false
open Go.RowKit Go.Proofs.YteideicglgpfiaaGreat.PK Go.Proofs.YteideicglgpfiaaGreatW.PrintWords
def volB (v : List S69) (id : Int) : Int:=findI (fun i=>decide ((v.getD i z69).f0 = id)) 0 v.length
theorem volB_cases (v : List S69) (id : Int) : volB v id = -1 ∨ ∃ j : Nat,j < v.length ∧ volB v id = (j : Int):=by
 rcases findI_range (T:=fun i=>decide ((v.getD i z69).f0 = id)) v.length 0 with h | ⟨j,_,h2,h3,_⟩
 ·exact .inl h
 exact .inr ⟨j,by omega,h3⟩
theorem iVolAt_ev (v : List S69) (a : List S80) (n id : Int) (hv : v.length ≤ 1048576) : Ev (fun k=>impl_volAt.f k v a n id) (volB v id):=by
 refine ev_find (L:=fun k i=>impl_volAt.l0 k id v (v.length : Int) i) (n:=v.length) (T:=fun i=>decide ((v.getD i z69).f0 = id)) (fun i hi ht=>?_) (fun i hi ht r hr=>?_) (ev_some fun k=>by simp only [impl_volAt.l0];rw [if_neg (by omega)]) v.length 0 (by omega)
 ·refine ev_some fun k=>?_;simp only [impl_volAt.l0];rw [if_pos (by omega),if_pos (by omega),if_pos (by omega),rdIV_nat,if_pos (of_decide_eq_true ht)]
 refine Ev.step (fun k=>?_) hr;simp only [impl_volAt.l0];rw [if_pos (by omega),if_pos (by omega),if_pos (by omega),rdIV_nat,if_neg (of_decide_eq_false ht),wsucc (n:=v.length) hi (by omega)]
theorem sVolAt_ev (v : List S69) (a : List S80) (n id : Int) (hv : v.length ≤ 1048576) : Ev (fun k=>spec_l12At.f k v a n id) (volB v id):=by
 refine ev_find (L:=fun k i=>spec_l12At.l0 k id i v a n) (n:=v.length) (T:=fun i=>decide ((v.getD i z69).f0 = id)) (fun i hi ht=>?_) (fun i hi ht r hr=>?_) (ev_some fun k=>by simp only [spec_l12At.l0];rw [if_neg (by omega)]) v.length 0 (by omega)
 ·refine ev_some fun k=>?_;simp only [spec_l12At.l0];rw [if_pos (by omega),if_pos (by omega),rdIV_nat,if_pos (of_decide_eq_true ht)]
 refine Ev.step (fun k=>?_) hr;simp only [spec_l12At.l0];rw [if_pos (by omega),if_pos (by omega),rdIV_nat,if_neg (of_decide_eq_false ht),wsucc (n:=v.length) hi (by omega)]
end Go.Proofs.YteideicglgpfiaaGreat.Pu

namespace Go.Proofs.YteideicglgpfiaaGreat.Pu
set_option linter.unusedVariables false
set_option linter.unusedSimpArgs false
open Go.RowKit Go.Proofs.YteideicglgpfiaaGreat.PK Go.Proofs.YteideicglgpfiaaGreatW.PrintWords
def chunkB (v : List S69) (a : List S80) (id s : Int) : Int:=if volB v id < 0 then 0 else getB a (v.getD (volB v id).toNat z69).f1 s
end Go.Proofs.YteideicglgpfiaaGreat.Pu

namespace Go.Proofs.YteideicglgpfiaaGreat.Pu
set_option linter.unusedVariables false
set_option linter.unusedSimpArgs false
open Go.RowKit Go.Proofs.YteideicglgpfiaaGreat.PK Go.Proofs.YteideicglgpfiaaGreatW.PrintWords
theorem in_eq' (a l h : Int) : impl_in.f a l h = some (decide (l ≤ a ∧ a ≤ h)):=by
 unfold impl_in.f
 by_cases h1 : a ≥ l
 ·rw [if_pos h1];congr 1;simp;omega
 rw [if_neg h1];congr 1;simp;omega
theorem l01In_eq' (a l h : Int) : spec_l01In.f a l h = some (decide (l ≤ a ∧ a ≤ h)):=by
 unfold spec_l01In.f
 by_cases h1 : a ≥ l
 ·rw [if_pos h1];congr 1;simp;omega
 rw [if_neg h1];congr 1;simp;omega
theorem some_dec {b : Bool} {P : Prop} [Decidable P] (h : b = true ↔ P) : some b = some (decide P):=by
 congr 1
 rw [Bool.eq_iff_iff,decide_eq_true_eq];exact h
def recOk (t v a c : Int) : Bool:=decide (0 ≤ a ∧ a ≤ 1000000000 ∧ ((t = 1 ∧ v = 0 ∧ c = 0) ∨ (1 ≤ v ∧ v ≤ 9 ∧ ((t = 2 ∧ c = 0 ∧ a ≤ 9) ∨ (t = 3 ∧ c = 0 ∧ a = 0) ∨ (t = 4 ∧ a ≤ 15 ∧ 1 ≤ c ∧ c ≤ 1000000000) ∨ (t = 5 ∧ c = 0 ∧ a ≤ 15)))))
theorem impl_RecOk_eq (k : Nat) (t v a c : Int) : impl_RecOk.f (k + 1) t v a c = some (recOk t v a c):=by
 unfold impl_RecOk.f impl_RecOk.j0 recOk;simp only [in_eq',Option.bind_some]
 repeat' split
 all_goals (refine some_dec ?_)
 all_goals (simp only [beq_iff_eq,bne_iff_ne,ne_eq,decide_eq_true_eq,Bool.false_eq_true,false_iff,not_true_eq_false,not_false_eq_true] at *)
 all_goals omega
theorem spec_RecOk_eq (k : Nat) (t v a c : Int) : spec_RecOk.f (k + 1) t v a c = some (recOk t v a c):=by
 unfold spec_RecOk.f spec_RecOk.j0 recOk;simp only [l01In_eq',Option.bind_some]
 repeat' split
 all_goals (refine some_dec ?_)
 all_goals (simp only [beq_iff_eq,bne_iff_ne,ne_eq,decide_eq_true_eq,Bool.false_eq_true,false_iff,not_true_eq_false,not_false_eq_true] at *)
 all_goals omega
theorem iRecOk_ev (t v a c : Int) : Ev (fun k=>impl_RecOk.f k t v a c) (recOk t v a c):=ev_some fun k=>impl_RecOk_eq k t v a c
theorem sRecOk_ev (t v a c : Int) : Ev (fun k=>spec_RecOk.f k t v a c) (recOk t v a c):=ev_some fun k=>spec_RecOk_eq k t v a c
theorem recOk_range {t v a c : Int} (h : recOk t v a c = true) : 1 ≤ t ∧ t ≤ 5 ∧ 0 ≤ v ∧ v ≤ 9 ∧ 0 ≤ a ∧ a ≤ 1000000000 ∧ 0 ≤ c ∧ c ≤ 1000000000:=by
 unfold recOk at h;rw [decide_eq_true_eq] at h;omega
end Go.Proofs.YteideicglgpfiaaGreat.Pu

namespace Go.Proofs.YteideicglgpfiaaGreat.Pu
set_option linter.unusedVariables false
set_option linter.unusedSimpArgs false
open Go.RowKit Go.Proofs.YteideicglgpfiaaGreat.PK Go.Proofs.YteideicglgpfiaaGreatW.PrintWords
theorem gdE {α : Type} {l : List α} {i : Nat} (z : α) (h : i < l.length) : l.getD i z = l[i]:=by
 rw [List.getD_eq_getElem?_getD,List.getElem?_eq_getElem h];rfl
def Half (v : List S69) (a : List S80) (n : Int) : Prop :=
 v.length ≤ 3 ∧ arenaB a = true ∧ (1 ≤ n ∧ n ≤ 1000000000) ∧ v.Pairwise (fun x y=>x.f0 < y.f0) ∧ ∀ x ∈ v,(1 ≤ x.f0 ∧ x.f0 ≤ 9) ∧ (x.f1 = -1 ∨ rootB a x.f1 = true) ∧ ∀ s,getB a x.f1 s < n
def Full (v : List S69) (a : List S80) : Prop:=∀ j,j < a.length → keepB a (rootsB v) j = true
theorem asc_iff {v : List S69} : (∀ i,i < v.length → i = 0 ∨ (v.getD (i - 1) z69).f0 < (v.getD i z69).f0) ↔ v.Pairwise (fun x y=>x.f0 < y.f0):=by
 rw [List.pairwise_iff_getElem];constructor
 ·intro h i j hi hj hij
  have main : ∀ d,i + d + 1 < v.length → (v.getD i z69).f0 < (v.getD (i + d + 1) z69).f0:=by
   intro d
   induction d with
   | zero =>
    intro hd;rcases h (i + 1) hd with h0 | h0
    ·omega
    exact h0
   | succ d ih =>
    intro hd;have h1:=ih (by omega);rcases h (i + d + 1 + 1) hd with h0 | h0
    ·omega
    have h2 : (v.getD (i + d + 1) z69).f0 < (v.getD (i + d + 1 + 1) z69).f0:=h0;show (v.getD i z69).f0 < (v.getD (i + d + 1 + 1) z69).f0;omega
  have h1:=main (j - i - 1) (by omega);rw [show i + (j - i - 1) + 1 = j by omega,gdE _ hi,gdE _ hj] at h1;exact h1
 intro h i hi
 by_cases h0 : i = 0
 ·exact .inl h0
 refine .inr ?_;have h1:=h (i - 1) i (by omega) hi (by omega);rw [gdE _ hi,gdE _ (show i - 1 < v.length by omega)];exact h1
theorem gB_get {a : List S80} {r : Int} (ha : arenaB a = true) (hr : r = -1 ∨ rootB a r = true) {s : Nat} (hs : s < 16) : gB a r s = getB a r (s : Int):=by
 unfold gB;rcases hr with rfl | hr
 ·rw [if_pos (by omega),get_none rfl]
 have:=root_lt hr;rw [if_neg (by omega),get_root ha hr (by omega) (by omega)]
theorem getOk_iff {a : List S80} {r n : Int} (ha : arenaB a = true) (hr : r = -1 ∨ rootB a r = true) (hn : 1 ≤ n) : getOk a n r = true ↔ ∀ s,getB a r s < n:=by
 unfold getOk;rw [List.all_eq_true];constructor
 ·intro h s
  by_cases hs : 0 ≤ s ∧ s ≤ 15
  ·have h1:=h s.toNat (by rw [List.mem_range'_1];omega);rw [gB_get ha hr (by omega),show ((s.toNat : Nat) : Int) = s by omega] at h1
   simpa using h1
  rw [get_out hs];omega
 intro h s hs;rw [List.mem_range'_1] at hs;rw [gB_get ha hr (by omega)];have:=h (s : Int);rw [decide_eq_false (by omega)];rfl
theorem vol_iff {v : List S69} {a : List S80} {i : Nat} : volOk v a i = true ↔ (1 ≤ (v.getD i z69).f0 ∧ (v.getD i z69).f0 ≤ 9) ∧ (i = 0 ∨ (v.getD (i - 1) z69).f0 < (v.getD i z69).f0) ∧ ((v.getD i z69).f1 = -1 ∨ rootB a (v.getD i z69).f1 = true):=by
 unfold volOk;simp only [Bool.and_eq_true,Bool.or_eq_true,decide_eq_true_eq,Bool.not_eq_true',decide_eq_false_iff_not];constructor
 ·rintro ⟨h1,h2,h3⟩;exact ⟨h1,h2.imp id (fun h=>by omega),h3⟩
 rintro ⟨h1,h2,h3⟩;exact ⟨h1,h2.imp id (fun h=>by omega),h3⟩
theorem rootsOk {v : List S69} {a : List S80} (h : ∀ x ∈ v,x.f1 = -1 ∨ rootB a x.f1 = true) : ∀ r ∈ rootsB v,r = -1 ∨ rootB a r = true:=by
 intro r hr;unfold rootsB at hr;obtain ⟨x,hx,rfl⟩:=List.mem_map.1 hr;exact h x hx
theorem sweepOk_of {a : List S80} {roots : List Int} (ha : arenaB a = true) (hr : ∀ r ∈ roots,r = -1 ∨ rootB a r = true) : sweepOk a roots = true:=by
 unfold sweepOk;rw [ha,Bool.true_and,List.all_eq_true];intro r h;rw [Bool.or_eq_true,decide_eq_true_eq];exact hr r h
theorem right_iff {v : List S69} {a : List S80} {n : Int} : storeB v a n = true ↔ Half v a n ∧ Full v a:=by
 have mr : ∀ {P : Nat → Bool} {m : Nat},(List.range' 0 m).all P = true ↔ ∀ i,i < m → P i = true:=fun {P m}=>by
  rw [List.all_eq_true];exact ⟨fun h i hi=>h i (by rw [List.mem_range'_1];omega),fun h i hi=>h i (by rw [List.mem_range'_1] at hi;omega)⟩
 unfold storeB;constructor
 ·intro h
  by_cases h1 : (v.length : Int) > 3
  ·rw [if_pos h1] at h;cases h
  rw [if_neg h1] at h
  by_cases h2 : arenaB a = true
  ·rw [if_pos h2] at h
   by_cases h3 : 1 ≤ n ∧ n ≤ 1000000000
   ·rw [if_pos h3,← ok_eq v a n h2 h3.1] at h;unfold specOk at h;rw [Bool.and_eq_true,mr,decide_eq_true_eq] at h;obtain ⟨hv,hl⟩:=h
    have hV : ∀ i,i < v.length → volOk v a i = true ∧ getOk a n (v.getD i z69).f1 = true:=fun i hi=>by
     have:=hv i hi
     rwa [Bool.and_eq_true] at this
    have hx : ∀ x ∈ v,(1 ≤ x.f0 ∧ x.f0 ≤ 9) ∧ (x.f1 = -1 ∨ rootB a x.f1 = true) ∧ ∀ s,getB a x.f1 s < n:=by
     intro x hx;obtain ⟨i,hi,rfl⟩:=List.getElem_of_mem hx;obtain ⟨h4,h5⟩:=hV i hi;obtain ⟨h6,_,h7⟩:=vol_iff.1 h4;rw [gdE _ hi] at h5 h6 h7;exact ⟨h6,h7,(getOk_iff h2 h7 h3.1).1 h5⟩
    refine ⟨⟨by omega,h2,h3,asc_iff.1 fun i hi=>(vol_iff.1 (hV i hi).1).2.1,hx⟩,?_⟩;exact (sweep_len (sweepOk_of h2 (rootsOk fun x h=>(hx x h).2.1))).1 hl
   rw [if_neg h3] at h;cases h
  rw [if_neg h2] at h;cases h
 rintro ⟨⟨h1,h2,h3,h4,h5⟩,hf⟩;rw [if_neg (by omega),if_pos h2,if_pos h3,← ok_eq v a n h2 h3.1];unfold specOk;rw [Bool.and_eq_true,mr,decide_eq_true_eq];refine ⟨fun i hi=>?_,(sweep_len (sweepOk_of h2 (rootsOk fun x h=>(h5 x h).2.1))).2 hf⟩;have hm : v.getD i z69 ∈ v:=by rw [gdE _ hi];exact List.getElem_mem hi
 obtain ⟨h6,h7,h8⟩:=h5 _ hm;rw [Bool.and_eq_true];exact ⟨vol_iff.2 ⟨h6,asc_iff.2 h4 i hi,h7⟩,(getOk_iff h2 h7 h3.1).2 h8⟩
def zipR (v : List S69) (rs : List Int) : List S69:=(List.range' 0 v.length).map fun i=>⟨(v.getD i z69).f0,rs.getD i 0⟩
theorem zipR_len (v : List S69) (rs : List Int) : (zipR v rs).length = v.length:=by simp [zipR]
theorem zipR_get {v : List S69} {rs : List Int} {i : Nat} (h : i < v.length) : (zipR v rs).getD i z69 = ⟨(v.getD i z69).f0,rs.getD i 0⟩:=by
 rw [gdE _ (by rw [zipR_len];exact h)];unfold zipR;simp
theorem zipR_roots {v : List S69} {rs : List Int} (h : rs.length = v.length) : rootsB (zipR v rs) = rs:=by
 apply List.ext_getElem
 ·unfold rootsB;rw [List.length_map,zipR_len,h]
 intro i h1 h2;have h3 : i < v.length:=by omega
 have e:=rootsB_get (zipR v rs) (i:=i) (by rw [zipR_len];exact h3);rw [zipR_get h3,gdE _ h1] at e;rw [e];exact gdE _ h2
def sweptV (v : List S69) (a : List S80) : List S69:=zipR v (sweepB a (rootsB v)).2
def sweptA (v : List S69) (a : List S80) : List S80:=(sweepB a (rootsB v)).1
theorem all_get {a b : List S80} {r q : Int} (h : allB a r = allB b q) (s : Int) : getB a r s = getB b q s:=by
 by_cases hs : 0 ≤ s ∧ s ≤ 15
 ·have h1:=allB_get a r (i:=s.toNat) (by omega);have h2:=allB_get b q (i:=s.toNat) (by omega);rw [h,h2,show ((s.toNat : Nat) : Int) = s by omega] at h1;exact h1.symm
 rw [get_out hs,get_out hs]
theorem rootsB_len (v : List S69) : (rootsB v).length = v.length:=List.length_map _
theorem right_swept {v : List S69} {a : List S80} {n : Int} (h : Half v a n) : Half (sweptV v a) (sweptA v a) n ∧ Full (sweptV v a) (sweptA v a) ∧
  (∀ i,i < v.length → ((sweptV v a).getD i z69).f0 = (v.getD i z69).f0 ∧ allB (sweptA v a) ((sweptV v a).getD i z69).f1 = allB a (v.getD i z69).f1) ∧ (sweptA v a).length ≤ a.length:=by
 obtain ⟨h1,h2,h3,h4,h5⟩:=h;obtain ⟨s1,s2,s3,s4,s5,s6⟩:=swept h2 (rootsOk fun x h=>(h5 x h).2.1);rw [rootsB_len] at s2 s4;have hz:=zipR_roots (v:=v) s2
 have hg : ∀ i,i < v.length → ((sweptV v a).getD i z69).f0 = (v.getD i z69).f0 ∧ allB (sweptA v a) ((sweptV v a).getD i z69).f1 = allB a (v.getD i z69).f1:=by
  intro i hi;have e:=zipR_get (rs:=(sweepB a (rootsB v)).2) hi;refine ⟨by unfold sweptV;rw [e],?_⟩;unfold sweptV;rw [e];have:=s4 i hi;rw [rootsB_get v hi] at this;exact this
 refine ⟨⟨by unfold sweptV;rw [zipR_len];exact h1,s1,h3,asc_iff.1 fun i hi=>?_,fun x hx=>?_⟩,?_,hg,s3⟩
 ·have hi : i < v.length:=by unfold sweptV at hi;rwa [zipR_len] at hi
  rw [(hg i hi).1,(hg (i - 1) (by omega)).1];exact asc_iff.2 h4 i hi
 ·obtain ⟨i,hi,rfl⟩:=List.getElem_of_mem hx;have hi2 : i < v.length:=by unfold sweptV at hi;rwa [zipR_len] at hi
  obtain ⟨g1,g2⟩:=hg i hi2;rw [gdE _ hi,gdE _ hi2] at g1 g2;obtain ⟨h6,h7,h8⟩:=h5 _ (List.getElem_mem hi2);refine ⟨by rw [g1];exact h6,s5 _ ?_,fun s=>by rw [all_get g2 s];exact h8 s⟩;rw [← hz];exact List.mem_map.2 ⟨_,hx,rfl⟩
 unfold Full sweptV;rw [hz];exact s6
theorem keep_mono {a : List S80} {p q : List Int} (h : ∀ x ∈ p,x ∈ q) {j : Nat} (hk : keepB a p j = true) : keepB a q j = true:=by
 obtain ⟨r,h1,h2⟩:=keep_iff.1 hk;exact keep_iff.2 ⟨r,h r h1,h2⟩
theorem volB_none {v : List S69} {id : Int} (h : volB v id = -1) : ∀ x ∈ v,¬ x.f0 = id:=by
 have main : ∀ (d i : Nat),findI (fun i=>decide ((v.getD i z69).f0 = id)) i d = -1 → ∀ j,i ≤ j → j < i + d → ¬ (v.getD j z69).f0 = id:=by
  intro d
  induction d with
  | zero=>intro i _ j h1 h2;omega
  | succ d ih =>
   intro i hf j h1 h2;unfold findI at hf
   split at hf
   ·omega
   rename_i hn
   by_cases e : j = i
   ·subst e;exact fun g=>hn (decide_eq_true g)
   exact ih (i + 1) hf j (by omega) (by omega)
 intro x hx;obtain ⟨i,hi,rfl⟩:=List.getElem_of_mem hx;have:=main v.length 0 h i (by omega) (by omega)
 rwa [gdE _ hi] at this
theorem volB_some {v : List S69} {id : Int} (h : ¬ volB v id = -1) : ∃ j,j < v.length ∧ volB v id = (j : Int) ∧ (v.getD j z69).f0 = id:=by
 rcases findI_range (T:=fun i=>decide ((v.getD i z69).f0 = id)) v.length 0 with h1 | ⟨j,_,h2,h3,h4⟩
 ·exact absurd h1 h
 exact ⟨j,by omega,h3,of_decide_eq_true h4⟩
theorem volB_at {v : List S69} (ha : v.Pairwise fun x y=>x.f0 < y.f0) {i : Nat} (hi : i < v.length) : volB v (v.getD i z69).f0 = (i : Int):=by
 have hn : ¬ volB v (v.getD i z69).f0 = -1:=fun e=>volB_none e v[i] (List.getElem_mem hi) (by rw [gdE _ hi]);obtain ⟨j,h1,h2,h3⟩:=volB_some hn;rw [h2];rw [List.pairwise_iff_getElem] at ha;rw [gdE _ hi,gdE _ h1] at h3;rcases Nat.lt_trichotomy j i with h | h | h
 ·have:=ha j i h1 hi h;omega
 ·omega
 have:=ha i j hi h1 h;omega
def insV (v : List S69) (x : S69) : List S69:=v.filter (fun y=>decide (y.f0 < x.f0)) ++ [x] ++ v.filter fun y=>decide (y.f0 > x.f0)
theorem two_filters {v : List S69} {x : S69} : (v.filter (fun y=>decide (y.f0 < x.f0))).length + (v.filter fun y=>decide (y.f0 > x.f0)).length ≤ v.length:=by
 induction v with
 | nil=>exact Nat.le_refl _
 | cons y v ih =>
  rw [List.filter_cons,List.filter_cons]
  by_cases h : y.f0 < x.f0
  ·rw [if_pos (decide_eq_true h),if_neg (by rw [decide_eq_false (by omega)];decide),List.length_cons,List.length_cons];omega
  rw [if_neg (by rw [decide_eq_false h];decide)]
  split
  ·rw [List.length_cons,List.length_cons];omega
  rw [List.length_cons];omega
theorem mem_ins {v : List S69} {x y : S69} : y ∈ insV v x ↔ y = x ∨ y ∈ v ∧ ¬ y.f0 = x.f0:=by
 unfold insV;simp only [List.mem_append,List.mem_filter,List.mem_singleton,decide_eq_true_eq];constructor
 ·rintro ((⟨h1,h2⟩ | h) | ⟨h1,h2⟩)
  ·exact .inr ⟨h1,by omega⟩
  ·exact .inl h
  exact .inr ⟨h1,by omega⟩
 rintro (h | ⟨h1,h2⟩)
 ·exact .inl (.inr h)
 by_cases h3 : y.f0 < x.f0
 ·exact .inl (.inl ⟨h1,h3⟩)
 exact .inr ⟨h1,by omega⟩
theorem half_ins {v : List S69} {a : List S80} {n : Int} {x : S69} (h : Half v a n) (hl : v.length < 3) (hi : 1 ≤ x.f0 ∧ x.f0 ≤ 9) (hr : x.f1 = -1 ∨ ∃ y ∈ v,y.f1 = x.f1) : Half (insV v x) a n:=by
 obtain ⟨h1,h2,h3,h4,h5⟩:=h;refine ⟨?_,h2,h3,?_,fun y hy=>?_⟩
 ·unfold insV;have:=two_filters (v:=v) (x:=x);rw [List.length_append,List.length_append,List.length_singleton];omega
 ·unfold insV;rw [List.pairwise_append,List.pairwise_append];refine ⟨⟨h4.filter _,List.pairwise_singleton _ _,fun y hy z hz=>?_⟩,h4.filter _,fun y hy z hz=>?_⟩
  ·rw [List.mem_singleton.1 hz];exact of_decide_eq_true (List.mem_filter.1 hy).2
  have hz2:=of_decide_eq_true (List.mem_filter.1 hz).2;rcases List.mem_append.1 hy with hy | hy
  ·have:=of_decide_eq_true (List.mem_filter.1 hy).2;omega
  rw [List.mem_singleton.1 hy];omega
 rcases mem_ins.1 hy with rfl | ⟨hy,_⟩
 ·refine ⟨hi,?_⟩;rcases hr with hr | ⟨w,hw,e⟩
  ·exact ⟨.inl hr,fun s=>by rw [get_none hr];omega⟩
  rw [← e];exact (h5 w hw).2
 exact h5 y hy
theorem full_ins {v : List S69} {a : List S80} {x : S69} (h : Full v a) (hn : volB v x.f0 = -1) : Full (insV v x) a:=by
 intro j hj;refine keep_mono (fun r hr=>?_) (h j hj);unfold rootsB at hr ⊢;obtain ⟨y,hy,rfl⟩:=List.mem_map.1 hr;exact List.mem_map.2 ⟨y,mem_ins.2 (.inr ⟨hy,volB_none hn y hy⟩),rfl⟩
theorem half_drop {v : List S69} {a : List S80} {n : Int} (h : Half v a n) (k : Nat) : Half (v.take k ++ v.drop (k + 1)) a n:=by
 obtain ⟨h1,h2,h3,h4,h5⟩:=h
 have hs : (v.take k ++ v.drop (k + 1)).Sublist v:=by
  have : (v.take k ++ v.drop (k + 1)).Sublist (v.take k ++ v.drop k):=List.Sublist.append (List.Sublist.refl _) (by
   rw [show v.drop (k + 1) = (v.drop k).drop 1 by rw [List.drop_drop]]
   exact List.drop_sublist _ _)
  rwa [List.take_append_drop] at this
 exact ⟨Nat.le_trans hs.length_le h1,h2,h3,h4.sublist hs,fun x hx=>h5 x (hs.subset hx)⟩
theorem half_put {v : List S69} {a : List S80} {n s c : Int} {k : Nat} (h : Half v a n) (hk : k < v.length) (hs : 0 ≤ s ∧ s ≤ 15) (hc : 0 ≤ c) (hm : c < 1000000000) :
  canPut a (v.getD k z69).f1 s c ∧ Half (v.set k ⟨(v.getD k z69).f0,(putB a (v.getD k z69).f1 s c).2⟩) (putB a (v.getD k z69).f1 s c).1 (if c ≥ n then c + 1 else n):=by
 obtain ⟨h1,h2,h3,h4,h5⟩:=h;have hmem : v.getD k z69 ∈ v:=by rw [gdE _ hk];exact List.getElem_mem hk
 obtain ⟨g1,g2,g3⟩:=h5 _ hmem;have hcan : canPut a (v.getD k z69).f1 s c:=⟨h2,g2,hs,hc⟩;have hnn : n ≤ (if c ≥ n then c + 1 else n) ∧ c < (if c ≥ n then c + 1 else n) ∧ (if c ≥ n then c + 1 else n) ≤ 1000000000:=by split <;> omega
 refine ⟨hcan,by rw [List.length_set];exact h1,put_arena hcan,by omega,asc_iff.1 fun i hi=>?_,fun x hx=>?_⟩
 ·rw [List.length_set] at hi;have e:=asc_iff.2 h4 i hi
  have f0 : ∀ j,((v.set k ⟨(v.getD k z69).f0,(putB a (v.getD k z69).f1 s c).2⟩).getD j z69).f0 = (v.getD j z69).f0:=by
   intro j;rw [getD_set' _ _ _ hk]
   by_cases ej : k = j
   ·rw [if_pos ej,ej]
   rw [if_neg ej]
  rw [f0,f0];exact e
 rcases List.mem_or_eq_of_mem_set hx with hx | rfl
 ·obtain ⟨e1,e2,e3⟩:=h5 x hx;refine ⟨e1,e2.imp id (put_keeps hcan),fun t=>?_⟩;rw [put_old hcan e2];have:=e3 t;omega
 refine ⟨g1,.inr (put_new hcan),fun t=>?_⟩;show getB (putB a (v.getD k z69).f1 s c).1 (putB a (v.getD k z69).f1 s c).2 t < _
 by_cases ht : 0 ≤ t ∧ t ≤ 15
 ·rw [put_get hcan ht.1 ht.2];have:=g3 t
  split <;> omega
 rw [get_out ht];omega
def rootOf (v : List S69) (id : Int) : Int:=if id > 0 then (v.getD (volB v id).toNat z69).f1 else -1
def enterB (v : List S69) (a : List S80) (n t w s c : Int) : Option (List S69 × List S80 × Int) :=
 if storeB v a n = true ∧ recOk t w s c = true then
  if t = 1 then some ([],[],if s = 0 then 1 else s)
  else if t = 2 then
   if (s > 0 ∧ volB v s = -1) ∨ ¬ volB v w = -1 ∨ v.length = 3 then none
   else some (insV v ⟨w,rootOf v s⟩,a,n)
  else if volB v w = -1 ∨ c = 1000000000 then none
  else if t = 3 then some (sweptV (v.take (volB v w).toNat ++ v.drop ((volB v w).toNat + 1)) a,sweptA (v.take (volB v w).toNat ++ v.drop ((volB v w).toNat + 1)) a,n)
  else let k:=(volB v w).toNat
   let p:=putB a (v.getD k z69).f1 s c
   let u:=v.set k ⟨(v.getD k z69).f0,p.2⟩
   some (sweptV u p.1,sweptA u p.1,if c ≥ n then c + 1 else n)
 else none
theorem enter_right {v : List S69} {a : List S80} {n t w s c : Int} {v' : List S69} {a' : List S80} {n' : Int} (h : enterB v a n t w s c = some (v',a',n')) : storeB v' a' n' = true ∧ a'.length ≤ a.length + 2:=by
 unfold enterB at h
 split at h
 rotate_left
 ·cases h
 rename_i h0;obtain ⟨hh,hf⟩:=right_iff.1 h0.1;have hr:=recOk_range h0.2;have hro:=h0.2;unfold recOk at hro;rw [decide_eq_true_eq] at hro
 split at h
 ·injection h with h;injection h with h1 h;injection h with h2 h3;subst h1 h2 h3;refine ⟨right_iff.2 ⟨⟨Nat.zero_le _,rfl,by split <;> omega,List.Pairwise.nil,fun x hx=>by cases hx⟩,fun j hj=>absurd hj (Nat.not_lt_zero _)⟩,Nat.zero_le _⟩
 rename_i t1
 split at h
 ·rename_i t2
  split at h
  ·cases h
  rename_i hg;injection h with h;injection h with h1 h;injection h with h2 h3;subst h1 h2 h3
  have e1 : volB v w = -1:=by
   by_cases e : volB v w = -1
   ·exact e
   exact absurd (.inr (.inl e)) hg
  have e2 : ¬ v.length = 3:=fun e=>hg (.inr (.inr e));refine ⟨right_iff.2 ⟨half_ins hh (by have:=hh.1;omega) (by show 1 ≤ w ∧ w ≤ 9;omega) ?_,full_ins hf e1⟩,by omega⟩;show rootOf v s = -1 ∨ ∃ y ∈ v,y.f1 = rootOf v s;unfold rootOf
  by_cases hs : s > 0
  ·rw [if_pos hs];have e3 : ¬ volB v s = -1:=fun e=>hg (.inl ⟨hs,e⟩);obtain ⟨j,j1,j2,j3⟩:=volB_some e3;refine .inr ⟨v.getD j z69,by rw [gdE _ j1];exact List.getElem_mem j1,?_⟩;rw [j2];rfl
  rw [if_neg hs];exact .inl rfl
 rename_i t2
 split at h
 ·cases h
 rename_i hg;have e3 : ¬ volB v w = -1:=fun e=>hg (.inl e);obtain ⟨j,j1,j2,j3⟩:=volB_some e3;have e4 : (volB v w).toNat = j:=by omega
 rw [e4] at h
 split at h
 ·injection h with h;injection h with h1 h;injection h with h2 h3;subst h1 h2 h3;obtain ⟨g1,g2,g3,g4⟩:=right_swept (half_drop hh j);exact ⟨right_iff.2 ⟨g1,g2⟩,by omega⟩
 rename_i t3;simp only at h;injection h with h;injection h with h1 h;injection h with h2 h3;subst h1 h2 h3;obtain ⟨hcan,hp⟩:=half_put (s:=s) (c:=c) hh j1 (by omega) (by omega) (by omega);obtain ⟨g1,g2,g3,g4⟩:=right_swept hp;refine ⟨right_iff.2 ⟨g1,g2⟩,?_⟩;rw [put_len hcan] at g4;exact g4
end Go.Proofs.YteideicglgpfiaaGreat.Pu

namespace Go.Proofs.YteideicglgpfiaaGreat.Pu
set_option linter.unusedVariables false
set_option linter.unusedSimpArgs false
open Go.RowKit Go.Proofs.YteideicglgpfiaaGreat.PK Go.Proofs.YteideicglgpfiaaGreatW.PrintWords
def Woods (a : List S80) (roots : List Int) : Prop:=arenaB a = true ∧ ∀ x ∈ roots,x = -1 ∨ rootB a x = true
theorem woods_len {a : List S80} (ha : arenaB a = true) : ∀ x ∈ a,x.f1.length = 4:=by
 intro x hx;obtain ⟨i,hi,rfl⟩:=List.getElem_of_mem hx;have h:=(knot_of ha hi).1
 rwa [List.getD_eq_getElem?_getD,List.getElem?_eq_getElem hi] at h
theorem woods_le {a : List S80} (ha : arenaB a = true) : ∀ x ∈ a,x.f1.length ≤ 1048576:=fun x hx=>by rw [woods_len ha x hx];omega
end Go.Proofs.YteideicglgpfiaaGreat.Pu

namespace Go.Proofs.YteideicglgpfiaaGreat.M2.Mp
set_option linter.unusedVariables false
set_option linter.unusedSimpArgs false
open Go.RowKit Go.Proofs.YteideicglgpfiaaGreat.PK Go.Proofs.YteideicglgpfiaaGreatW.PrintWords Go.Proofs.YteideicglgpfiaaGreat.Pu
abbrev Sz (a : List S80) : Prop:=∀ x ∈ a,x.f1.length ≤ 1048576
theorem sRootsX (v : List S69) (a : List S80) (n : Int) (hv : v.length ≤ 1048576) : EvX (fun k=>spec_l12Roots.f k v a n) (fun r=>r = rootsB v) :=
 ⟨_,ev_rel (sRoots_ev v a n hv) (fun k r hh m hm=>spec_l12Roots.rel k v a n r hh m hm),rfl⟩
theorem sSweepX (a : List S80) (rs : List Int) (hn : a.length ≤ 1048576) (hx : Sz a) (hr : rs.length ≤ 1048576) : EvX (fun k=>spec_SweepArena.f k a rs) (fun r=>r = sweepB a rs) :=
 ⟨_,ev_rel (sSweep_ev a rs hn hx hr) (fun k r hh m hm=>spec_SweepArena.rel k a rs r hh m hm),rfl⟩
theorem sRootX (a : List S80) (r : Int) (hn : a.length ≤ 1048576) : EvX (fun k=>spec_l11Root.f k a r) (fun t=>t = (decide (r = -1) || rootB a r)) :=
 ⟨_,ev_all_k (fun m=>spec_l11Root.rel 0 a r _ (sRoot_eq a r (by omega)) m (Nat.zero_le _)),rfl⟩
theorem sGetX (a : List S80) (r : Int) (s : Nat) (ha : arenaB a = true) (hr : (decide (r = -1) || rootB a r) = true) (hs : s < 16) : EvX (fun k=>spec_l11Get.f k a r (s : Int)) (fun t=>t = gB a r s) :=
 ⟨_,ev_all_k (fun m=>spec_l11Get.rel 0 a r (s : Int) _ (gB_eq a r s ha hr hs) m (Nat.zero_le _)),rfl⟩
theorem sArenaX (a : List S80) (hn : a.length ≤ 1048576) : EvX (fun k=>spec_ArenaOk.f k a) (fun t=>t = arenaB a) :=
 ⟨_,ev_rel (sArena_ev a (by omega)) (fun k r hh m hm=>spec_ArenaOk.rel k a r hh m hm),rfl⟩
theorem sRecOkX (t w s c : Int) : EvX (fun k=>spec_RecOk.f k t w s c) (fun r=>r = recOk t w s c) :=
 ⟨_,ev_rel (sRecOk_ev t w s c) (fun k r hh m hm=>spec_RecOk.rel k t w s c r hh m hm),rfl⟩
theorem sVolAtX (v : List S69) (a : List S80) (n id : Int) (hv : v.length ≤ 1048576) : EvX (fun k=>spec_l12At.f k v a n id) (fun r=>r = volB v id) :=
 ⟨_,ev_rel (sVolAt_ev v a n id hv) (fun k r hh m hm=>spec_l12At.rel k v a n id r hh m hm),rfl⟩
theorem sPutX (a : List S80) (r s n : Int) (hn : a.length ≤ 1048576) (hx : Sz a) : EvX (fun k=>spec_PutAt.f k a r s n) (fun t=>t = putB a r s n):=by
 simp only [spec_PutAt.f];refine evx_bind (Q:=fun t=>t = a) ⟨_,ev_rel (c:=id) (sCopyArena_ev a hn hx) (fun k r hh m hm=>spec_l11Copy.rel k a r hh m hm),rfl⟩ fun t e=>?_;subst e;refine evx_bind (sArenaX t hn) fun t2 e2=>?_;subst e2;refine evx_ite (fun h3=>?_) (fun h3=>evx_some (by rw [putB_no (fun h=>h3 h.1)]));refine evx_bind (sRootX t r hn) fun t3 e3=>?_;subst e3;have hrr : (decide (r = -1) || rootB t r) = true ↔ (r = -1 ∨ rootB t r = true):=by rw [Bool.or_eq_true,decide_eq_true_eq]
 refine evx_ite (fun hr=>?_) (fun hr=>evx_some (by rw [putB_no (fun h=>hr (hrr.2 h.2.1))]));have hr:=hrr.1 hr;refine evx_bind (l01InX s 0 15) fun t4 e4=>?_;subst e4;refine evx_ite (fun h1=>?_) (fun h1=>evx_some (by rw [putB_no (fun h=>h1 (decide_eq_true h.2.2.1))]));have h1:=of_decide_eq_true h1;obtain ⟨d1,d2,d3,d4,d5,d6⟩:=div4 h1.1 h1.2;refine evx_ite (fun h2=>evx_some (by rw [putB_no (fun h=>by have:=h.2.2.2;omega)])) (fun h2=>?_);have hc : canPut t r s n:=⟨h3,hr,h1,by omega⟩;simp only [List.nil_append,w64_eq,d1,d2]
 have fin : ∀ (x y : S80),wrap64 (((t ++ [x,y]).length : Int) - 1) = (t.length : Int) + 1:=fun x y=>by
  have e : (t ++ [x,y]).length = t.length + 2:=by simp
  rw [e,Pu.w64 (by omega) (by omega)];omega
 by_cases h0 : r = -1
 ·have ht:=top_none (a:=t) h0;have hq : ¬ 0 ≤ ([-1,-1,-1,-1] : List Int).getD (s / 4).toNat 0:=by rw [none4 _ (by omega)];decide
  have hq2 : ¬ rd_T3 ([(-1),(-1),(-1),(-1)] : List Int) (s / 4) ≥ 0:=hq;refine evx_neg (by omega) ?_
  repeat first | refine evx_pos (by omega) ?_ | refine evx_neg (by omega) ?_ | refine evx_pos (by simp;omega) ?_ | refine evx_pos (by simp) ?_
  refine evx_some ?_;rw [putB_yes hc ht (leaf_new ht hq),fin] <;> rfl
 have ht:=top_some (a:=t) h0;obtain ⟨r0,rl,rf⟩:=root_lt (hr.resolve_left h0);have h4 : (rd_T80 t r).f1.length = 4:=(knot_of h3 rl).1;have hk:=kid_of h3 rl rf (j:=(s / 4).toNat) (by omega);rcases hk with hk | ⟨k0,k1,_⟩
 ·have hq : ¬ 0 ≤ (t.getD r.toNat z80).f1.getD (s / 4).toNat 0:=by omega
  have hq2 : ¬ rd_T3 (rd_T80 t r).f1 (s / 4) ≥ 0:=hq
  repeat first | refine evx_pos (by omega) ?_ | refine evx_neg (by omega) ?_ | refine evx_pos (by simp;omega) ?_ | refine evx_pos (by simp) ?_
  refine evx_some ?_;rw [putB_yes hc ht (leaf_new ht hq),fin] <;> rfl
 have k0' : 0 ≤ rd_T3 (rd_T80 t r).f1 (s / 4):=k0
 have k1' : rd_T3 (rd_T80 t r).f1 (s / 4) < (t.length : Int):=by
  have k1 : (t.getD r.toNat z80).f1.getD (s / 4).toNat 0 < _:=k1;show (t.getD r.toNat z80).f1.getD (s / 4).toNat 0 < _;omega
 have h5 : (rd_T80 t (rd_T3 (rd_T80 t r).f1 (s / 4))).f1.length = 4:=(knot_of h3 (i:=((t.getD r.toNat z80).f1.getD (s / 4).toNat 0).toNat) (by omega)).1
 repeat first | refine evx_pos (by omega) ?_ | refine evx_neg (by omega) ?_ | refine evx_pos (by simp;omega) ?_ | refine evx_pos (by simp) ?_
 refine evx_some ?_;rw [putB_yes hc ht (leaf_old ht k0),fin] <;> rfl
theorem sCopyX (v : List S69) (a : List S80) (n : Int) (hv : v.length ≤ 1048576) (hn : a.length ≤ 1048576) (hx : Sz a) : EvX (fun k=>spec_l12Copy.f k v a n) (fun r=>r = (v,a,n)):=by
 simp only [spec_l12Copy.f];refine evx_pos (by show 0 + v.length ≤ _;omega) ?_;refine evx_bind (Q:=fun t=>t = a) ⟨_,ev_rel (c:=id) (sCopyArena_ev a hn hx) (fun k r hh m hm=>spec_l11Copy.rel k a r hh m hm),rfl⟩ fun t ht=>?_;subst ht;exact evx_some (by rw [List.nil_append])
theorem sStoreX (v : List S69) (a : List S80) (n : Int) (hv : v.length ≤ 1048576) (hn : a.length ≤ 1048576) (hx : Sz a) (ha : arenaB a = true) : ∀ (d i : Nat),i + d = v.length →
  EvX (fun k=>spec_StoreOk.c4 k (i : Int) a v n) (fun r=>r = ((List.range' i d).all (fun i=>volOk v a i && getOk a n (v.getD i z69).f1) && decide ((sweepB a (rootsB v)).1.length = a.length),v,a)):=by
 intro d
 induction d with
 | zero =>
  intro i hi;refine evx_step (fun k=>by rw [spec_StoreOk.c4]) (evx_neg (by omega) ?_);refine evx_bind (sRootsX v a n hv) fun t ht=>?_;subst ht;refine evx_bind (sSweepX a (rootsB v) hn hx (by rw [rootsB_len];exact hv)) fun t ht=>?_;subst ht;refine evx_some ?_
  congr 1
  rw [List.range'_zero,List.all_nil,Bool.true_and];exact decide_eq_decide.2 ⟨fun h=>by omega,fun h=>by omega⟩
 | succ d ih =>
  intro i hi;have hil : i < v.length:=by omega
  have hV : rd_T69 v (i : Int) = v.getD i z69:=rfl;have hR:=ih (i + 1) (by omega);rw [List.range'_succ,List.all_cons,Bool.and_assoc];generalize ((List.range' (i + 1) d).all (fun i=>volOk v a i && getOk a n (v.getD i z69).f1) && decide ((sweepB a (rootsB v)).1.length = a.length)) = R at hR
  have inner : (decide ((v.getD i z69).f1 = -1) || rootB a (v.getD i z69).f1) = true → ∀ (e s : Nat),s + e = 16 → ∀ y1 y2 y3 y4 y5 y6 y7 h,EvX (fun k=>spec_StoreOk.c10 k (i : Int) (s : Int) y1 y2 y3 y4 y5 y6 y7 a v n h (v.getD i z69).f1)
    (fun r=>r = ((List.range' s e).all (fun s=>!decide (gB a (v.getD i z69).f1 s ≥ n)) && R,v,a)):=by
   intro hok e
   induction e with
   | zero =>
    intro s hs y1 y2 y3 y4 y5 y6 y7 h;refine evx_step (fun k=>by rw [spec_StoreOk.c10]) (evx_neg (by omega) ?_);rw [m64 (n:=v.length) hil (by omega)];exact hR
   | succ e ihe =>
    intro s hs y1 y2 y3 y4 y5 y6 y7 h;refine evx_step (fun k=>by rw [spec_StoreOk.c10]) (evx_pos (by omega) ?_);refine evx_bind (sGetX a _ s ha hok (by omega)) fun t ht=>?_;subst ht;rw [List.range'_succ,List.all_cons];refine evx_ite (fun hge=>evx_some ?_) (fun hge=>?_)
    ·rw [decide_eq_true hge];rfl
    rw [decide_eq_false hge,m64 (n:=16) (by omega) (by omega)];exact ihe (s + 1) (by omega) _ _ _ _ _ _ _ _
  refine evx_step (fun k=>by rw [spec_StoreOk.c4]) (evx_pos (by omega) (evx_pos (by omega) (evx_pos (by omega) ?_)));rw [hV];refine evx_bind (l01InX _ 1 9) fun t ht=>?_;subst ht;unfold volOk
  by_cases h1 : 1 ≤ (v.getD i z69).f0 ∧ (v.getD i z69).f0 ≤ 9
  ·rw [decide_eq_true h1];refine evx_pos rfl (evx_ite (fun h2=>?_) (fun h2=>?_))
   ·rw [m64i (x:=(i : Int) - 1) (by omega) (by omega),show (i : Int) - 1 = ((i - 1 : Nat) : Int) by omega,show rd_T69 v ((i - 1 : Nat) : Int) = v.getD (i - 1) z69 from rfl,decide_eq_false (show ¬ i = 0 by omega)];refine evx_pos (by omega) (evx_pos (by omega) (evx_ite (fun h3=>evx_some ?_) (fun h3=>?_)))
    ·rw [decide_eq_true h3];rfl
    rw [decide_eq_false h3];refine evx_bind (sRootX a _ hn) fun t ht=>?_;subst ht;refine evx_ite (fun h4=>?_) (fun h4=>evx_some ?_)
    ·rw [h4];exact inner h4 16 0 (by omega) _ _ _ _ _ _ _ _
    rw [Bool.eq_false_iff.2 h4];rfl
   rw [decide_eq_true (show i = 0 by omega)];refine evx_bind (sRootX a _ hn) fun t ht=>?_;subst ht;refine evx_ite (fun h4=>?_) (fun h4=>evx_some ?_)
   ·rw [h4];exact inner h4 16 0 (by omega) _ _ _ _ _ _ _ _
   rw [Bool.eq_false_iff.2 h4];rfl
  rw [decide_eq_false h1];exact evx_neg (by decide) (evx_some rfl)
theorem sStoreOkX (v : List S69) (a : List S80) (n : Int) (hv : v.length ≤ 1048576) (hn : a.length ≤ 1048576) (hx : Sz a) : EvX (fun k=>spec_StoreOk.f k n v a) (fun r=>r = (storeB v a n,v,a)):=by
 simp only [spec_StoreOk.f];unfold storeB;refine evx_ite (fun h1=>evx_some (by rw [if_pos h1])) (fun h1=>?_);simp only [if_neg h1];refine evx_bind (sArenaX a hn) fun t ht=>?_;subst ht;refine evx_ite (fun h2=>?_) (fun h2=>evx_some (by rw [if_neg h2]));simp only [if_pos h2];refine evx_bind (l01InX n 1 1000000000) fun t ht=>?_;subst ht
 by_cases h3 : 1 ≤ n ∧ n ≤ 1000000000
 ·rw [decide_eq_true h3];simp only [if_pos h3,if_true];rw [← ok_eq v a n h2 h3.1];exact sStoreX v a n hv hn hx h2 v.length 0 (by omega)
 rw [decide_eq_false h3];simp only [if_neg h3,Bool.false_eq_true,if_false];exact evx_some rfl
theorem drop_one {α : Type} {l : List α} {i : Nat} (z : α) (h : i < l.length) : l.drop i = l.getD i z :: l.drop (i + 1):=by
 rw [List.drop_eq_getElem_cons h,gdE z h]
theorem sIns2X (v : List S69) (w : Int) (root : Int) (a : List S80) (n t s c : Int) (u : List S69) (b : List S80) (m : Int) (hv : v.length ≤ 1048576) : ∀ (d i : Nat),i + d = v.length → ∀ (acc p1 : List S69) (p2 : List S80) (p3 : Int),acc.length ≤ v.length + 1 + i →
  EvX (fun k=>spec_l12Vol.c18 k (i : Int) v a n t w s c p1 p2 p3 u b m acc) (fun r=>r = (acc ++ (v.drop i).filter (fun y=>decide (y.f0 > w)),b,m,true)):=by
 intro d
 induction d with
 | zero =>
  intro i hi acc p1 p2 p3 hl;rw [List.drop_eq_nil_of_le (by omega)];refine evx_step (fun k=>by rw [spec_l12Vol.c18]) (evx_neg (by omega) (evx_some (by simp)))
 | succ d ih =>
  intro i hi acc p1 p2 p3 hl;have hil : i < v.length:=by omega
  rw [drop_one z69 hil,List.filter_cons];refine evx_step (fun k=>by rw [spec_l12Vol.c18]) (evx_pos (by omega) (evx_pos (by omega) (evx_pos (by omega) ?_)));rw [m64 (n:=v.length) hil (by omega),show rd_T69 v (i : Int) = v.getD i z69 from rfl];refine evx_ite (fun h=>?_) (fun h=>?_)
  ·rw [if_pos (decide_eq_true h)];refine evx_pos (by omega) (evx_pos (by omega) (evx_pos (by show acc.length + 1 ≤ _;omega) ?_));refine evx_mono (ih (i + 1) (by omega) (acc ++ [v.getD i z69]) p1 p2 p3 (by simp;omega)) fun r hr=>?_;rw [hr,List.append_assoc];rfl
  rw [if_neg (by rw [decide_eq_false h];decide)];exact ih (i + 1) (by omega) acc p1 p2 p3 (by omega)
theorem sIns1X (v : List S69) (w : Int) (root : Int) (a : List S80) (n t s c : Int) (u : List S69) (b : List S80) (m : Int) (hv : v.length ≤ 1048576) : ∀ (d i : Nat),i + d = v.length → ∀ (acc p1 : List S69) (p2 : List S80) (p3 : Int),acc.length ≤ i →
  EvX (fun k=>spec_l12Vol.c12 k root (i : Int) v a n t w s c p1 p2 p3 u b m acc) (fun r=>r = (acc ++ (v.drop i).filter (fun y=>decide (y.f0 < w)) ++ [⟨w,root⟩] ++ v.filter (fun y=>decide (y.f0 > w)),b,m,true)):=by
 intro d
 induction d with
 | zero =>
  intro i hi acc p1 p2 p3 hl;rw [List.drop_eq_nil_of_le (by omega),List.filter_nil,List.append_nil];refine evx_step (fun k=>by rw [spec_l12Vol.c12]) (evx_neg (by omega) (evx_pos (by show acc.length + 1 ≤ _;omega) ?_));exact sIns2X v w root a n t s c u b m hv v.length 0 (by omega) (acc ++ [⟨w,root⟩]) p1 p2 p3 (by simp;omega)
 | succ d ih =>
  intro i hi acc p1 p2 p3 hl;have hil : i < v.length:=by omega
  rw [drop_one z69 hil,List.filter_cons];refine evx_step (fun k=>by rw [spec_l12Vol.c12]) (evx_pos (by omega) (evx_pos (by omega) (evx_pos (by omega) ?_)));rw [m64 (n:=v.length) hil (by omega),show rd_T69 v (i : Int) = v.getD i z69 from rfl];refine evx_ite (fun h=>?_) (fun h=>?_)
  ·rw [if_pos (decide_eq_true h)];refine evx_pos (by omega) (evx_pos (by omega) (evx_pos (by show acc.length + 1 ≤ _;omega) ?_));refine evx_mono (ih (i + 1) (by omega) (acc ++ [v.getD i z69]) p1 p2 p3 (by simp;omega)) fun r hr=>?_;rw [hr];simp only [List.append_assoc];rfl
  rw [if_neg (by rw [decide_eq_false h];decide)];exact ih (i + 1) (by omega) acc p1 p2 p3 (by omega)
theorem sVolX (v : List S69) (a : List S80) (n t w s c : Int) (hv : v.length ≤ 1048576) (hn : a.length ≤ 1048576) (hx : Sz a) :
  EvX (fun k=>spec_l12Vol.f k v a n t w s c) (fun r=>r = if (s > 0 ∧ volB v s = -1) ∨ ¬ volB v w = -1 ∨ v.length = 3 then (v,a,n,false) else (insV v ⟨w,rootOf v s⟩,a,n,true)):=by
 simp only [spec_l12Vol.f]
 have rest : ∀ root : Int,¬ (s > 0 ∧ volB v s = -1) → rootOf v s = root → EvX (fun k=>(spec_l12At.f k v a n w).bind fun t3=>if t3 ≥ 0 then (spec_l12Copy.f k v a n).bind fun t4=>some (t4.1,t4.2.1,t4.2.2,false) else if (v.length : Int) = 3 then (spec_l12Copy.f k v a n).bind fun t5=>some (t5.1,t5.2.1,t5.2.2,false) else (spec_l12Copy.f k v a n).bind fun t6=>spec_l12Vol.c12 k root 0 v a n t w s c ([] : List S69) ([] : List S80) 0 t6.1 t6.2.1 t6.2.2 ([] : List S69))
   (fun r=>r = if (s > 0 ∧ volB v s = -1) ∨ ¬ volB v w = -1 ∨ v.length = 3 then (v,a,n,false) else (insV v ⟨w,rootOf v s⟩,a,n,true)):=by
  intro root hno hr;refine evx_bind (sVolAtX v a n w hv) fun t3 e3=>?_;subst e3;refine evx_ite (fun h=>?_) (fun h=>?_)
  ·refine evx_bind (sCopyX v a n hv hn hx) fun t e=>evx_some ?_;subst e;rw [if_pos (.inr (.inl (by omega)))]
  have h1 : volB v w = -1:=by rcases volB_cases v w with h2 | ⟨j,_,h2⟩ <;> omega
  refine evx_ite (fun h3=>?_) (fun h3=>?_)
  ·refine evx_bind (sCopyX v a n hv hn hx) fun t e=>evx_some ?_;subst e;rw [if_pos (.inr (.inr (by omega)))]
  refine evx_bind (sCopyX v a n hv hn hx) fun t6 e=>?_;subst e;rw [if_neg (fun g=>g.elim hno (fun g=>g.elim (fun g=>g h1) (fun g=>h3 (by omega)))),hr];exact sIns1X v w root a n t s c v a n hv v.length 0 (by omega) [] [] [] 0 (Nat.le_refl _)
 refine evx_ite (fun hs=>?_) (fun hs=>?_)
 ·refine evx_bind (sVolAtX v a n s hv) fun t1 e1=>?_;subst e1;refine evx_ite (fun h=>?_) (fun h=>?_)
  ·have h1 : volB v s = -1:=by rcases volB_cases v s with h2 | ⟨j,_,h2⟩ <;> omega
   refine evx_bind (sCopyX v a n hv hn hx) fun t e=>evx_some ?_;subst e;rw [if_pos (.inl ⟨hs,h1⟩)]
  rcases volB_cases v s with h2 | ⟨j,hj,h2⟩
  ·omega
  refine evx_pos (by omega) (evx_pos (by omega) (rest _ (fun g=>by omega) ?_));unfold rootOf;rw [if_pos hs];rfl
 refine rest (-1) (fun g=>hs g.1) ?_;unfold rootOf;rw [if_neg hs]
def zipN (v : List S69) (rs : List Int) (i : Nat) : List S69:=(List.range' 0 v.length).map fun j=>if j < i then ⟨(v.getD j z69).f0,rs.getD j 0⟩ else v.getD j z69
theorem zipN_len (v : List S69) (rs : List Int) (i : Nat) : (zipN v rs i).length = v.length:=by simp [zipN]
theorem zipN_get {v : List S69} {rs : List Int} {i j : Nat} (h : j < v.length) : (zipN v rs i)[j]? = some (if j < i then ⟨(v.getD j z69).f0,rs.getD j 0⟩ else v.getD j z69):=by
 unfold zipN;rw [List.getElem?_map,List.getElem?_range' h];simp
theorem zipN_zero (v : List S69) (rs : List Int) : zipN v rs 0 = v:=by
 apply List.ext_getElem
 ·exact zipN_len v rs 0
 intro j h1 h2;have e:=zipN_get (rs:=rs) (i:=0) h2;rw [List.getElem?_eq_getElem h1,if_neg (by omega),gdE _ h2] at e;exact Option.some.inj e
theorem zipN_all (v : List S69) (rs : List Int) : zipN v rs v.length = zipR v rs:=by
 unfold zipN zipR;refine List.map_congr_left fun j hj=>?_;rw [List.mem_range'_1] at hj;rw [if_pos (by omega)]
theorem zipN_next {v : List S69} {rs : List Int} {i : Nat} (h : i < v.length) : (zipN v rs i).set i ⟨(v.getD i z69).f0,rs.getD i 0⟩ = zipN v rs (i + 1):=by
 apply List.ext_getElem?;intro j;rw [List.getElem?_set]
 by_cases e : i = j
 ·subst e;rw [if_pos rfl,if_pos (by rw [zipN_len];exact h),zipN_get h,if_pos (by omega)]
 rw [if_neg e]
 by_cases hj : j < v.length
 ·rw [zipN_get hj,zipN_get hj]
  by_cases h2 : j < i
  ·rw [if_pos h2,if_pos (by omega)]
  rw [if_neg h2,if_neg (by omega)]
 rw [List.getElem?_eq_none (by rw [zipN_len];omega),List.getElem?_eq_none (by rw [zipN_len];omega)]
theorem sSweptX (v : List S69) (a : List S80) (n : Int) (hv : v.length ≤ 1048576) (hn : a.length ≤ 1048576) (hx : Sz a) (hl : (sweepB a (rootsB v)).2.length = v.length) : EvX (fun k=>spec_l12Swept.f k v a n) (fun r=>r = (sweptV v a,sweptA v a,n)):=by
 simp only [spec_l12Swept.f];refine evx_bind (sRootsX v a n hv) fun t1 e1=>?_;subst e1;refine evx_bind (sSweepX a (rootsB v) hn hx (by rw [rootsB_len];exact hv)) fun t2 e2=>?_;subst e2;refine evx_pos (by show 0 + v.length ≤ _;omega) ?_
 have main : ∀ (d i : Nat),i + d = v.length → ∀ (p1 : List S69) (p2 : List S80) (p3 : Int),EvX (fun k=>spec_l12Swept.c4 k (i : Int) p1 p2 p3 (sweepB a (rootsB v)).2 (zipN v (sweepB a (rootsB v)).2 i) (sweepB a (rootsB v)).1 n) (fun r=>r = (sweptV v a,sweptA v a,n)):=by
  intro d
  induction d with
  | zero =>
   intro i hi p1 p2 p3;obtain rfl : i = v.length:=by omega
   refine evx_step (fun k=>by rw [spec_l12Swept.c4]) (evx_neg (by rw [zipN_len];omega) (evx_some ?_));rw [zipN_all];rfl
  | succ d ih =>
   intro i hi p1 p2 p3;have hil : i < v.length:=by omega
   refine evx_step (fun k=>by rw [spec_l12Swept.c4]) (evx_pos (by rw [zipN_len];omega) (evx_pos (by omega) (evx_pos (by omega) (evx_pos (by omega) (evx_pos (by rw [zipN_len];omega) ?_)))))
   have e : rd_T69 (zipN v (sweepB a (rootsB v)).2 i) (i : Int) = v.getD i z69:=by
    show (zipN v (sweepB a (rootsB v)).2 i).getD i z69 = _;rw [List.getD_eq_getElem?_getD,zipN_get hil,if_neg (by omega)];rfl
   rw [e,Int.toNat_natCast,m64 (n:=v.length) hil (by omega)];have h:=ih (i + 1) (by omega) p1 p2 p3;rw [← zipN_next hil] at h;exact h
 have h:=main v.length 0 (by omega) [] [] 0;rw [zipN_zero] at h;exact h
def entR (v : List S69) (a : List S80) (n t w s c : Int) : List S69 × List S80 × Int × Bool × List S69 × List S80 :=
 match enterB v a n t w s c with
 | some (v',a',n')=>(v',a',n',true,v,a)
 | none=>(v,a,n,false,v,a)
theorem sweep_roots {v : List S69} {a : List S80} {n : Int} (h : Half v a n) : (sweepB a (rootsB v)).2.length = v.length:=by
 have:=(swept h.2.1 (rootsOk fun x hx=>(h.2.2.2.2 x hx).2.1)).2.1;rw [rootsB_len] at this;exact this
theorem enterX (v : List S69) (a : List S80) (n t w s c : Int) (hv : v.length ≤ 1048576) (hn : a.length ≤ 1000000) (hx : Sz a) : EvX (fun k=>spec_Enter.f k n t w s c v a) (fun r=>r = entR v a n t w s c):=by
 simp only [spec_Enter.f]
 have copy : ∀ (P : Prop),enterB v a n t w s c = none → EvX (fun k=>(spec_l12Copy.f k v a n).bind fun t2=>some (t2.1,t2.2.1,t2.2.2,false,v,a)) (fun r=>r = entR v a n t w s c):=fun _ h=>by
  refine evx_bind (sCopyX v a n hv (by omega) hx) fun t e=>evx_some ?_;subst e;unfold entR;rw [h]
 refine evx_bind (sStoreOkX v a n hv (by omega) hx) fun t1 e1=>?_;subst e1;refine evx_ite (fun h1=>?_) (fun h1=>copy True ?_);rotate_left
 ·unfold enterB;rw [if_neg fun g=>h1 g.1]
 refine evx_bind (sRecOkX t w s c) fun t3 e3=>?_;subst e3;refine evx_ite (fun h2=>?_) (fun h2=>copy True ?_);rotate_left
 ·unfold enterB;rw [if_neg fun g=>h2 g.2]
 have h1 : storeB v a n = true:=h1;obtain ⟨hh,hf⟩:=right_iff.1 h1;have hro:=h2;unfold recOk at hro;rw [decide_eq_true_eq] at hro;refine evx_ite (fun k1=>?_) (fun k1=>?_)
 ·have e : enterB v a n t w s c = some ([],[],if s = 0 then 1 else s):=by unfold enterB;rw [if_pos ⟨h1,h2⟩,if_pos k1]
  unfold entR;rw [e];refine evx_ite (fun k0=>evx_some ?_) (fun k0=>evx_some ?_)
  ·rw [if_pos k0]
  rw [if_neg k0]
 refine evx_ite (fun k2=>?_) (fun k2=>?_)
 ·refine evx_bind (sVolX v a n t w s c hv (by omega) hx) fun t5 e5=>evx_some ?_;subst e5;have hE2 : enterB v a n t w s c = if (s > 0 ∧ volB v s = -1) ∨ ¬ volB v w = -1 ∨ v.length = 3 then none else some (insV v ⟨w,rootOf v s⟩,a,n):=by unfold enterB;rw [if_pos ⟨h1,h2⟩,if_neg k1,if_pos k2]
  unfold entR;rw [hE2]
  by_cases g : (s > 0 ∧ volB v s = -1) ∨ ¬ volB v w = -1 ∨ v.length = 3
  ·rw [if_pos g,if_pos g]
  rw [if_neg g,if_neg g]
 refine evx_bind (sVolAtX v a n w hv) fun t6 e6=>?_;subst e6
 have hE : enterB v a n t w s c = if volB v w = -1 ∨ c = 1000000000 then none
  else if t = 3 then some (sweptV (v.take (volB v w).toNat ++ v.drop ((volB v w).toNat + 1)) a,sweptA (v.take (volB v w).toNat ++ v.drop ((volB v w).toNat + 1)) a,n)
  else some (sweptV (v.set (volB v w).toNat ⟨(v.getD (volB v w).toNat z69).f0,(putB a (v.getD (volB v w).toNat z69).f1 s c).2⟩) (putB a (v.getD (volB v w).toNat z69).f1 s c).1,
   sweptA (v.set (volB v w).toNat ⟨(v.getD (volB v w).toNat z69).f0,(putB a (v.getD (volB v w).toNat z69).f1 s c).2⟩) (putB a (v.getD (volB v w).toNat z69).f1 s c).1,if c ≥ n then c + 1 else n):=by
  unfold enterB;rw [if_pos ⟨h1,h2⟩,if_neg k1,if_neg k2]
 refine evx_ite (fun h3=>copy True ?_) (fun h3=>?_)
 ·have e : volB v w = -1:=by rcases volB_cases v w with h4 | ⟨j,_,h4⟩ <;> omega
  rw [hE,if_pos (.inl e)]
 refine evx_ite (fun h4=>copy True ?_) (fun h4=>?_)
 ·rw [hE,if_pos (.inr h4)]
 have hne : ¬ volB v w = -1:=by omega
 obtain ⟨j,j1,j2,j3⟩:=volB_some hne;rw [if_neg (fun g=>g.elim hne h4)] at hE;refine evx_bind (sCopyX v a n hv (by omega) hx) fun t9 e9=>?_;subst e9;rw [j2] at hE ⊢;simp only [Int.toNat_natCast] at hE ⊢;refine evx_ite (fun h5=>?_) (fun h5=>?_)
 ·rw [if_pos h5] at hE;rw [m64 (i:=j) (n:=v.length) j1 (by omega)];simp only [Int.toNat_natCast,List.drop_zero,Nat.sub_zero,List.nil_append];have tk : (v.drop (j + 1)).take (v.length - (j + 1)) = v.drop (j + 1):=List.take_of_length_le (by rw [List.length_drop];omega);rw [tk];have hd:=half_drop hh j;have l1:=hd.1;refine evx_pos (by omega) (evx_pos (by omega) (evx_pos (by rw [List.length_take];show 0 + _ ≤ _;omega) (evx_pos (by omega) (evx_pos (by omega) (evx_pos (by rw [List.length_take,List.length_drop];omega) ?_)))));refine evx_bind (sSweptX _ a n (by omega) (by omega) hx (sweep_roots hd)) fun t10 e10=>evx_some ?_;subst e10;unfold entR;rw [hE]
 rw [if_neg h5] at hE;obtain ⟨hcan,hp⟩:=half_put (s:=s) (c:=c) hh j1 (by omega) (by omega) (by omega);refine evx_pos (by omega) (evx_pos (by omega) ?_);rw [show rd_T69 v (j : Int) = v.getD j z69 from rfl];refine evx_bind (sPutX a _ s c (by omega) hx) fun t11 e11=>?_;subst e11;refine evx_pos (by omega) (evx_pos (by omega) ?_);have pl:=put_len hcan;have px : Sz (putB a (v.getD j z69).f1 s c).1:=woods_le (put_arena hcan);refine evx_ite (fun h6=>?_) (fun h6=>?_)
 ·rw [if_pos h6] at hE hp;rw [m64i (x:=c + 1) (by omega) (by omega)];refine evx_bind (sSweptX _ _ (c + 1) (by rw [List.length_set];exact hv) (by omega) px (sweep_roots hp)) fun t12 e12=>evx_some ?_;subst e12;unfold entR;rw [hE]
 rw [if_neg h6] at hE hp;refine evx_bind (sSweptX _ _ n (by rw [List.length_set];exact hv) (by omega) px (sweep_roots hp)) fun t12 e12=>evx_some ?_;subst e12;unfold entR;rw [hE]
end Go.Proofs.YteideicglgpfiaaGreat.M2.Mp

namespace Go.Proofs.YteideicglgpfiaaGreat.Pu
set_option linter.unusedVariables false
set_option linter.unusedSimpArgs false
open Go.RowKit Go.Proofs.YteideicglgpfiaaGreat.PK Go.Proofs.YteideicglgpfiaaGreatW.PrintWords
theorem sweep_all {b : List S80} {now : List Int} (hb : arenaB b = true) (hr : ∀ x ∈ now,x = -1 ∨ rootB b x = true) (hk : ∀ m,m < b.length → keepB b now m = true) : sweepB b now = (b,now):=by
 obtain ⟨e1,e2⟩:=swept_again hb hr hk;have hok:=sweepOk_of hb hr;have hs:=sw_spec b (keepB b now) (keep_kids hb) b.length 0 (List.replicate b.length 0) [] (by omega) (by simp) rfl (fun j hj=>absurd hj (Nat.not_lt_zero _)) (fun j hj=>absurd hj (Nat.not_lt_zero _));have same : ∀ j,j ≤ b.length → kcnt (keepB b now) j = j:=fun j hj=>kcnt_all j fun m hm=>hk m (by omega)
 have eA : (sweepB b now).1 = b:=by
  have e : (sweepB b now).1 = (swAll b (keepB b now) b.length 0 (List.replicate b.length 0) []).2:=by unfold sweepB;rw [if_pos hok]
  rw [e] at e1 ⊢;apply List.ext_getElem e1;intro j h1 h2;have h3:=hs.2.2.2 j h2 (hk j h2);rw [same j (by omega),gdE _ h1,gdE _ h2] at h3;rw [h3];unfold goK
  have hid : ∀ kids : List Int,(∀ n ∈ kids,n = -1 ∨ (0 ≤ n ∧ n.toNat < j)) → kids.map (goB (keepB b now)) = kids:=by
   intro kids hkk
   conv=>rhs;rw [← List.map_id kids]
   refine List.map_congr_left fun n hn=>?_;unfold goB;rcases hkk n hn with h | ⟨h4,h5⟩
   ·rw [if_neg (by omega)];rfl
   rw [if_pos h4,same _ (by omega)];show ((n.toNat : Nat) : Int) = n;omega
  by_cases hf : b[j].f0 = true
  ·rw [if_pos hf]
  rw [if_neg hf];have hf2 : (b.getD j z80).f0 = false:=by rw [gdE _ h2];exact Bool.eq_false_iff.2 hf
  have:=hid b[j].f1 fun n hn=>by
   rcases kid_mem hb h2 hf2 (n:=n) (by rw [gdE _ h2];exact hn) with h | h
   ·exact .inl h
   exact .inr ⟨h.1.1,h.1.2⟩
  rw [this]
 exact Prod.ext eA e2
theorem swept_full {v : List S69} {a : List S80} {n : Int} (h : Half v a n) (hf : Full v a) : sweptV v a = v ∧ sweptA v a = a:=by
 have e:=sweep_all h.2.1 (rootsOk fun x hx=>(h.2.2.2.2 x hx).2.1) hf;unfold sweptV sweptA;rw [e];refine ⟨?_,rfl⟩;apply List.ext_getElem (zipR_len _ _);intro j h1 h2;have:=zipR_get (rs:=rootsB v) h2;rw [gdE _ h1,gdE _ h2,rootsB_get v h2,gdE _ h2] at this;exact this
end Go.Proofs.YteideicglgpfiaaGreat.Pu

namespace Go.Proofs.YteideicglgpfiaaGreat.Pu
set_option linter.unusedVariables false
set_option linter.unusedSimpArgs false
open Go.RowKit Go.Proofs.YteideicglgpfiaaGreat.PK Go.Proofs.YteideicglgpfiaaGreatW.PrintWords
theorem iSweep3 (roots pos : List Int) (out : List S80) (hr : roots.length ≤ 1048576) (hok : ∀ m,m < roots.length → roots.getD m 0 ≥ 0 → roots.getD m 0 < (pos.length : Int)) :
  ∀ (d m : Nat),m + d = roots.length → Ev (fun k=>impl_SweepArena.l3 k (upd (movB pos) roots m) pos roots (roots.length : Int) (m : Int) out) (out,roots.map (movB pos)):=by
 intro d
 induction d with
 | zero =>
  intro m hm;obtain rfl : m = roots.length:=by omega
  refine ev_some fun k=>?_;simp only [impl_SweepArena.l3];rw [if_neg (by omega),upd_full]
 | succ d ih =>
  intro m hm;have hml : m < roots.length:=by omega
  refine Ev.step (fun k=>?_) (ih (m + 1) (by omega));simp only [impl_SweepArena.l3];rw [if_pos (by omega),if_pos (by omega),if_pos (by omega),rd_nat,upd_len,Int.toNat_natCast,wsucc (n:=roots.length) hml (by omega)]
  by_cases h : roots.getD m 0 ≥ 0
  ·have e : rd pos (roots.getD m 0) = movB pos (roots.getD m 0):=by unfold movB;rw [if_pos h];rfl
   have h2:=hok m hml h;rw [if_pos h,if_pos (by omega),if_pos (by omega),if_pos (by omega),e,upd_set _ _ _ hml]
  rw [if_neg h,upd_id _ _ _ (by unfold movB;rw [if_neg h])]
theorem iSweep1 (a : List S80) (roots acc : List Int) (K : Nat → Bool) (hn : a.length ≤ 1048576) (hr : roots.length ≤ 1048576) (ha : arenaB a = true) (hok : ∀ m,m < roots.length → roots.getD m 0 ≥ 0 → roots.getD m 0 < (a.length : Int))
  (hacc : acc.length ≤ 9223372036854775807) (hK : ∀ j : Nat,j < a.length → ((j : Int) ∈ acc ↔ K j = true)) :
  ∀ (d i : Nat) (pos : List Int) (out : List S80),i + d = a.length → pos.length = a.length → out.length ≤ i → Ev (fun k=>impl_SweepArena.l1 k roots roots acc pos a (a.length : Int) (i : Int) out) (swRes roots (swAll a K d i pos out)):=by
 intro d
 induction d with
 | zero =>
  intro i pos out hi hp ho;have h:=iSweep3 roots pos out hr (by rw [hp];exact hok) roots.length 0 (by omega);rw [upd_zero] at h;refine Ev.step (fun k=>?_) h;simp only [impl_SweepArena.l1];rw [if_neg (by omega)];rfl
 | succ d ih =>
  intro i pos out hi hp ho;have hil : i < a.length:=by omega
  obtain ⟨h4,_⟩:=knot_of ha hil;unfold swAll;refine Ev.step (f:=fun k=>(impl_hasInt.f k acc (i : Int)).bind fun t=>if t = true then impl_SweepArena.l2 k roots roots acc (pos.set i (out.length : Int)) a (a.length : Int) (i : Int) (a.getD i z80).f1 ((a.getD i z80).f1.length : Int) 0 out (a.getD i z80).f0 (a.getD i z80).f1 (a.getD i z80).f0 (a.getD i z80).f1 else impl_SweepArena.l1 k roots roots acc pos a (a.length : Int) ((i + 1 : Nat) : Int) out) (fun k=>?_) (ev_bind (iHasInt_ev acc _ hacc) ?_)
  ·simp only [impl_SweepArena.l1];rw [if_pos (by omega),if_pos (by omega),if_pos (by omega),rdIK_nat,iCopyInts_eq (by omega),Int.toNat_natCast,wsucc (n:=a.length) hil (by omega)];simp only [if_pos (show (i : Int) < (pos.length : Int) by omega),Option.bind_some]
  by_cases h : K i = true
  ·rw [if_pos h,decide_eq_true ((hK i hil).2 h)];simp only [if_true];have he:=ih (i + 1) (pos.set i (out.length : Int)) (out ++ [⟨(a.getD i z80).f0,swKids (a.getD i z80).f0 pos (a.getD i z80).f1⟩]) (by omega) (by rw [List.length_set];exact hp) (by simp;omega);have kid:=fun (hf : (a.getD i z80).f0 = false) {j : Nat} (hj : j < 4)=>kid_of ha hil hf hj;generalize (a.getD i z80).f1 = kids at he h4 kid ⊢;generalize (a.getD i z80).f0 = leaf at he kid ⊢;have hpl : (pos.set i (out.length : Int)).length = a.length:=by rw [List.length_set];exact hp
   have main : ∀ (e j : Nat),j + e = 4 → Ev (fun k=>impl_SweepArena.l2 k roots roots acc (pos.set i (out.length : Int)) a (a.length : Int) (i : Int) kids (kids.length : Int) (j : Int) out leaf kids leaf (if leaf = true then kids else upd (movB pos) kids j)) (swRes roots (swAll a K d (i + 1) (pos.set i (out.length : Int)) (out ++ [⟨leaf,swKids leaf pos kids⟩]))):=by
    intro e
    induction e with
    | zero =>
     intro j hj;obtain rfl : j = 4:=by omega
     refine Ev.step (fun k=>?_) he;simp only [impl_SweepArena.l2];rw [if_neg (by omega),if_pos (by omega),wsucc (n:=a.length) hil (by omega)]
     have e2 : (if leaf = true then kids else upd (movB pos) kids 4) = swKids leaf pos kids:=by
      unfold swKids;rw [show upd (movB pos) kids 4 = kids.map (movB pos) by rw [← h4,upd_full]]
     rw [e2]
    | succ e ihe =>
     intro j hj;have hjl : j < kids.length:=by omega
     refine Ev.step (fun k=>?_) (ihe (j + 1) (by omega));simp only [impl_SweepArena.l2];rw [if_pos (by omega),if_pos (by omega),if_pos (by omega),rd_nat,wsucc (i:=j) (n:=4) (by omega) (by omega),Int.toNat_natCast];cases leaf with
     | true=>rw [if_pos rfl,if_pos rfl,if_pos rfl]
     | false =>
      rw [if_neg (show ¬ false = true by decide),if_neg (show ¬ false = true by decide),if_neg (show ¬ false = true by decide),upd_len];have hk:=kid rfl (j:=j) (by omega)
      by_cases h : kids.getD j 0 ≥ 0
      ·have e : rd (pos.set i (out.length : Int)) (kids.getD j 0) = movB pos (kids.getD j 0):=by
        unfold movB;rw [if_pos h];show (pos.set i (out.length : Int)).getD (kids.getD j 0).toNat 0 = _;rw [getD_set _ _ _ (by omega),if_neg (by omega)]
       rw [if_pos h,if_pos (by omega),if_pos (by omega),if_pos (by omega),e,upd_set _ _ _ hjl]
      rw [if_neg h,upd_id _ _ _ (by unfold movB;rw [if_neg h])]
   have h5:=main 4 0 rfl;rw [upd_zero,ite_self] at h5;exact h5
  rw [if_neg h,decide_eq_false (fun e=>h ((hK i hil).1 e))];exact ih (i + 1) pos out (by omega) hp (by omega)
theorem iSweep_ev (a : List S80) (roots : List Int) (hn : a.length ≤ 1048576) (hx : ∀ x ∈ a,x.f1.length ≤ 1048576) (hr : roots.length ≤ 1048576) : Ev (fun k=>impl_SweepArena.f k a roots) (sweepB a roots):=by
 have cp : Ev (fun k=>(impl_copyArena.f k a).bind fun t=>some (t,roots)) (a,roots):=ev_bind (iCopyArena_ev a hn hx) (Ev.now _)
 have l0 : ∀ (d m : Nat) (acc : List Int),m + d = roots.length → acc.length ≤ 1048577 * m → (∀ j : Nat,j < a.length → (((j : Int) ∈ acc ∨ (roots.drop m).any (fun r=>keptB a r j) = true) ↔ keepB a roots j = true)) → (∀ r ∈ roots.take m,(decide (r = -1) || rootB a r) = true) →
   Ev (fun k=>impl_SweepArena.l0 k roots roots acc roots (roots.length : Int) (m : Int) a) (if (arenaB a && (roots.drop m).all fun r=>decide (r = -1) || rootB a r) = true then swRes roots (swAll a (keepB a roots) a.length 0 (List.replicate a.length 0) []) else (a,roots)):=by
  intro d
  induction d with
  | zero =>
   intro m acc hm hl hK hq;rw [List.drop_eq_nil_of_le (by omega),List.all_nil,Bool.and_true];refine Ev.step (f:=fun k=>(impl_ArenaOk.f k a).bind fun t=>if t = true then impl_SweepArena.l1 k roots roots acc (List.replicate a.length 0) a (a.length : Int) 0 [] else (impl_copyArena.f k a).bind fun t=>some (t,roots)) (fun k=>?_) (ev_bind (iArena_ev a (by omega)) ?_)
   ·simp only [impl_SweepArena.l0];rw [if_neg (by omega),Int.toNat_natCast];simp only [if_pos (show (0 : Int) ≤ (a.length : Int) by omega),if_pos (show a.length ≤ 35184372088832 by omega)]
   by_cases h : arenaB a = true
   ·simp only [if_pos h];refine iSweep1 a roots acc (keepB a roots) hn hr h (okRoots_lt ?_) (by omega) (fun j hj=>?_) a.length 0 (List.replicate a.length 0) [] (by omega) (by simp) (by simp)
    ·rw [List.take_of_length_le (by omega)] at hq;rw [List.all_eq_true];exact hq
    have h2:=hK j hj;rw [List.drop_eq_nil_of_le (by omega)] at h2
    simpa using h2
   simp only [if_neg h];exact cp
  | succ d ih =>
   intro m acc hm hl hK hq;have hml : m < roots.length:=by omega
   have st : ∀ k,impl_SweepArena.l0 (k + 1) roots roots acc roots (roots.length : Int) (m : Int) a = impl_SweepArena.j1 k roots roots acc (roots.getD m 0) roots (roots.length : Int) (m : Int) (!(decide (roots.getD m 0 = -1) || rootB a (roots.getD m 0))) a:=fun k=>by
    simp only [impl_SweepArena.l0];rw [if_pos (by omega),if_pos (by omega),if_pos (by omega),rd_nat,iRoot_eq a _ (by omega),Option.bind_some]
    by_cases h : roots.getD m 0 = -1
    ·rw [if_pos h,decide_eq_true h];rfl
    rw [if_neg h,decide_eq_false h,Bool.false_or]
   rw [drop_cons 0 hml,List.all_cons]
   by_cases h : (decide (roots.getD m 0 = -1) || rootB a (roots.getD m 0)) = true
   ·rw [h,Bool.true_and];obtain ⟨L,h1,h2,h3⟩:=iKnots_ev a (roots.getD m 0) hn hx;refine Ev.step (f:=fun k=>impl_SweepArena.j1 k roots roots acc (roots.getD m 0) roots (roots.length : Int) (m : Int) false a) (fun k=>by rw [st k,h];rfl) (Ev.step (f:=fun k=>(impl_knotsOf.f k a (roots.getD m 0)).bind fun t=>if acc.length + t.length < 17592186044416 then impl_SweepArena.l0 k roots roots (acc ++ t) roots (roots.length : Int) ((m + 1 : Nat) : Int) a else none) (fun k=>?_) (ev_bind h1 ?_))
    ·simp only [impl_SweepArena.j1];rw [if_neg (by decide),wsucc (n:=roots.length) hml (by omega)]
    simp only [if_pos (show acc.length + L.length < 17592186044416 by omega)];refine ih (m + 1) (acc ++ L) (by omega) (by rw [List.length_append];omega) (fun j hj=>?_) (fun r hr2=>?_)
    ·rw [← hK j hj,drop_cons (l:=roots) (i:=m) 0 hml,List.any_cons,List.mem_append,h3 j hj,Bool.or_eq_true,or_assoc]
    rw [List.take_succ_eq_append_getElem hml,List.mem_append,List.mem_singleton] at hr2;rcases hr2 with h5 | h5
    ·exact hq r h5
    rw [h5];rw [List.getD_eq_getElem?_getD,List.getElem?_eq_getElem hml] at h;exact h
   rw [Bool.eq_false_iff.mpr h,Bool.false_and,Bool.and_false,if_neg (by decide)];refine Ev.step (f:=fun k=>impl_SweepArena.j1 k roots roots acc (roots.getD m 0) roots (roots.length : Int) (m : Int) true a) (fun k=>by rw [st k,Bool.eq_false_iff.mpr h];rfl) (Ev.step (fun k=>?_) cp);simp only [impl_SweepArena.j1];rw [if_pos trivial]
 unfold impl_SweepArena.f sweepB sweepOk;simp only [iCopyInts_eq hr,Option.bind_some];have h:=l0 roots.length 0 [] (by omega) (by simp) (fun j hj=>by rw [List.drop_zero];simp [keepB]) (by simp);rw [List.drop_zero] at h;exact h
end Go.Proofs.YteideicglgpfiaaGreat.Pu

namespace Go.Proofs.YteideicglgpfiaaGreat.M2.Mp
set_option linter.unusedVariables false
set_option linter.unusedSimpArgs false
open Go.RowKit Go.Proofs.YteideicglgpfiaaGreat.PK Go.Proofs.YteideicglgpfiaaGreatW.PrintWords Go.Proofs.YteideicglgpfiaaGreat.Pu
theorem lsort_perm (l : List S69) : (lsort69 l).Perm l:=by
 have h:=(Go.Sort.insertionSort_holds (lt:=ltK69) swoK l.toArray 0 l.length (Nat.zero_le _) (by simp)).1;obtain ⟨h1,_,h3⟩:=h;have ex : ∀ (A : Array S69) (m : Nat),A.size = m → A.extract 0 m = A:=fun A m h=>by subst h;simp
 have e1:=ex (Go.Sort.insertionSort ltK69 l.toArray 0 l.length) l.length (by rw [h1];simp);have e2:=ex l.toArray l.length (by simp);rw [e1,e2] at h3;exact h3
theorem lsort_sorted (l : List S69) : (lsort69 l).Pairwise fun x y=>x.f0 ≤ y.f0:=by
 have h:=(Go.Sort.insertionSort_holds (lt:=ltK69) swoK l.toArray 0 l.length (Nat.zero_le _) (by simp)).2;have hl:=lsort_len l;rw [List.pairwise_iff_getElem];intro i j hi hj hij;have h2:=h i j (Nat.zero_le _) hij (by omega);unfold lsort69 at hi hj ⊢;rw [Array.length_toList] at hi hj;have gA : ∀ (A : Array S69) (i : Nat) (h : i < A.size),A[i]! = A[i]:=fun A i h=>getElem!_pos A i h;rw [gA _ j hj,gA _ i hi] at h2;have h3 : ¬ ((Go.Sort.insertionSort ltK69 l.toArray 0 l.length)[j]).f0 < ((Go.Sort.insertionSort ltK69 l.toArray 0 l.length)[i]).f0:=of_decide_eq_false h2;simp only [Array.getElem_toList];omega
theorem lsort_ins {v : List S69} {x : S69} (ha : v.Pairwise fun x y=>x.f0 < y.f0) (hn : ∀ y ∈ v,¬ y.f0 = x.f0) : lsort69 (v ++ [x]) = insV v x:=by
 have hI : (insV v x).Pairwise fun a b=>a.f0 < b.f0:=by
  unfold insV;rw [List.pairwise_append,List.pairwise_append];refine ⟨⟨ha.filter _,List.pairwise_singleton _ _,fun y hy z hz=>?_⟩,ha.filter _,fun y hy z hz=>?_⟩
  ·rw [List.mem_singleton.1 hz];exact of_decide_eq_true (List.mem_filter.1 hy).2
  have hz2:=of_decide_eq_true (List.mem_filter.1 hz).2;rcases List.mem_append.1 hy with hy | hy
  ·have:=of_decide_eq_true (List.mem_filter.1 hy).2;omega
  rw [List.mem_singleton.1 hy];omega
 have hp : (insV v x).Perm (v ++ [x]):=by
  have e : (v.filter fun y=>decide (y.f0 > x.f0)) = v.filter fun y=>!decide (y.f0 < x.f0):=List.filter_congr fun y hy=>by
   have:=hn y hy
   by_cases h : y.f0 < x.f0
   ·rw [decide_eq_true h,decide_eq_false (by omega)];rfl
   rw [decide_eq_false h,decide_eq_true (by omega)];rfl
  unfold insV;rw [e,List.append_assoc];refine List.Perm.trans (List.perm_append_comm_assoc _ _ _) ?_;refine List.Perm.trans (List.perm_append_comm) ?_;exact List.Perm.append_right _ (List.filter_append_perm _ _)
 have hq : (lsort69 (v ++ [x])).Perm (insV v x):=(lsort_perm _).trans hp.symm;refine hq.eq_of_pairwise (le:=fun a b=>a.f0 ≤ b.f0) (fun a b h1 h2 h3 h4=>?_) (lsort_sorted _) (hI.imp fun h=>by omega);have h1:=hq.mem_iff.1 h1;obtain ⟨i,hi,rfl⟩:=List.getElem_of_mem h1;obtain ⟨j,hj,rfl⟩:=List.getElem_of_mem h2;rw [List.pairwise_iff_getElem] at hI;rcases Nat.lt_trichotomy i j with h | h | h
 ·have:=hI i j hi hj h;omega
 ·subst h;rfl
 have:=hI j i hj hi h;omega
theorem iCopyAX (a : List S80) (hn : a.length ≤ 1048576) (hx : Sz a) : EvX (fun k=>impl_copyArena.f k a) (fun t=>t = a) :=
 ⟨_,ev_rel (c:=id) (iCopyArena_ev a hn hx) (fun k r hh m hm=>impl_copyArena.rel k a r hh m hm),rfl⟩
theorem iCopyX (v : List S69) (a : List S80) (n : Int) (hv : v.length ≤ 1048576) (hn : a.length ≤ 1048576) (hx : Sz a) : EvX (fun k=>impl_copyStore.f k v a n) (fun r=>r = (v,a,n)):=by
 simp only [impl_copyStore.f];refine evx_pos (by show 0 + v.length ≤ _;omega) ?_;refine evx_bind (iCopyAX a hn hx) fun t ht=>?_;subst ht;exact evx_some (by rw [List.nil_append])
theorem iSweepX (a : List S80) (rs : List Int) (hn : a.length ≤ 1048576) (hx : Sz a) (hr : rs.length ≤ 1048576) : EvX (fun k=>impl_SweepArena.f k a rs) (fun r=>r = sweepB a rs) :=
 ⟨_,ev_rel (iSweep_ev a rs hn hx hr) (fun k r hh m hm=>impl_SweepArena.rel k a rs r hh m hm),rfl⟩
theorem iVolAtX (v : List S69) (a : List S80) (n id : Int) (hv : v.length ≤ 1048576) : EvX (fun k=>impl_volAt.f k v a n id) (fun r=>r = volB v id) :=
 ⟨_,ev_rel (iVolAt_ev v a n id hv) (fun k r hh m hm=>impl_volAt.rel k v a n id r hh m hm),rfl⟩
theorem iArenaX (a : List S80) (hn : a.length ≤ 1048576) : EvX (fun k=>impl_ArenaOk.f k a) (fun t=>t = arenaB a) :=
 ⟨_,ev_rel (iArena_ev a (by omega)) (fun k r hh m hm=>impl_ArenaOk.rel k a r hh m hm),rfl⟩
theorem iRootX (a : List S80) (r : Int) (hn : a.length ≤ 1048576) : EvX (fun k=>impl_isRoot.f k a r) (fun t=>t = rootB a r) :=
 ⟨_,ev_all_k (fun m=>impl_isRoot.rel 0 a r _ (iRoot_eq a r (by omega)) m (Nat.zero_le _)),rfl⟩
theorem iRecOkX (t w s c : Int) : EvX (fun k=>impl_RecOk.f k t w s c) (fun r=>r = recOk t w s c) :=
 ⟨_,ev_rel (iRecOk_ev t w s c) (fun k r hh m hm=>impl_RecOk.rel k t w s c r hh m hm),rfl⟩
theorem iStoreOkX (v : List S69) (a : List S80) (n : Int) (hv : v.length ≤ 1048576) (hn : a.length ≤ 1048576) (hx : Sz a) : EvX (fun k=>impl_StoreOk.f k v a n) (fun r=>r = storeB v a n) :=
 ⟨_,ev_rel (iStoreOk_ev v a n hv hn hx) (fun k r hh m hm=>impl_StoreOk.rel k v a n r hh m hm),rfl⟩
theorem copyIntsX (l : List Int) (hl : l.length ≤ 1048576) : EvX (fun k=>impl_copyInts.f k l) (fun r=>r = l):=by
 simp only [impl_copyInts.f];exact evx_pos (by show 0 + l.length ≤ _;omega) (evx_some (List.nil_append _))
theorem iPutX (t : List S80) (r s n : Int) (hn : t.length ≤ 1048576) (hx : Sz t) (hc : canPut t r s n) : EvX (fun k=>impl_PutAt.f k t r s n) (fun q=>q = putB t r s n):=by
 obtain ⟨h3,hr,h1,h2⟩:=hc;have hc : canPut t r s n:=⟨h3,hr,h1,h2⟩;obtain ⟨d1,d2,d3,d4,d5,d6⟩:=div4 h1.1 h1.2;simp only [impl_PutAt.f,w64_eq,d1,d2];refine evx_bind (iCopyAX t hn hx) fun t1 e1=>?_;subst e1;have fin : wrap64 ((t1.length : Int) + 1) = (t1.length : Int) + 1:=Pu.w64 (by omega) (by omega);rw [fin]
 by_cases h0 : r = -1
 ·have ht:=top_none (a:=t1) h0;have hq : ¬ 0 ≤ ([-1,-1,-1,-1] : List Int).getD (s / 4).toNat 0:=by rw [none4 _ (by omega)];decide
  have hq2 : ¬ rd_T3 ([(-1),(-1),(-1),(-1)] : List Int) (s / 4) ≥ 0:=hq;refine evx_pos h0 ?_;refine evx_bind (inX s 0 15) fun t4 e4=>evx_pos (by rw [e4];exact decide_eq_true h1) ?_;refine evx_neg (by omega) ?_;refine evx_bind (iArenaX t1 hn) fun t5 e5=>evx_pos (by rw [e5];exact h3) ?_;refine evx_neg (by omega) ?_
  repeat first | refine evx_pos (by omega) ?_ | refine evx_neg (by omega) ?_ | refine evx_pos (by simp;omega) ?_ | refine evx_pos (by simp) ?_
  refine evx_some ?_;rw [putB_yes hc ht (leaf_new ht hq)] <;> rfl
 have ht:=top_some (a:=t1) h0;have hb:=hr.resolve_left h0;obtain ⟨r0,rl,rf⟩:=root_lt hb;have h4 : (rd_T80 t1 r).f1.length = 4:=(knot_of h3 rl).1;have hk:=kid_of h3 rl rf (j:=(s / 4).toNat) (by omega);refine evx_neg h0 ?_;refine evx_bind (iRootX t1 r hn) fun t3 e3=>evx_pos (by rw [e3];exact hb) ?_;refine evx_bind (inX s 0 15) fun t4 e4=>evx_pos (by rw [e4];exact decide_eq_true h1) ?_;refine evx_neg (by omega) ?_;refine evx_bind (iArenaX t1 hn) fun t5 e5=>evx_pos (by rw [e5];exact h3) ?_;refine evx_pos (by omega) (evx_pos (by omega) (evx_pos (by omega) ?_));refine evx_bind (copyIntsX _ (by omega)) fun t6 e6=>?_;subst e6;rcases hk with hk | ⟨k0,k1,_⟩
 ·have hq : ¬ 0 ≤ (t1.getD r.toNat z80).f1.getD (s / 4).toNat 0:=by omega
  have hq2 : ¬ rd_T3 (rd_T80 t1 r).f1 (s / 4) ≥ 0:=hq
  repeat first | refine evx_pos (by omega) ?_ | refine evx_neg (by omega) ?_ | refine evx_pos (by simp;omega) ?_ | refine evx_pos (by simp) ?_
  refine evx_some ?_;rw [putB_yes hc ht (leaf_new ht hq)] <;> rfl
 have k0' : 0 ≤ rd_T3 (rd_T80 t1 r).f1 (s / 4):=k0
 have k1' : rd_T3 (rd_T80 t1 r).f1 (s / 4) < (t1.length : Int):=by
  have k1 : (t1.getD r.toNat z80).f1.getD (s / 4).toNat 0 < _:=k1;show (t1.getD r.toNat z80).f1.getD (s / 4).toNat 0 < _;omega
 have h5 : (rd_T80 t1 (rd_T3 (rd_T80 t1 r).f1 (s / 4))).f1.length = 4:=(knot_of h3 (i:=((t1.getD r.toNat z80).f1.getD (s / 4).toNat 0).toNat) (by omega)).1
 repeat first | refine evx_pos (by omega) ?_ | refine evx_neg (by omega) ?_
 refine evx_bind (copyIntsX _ (by omega)) fun t7 e7=>?_;subst e7
 repeat first | refine evx_pos (by omega) ?_ | refine evx_neg (by omega) ?_ | refine evx_pos (by simp;omega) ?_ | refine evx_pos (by simp) ?_
 refine evx_some ?_;rw [putB_yes hc ht (leaf_old ht k0)] <;> rfl
theorem iSweptX (v : List S69) (a : List S80) (n : Int) (hv : v.length ≤ 1048576) (hn : a.length ≤ 1048576) (hx : Sz a) (hl : (sweepB a (rootsB v)).2.length = v.length) : EvX (fun k=>impl_Store_sweep.f k n v a) (fun r=>r = (sweptV v a,sweptA v a,n,a)):=by
 simp only [impl_Store_sweep.f]
 have two : ∀ (d i : Nat),i + d = v.length → EvX (fun k=>impl_Store_sweep.c9 k (v.length : Int) (i : Int) a (zipN v (sweepB a (rootsB v)).2 i) (sweepB a (rootsB v)).1 n (sweepB a (rootsB v)).2) (fun r=>r = (sweptV v a,sweptA v a,n,a)):=by
  intro d
  induction d with
  | zero =>
   intro i hi;obtain rfl : i = v.length:=by omega
   refine evx_step (fun k=>by rw [impl_Store_sweep.c9]) (evx_neg (by omega) (evx_some ?_));rw [zipN_all];rfl
  | succ d ih =>
   intro i hi;have hil : i < v.length:=by omega
   have zl:=zipN_len v (sweepB a (rootsB v)).2 i;refine evx_step (fun k=>by rw [impl_Store_sweep.c9]) (evx_pos (by omega) (evx_pos (by omega) (evx_pos (by omega) (evx_pos (by omega) (evx_pos (by omega) ?_)))))
   have e : rd_T69 (zipN v (sweepB a (rootsB v)).2 i) (i : Int) = v.getD i z69:=by
    show (zipN v (sweepB a (rootsB v)).2 i).getD i z69 = _;rw [List.getD_eq_getElem?_getD,zipN_get hil,if_neg (by omega)];rfl
   rw [e,Int.toNat_natCast,m64 (n:=v.length) hil (by omega)];have h:=ih (i + 1) (by omega);rw [← zipN_next hil] at h;exact h
 have one : ∀ (d i : Nat),i + d = v.length → EvX (fun k=>impl_Store_sweep.c2 k (v.length : Int) (i : Int) a v n (rootsB (v.take i))) (fun r=>r = (sweptV v a,sweptA v a,n,a)):=by
  intro d
  induction d with
  | zero =>
   intro i hi;refine evx_step (fun k=>by rw [impl_Store_sweep.c2]) (evx_neg (by omega) ?_);rw [List.take_of_length_le (by omega)];refine evx_bind (iSweepX a (rootsB v) hn hx (by rw [rootsB_len];exact hv)) fun t e=>?_;subst e;have h:=two v.length 0 (by omega);rw [zipN_zero] at h;exact h
  | succ d ih =>
   intro i hi;have hil : i < v.length:=by omega
   have hl2 : (rootsB (v.take i)).length = i:=by rw [rootsB_len,List.length_take];omega
   refine evx_step (fun k=>by rw [impl_Store_sweep.c2]) (evx_pos (by omega) (evx_pos (by omega) (evx_pos (by omega) (evx_pos (by rw [hl2];show i + 1 ≤ _;omega) ?_))));rw [m64 (n:=v.length) hil (by omega)];have h:=ih (i + 1) (by omega)
   have e : rootsB (v.take (i + 1)) = rootsB (v.take i) ++ [(rd_T69 v (i : Int)).f1]:=by
    rw [List.take_succ_eq_append_getElem hil];unfold rootsB;rw [List.map_append];show _ = _ ++ [(v.getD i z69).f1];rw [gdE _ hil];rfl
   rw [e] at h;exact h
 have h:=one v.length 0 (by omega);exact h
def EnR (v : List S69) (a : List S80) (n t w s c : Int) (ok : Bool) (v1 : List S69) (a1 : List S80) (n1 : Int) : Prop :=
 if ok = true then Half v1 a1 n1 ∧ a1.length ≤ a.length + 2 ∧ enterB v a n t w s c = some (sweptV v1 a1,sweptA v1 a1,n1) else enterB v a n t w s c = none
theorem iEnterX (v : List S69) (a : List S80) (n t w s c : Int) (hv : v.length ≤ 1048576) (hn : a.length ≤ 1000000) (hx : Sz a) : EvX (fun k=>impl_Enter.f k v a n t w s c) (fun r=>r = ((entR v a n t w s c).1,(entR v a n t w s c).2.1,(entR v a n t w s c).2.2.1,(entR v a n t w s c).2.2.2.1)):=by
 simp only [impl_Enter.f]
 have copy : enterB v a n t w s c = none → EvX (fun k=>(impl_copyStore.f k v a n).bind fun t2=>some (t2.1,t2.2.1,t2.2.2,false)) (fun r=>r = ((entR v a n t w s c).1,(entR v a n t w s c).2.1,(entR v a n t w s c).2.2.1,(entR v a n t w s c).2.2.2.1)):=fun h=>by
  refine evx_bind (iCopyX v a n hv (by omega) hx) fun t e=>evx_some ?_;subst e;unfold entR;rw [h]
 refine evx_bind (iCopyX v a n hv (by omega) hx) fun t1 e1=>?_;subst e1;refine evx_bind (iStoreOkX v a n hv (by omega) hx) fun t2 e2=>?_;subst e2;refine evx_ite (fun h1=>?_) (fun h1=>copy ?_);rotate_left
 ·unfold enterB;rw [if_neg fun g=>h1 g.1]
 refine evx_bind (iRecOkX t w s c) fun t3 e3=>?_;subst e3;refine evx_ite (fun h2=>?_) (fun h2=>copy ?_);rotate_left
 ·unfold enterB;rw [if_neg fun g=>h2 g.2]
 obtain ⟨hh,hf⟩:=right_iff.1 h1;have hro:=h2;unfold recOk at hro;rw [decide_eq_true_eq] at hro
 have leaf : ∀ (ok : Bool) (v1 : List S69) (a1 : List S80) (n1 : Int),EnR v a n t w s c ok v1 a1 n1 → EvX (fun k=>if ok = true then (impl_Store_sweep.f k n1 v1 a1).bind fun t9=>some (t9.1,t9.2.1,t9.2.2.1,true) else (impl_copyStore.f k v a n).bind fun t8=>some (t8.1,t8.2.1,t8.2.2,false))
   (fun r=>r = ((entR v a n t w s c).1,(entR v a n t w s c).2.1,(entR v a n t w s c).2.2.1,(entR v a n t w s c).2.2.2.1)):=by
  intro ok v1 a1 n1 h;unfold EnR at h;refine evx_ite (fun ho=>?_) (fun ho=>copy ?_)
  ·rw [if_pos ho] at h;obtain ⟨q1,q2,q3⟩:=h;have l1:=q1.1;refine evx_bind (iSweptX v1 a1 n1 (by omega) (by omega) (woods_le q1.2.1) (sweep_roots q1)) fun t9 e9=>evx_some ?_;subst e9;unfold entR;rw [q3]
  rw [if_neg ho] at h;exact h
 refine evx_bind (Q:=fun r=>match r with
  | .inl r=>EnR v a n t w s c r.1 r.2.1 r.2.2.1 r.2.2.2.1
  | .inr (.inl r)=>EnR v a n t w s c r.1 r.2.1 r.2.2.1 r.2.2.2
  | .inr (.inr (.inl r))=>EnR v a n t w s c r.1 r.2.1 r.2.2.1 r.2.2.2
  | .inr (.inr (.inr (.inl r)))=>EnR v a n t w s c r.1 r.2.1 r.2.2.1 r.2.2.2.1
  | .inr (.inr (.inr (.inr r)))=>EnR v a n t w s c r.1 r.2.1 r.2.2.1 r.2.2.2.1) ?_ fun r hr=>?_
 ·simp only [impl_Store_enter.f];refine evx_ite (fun k1=>evx_some ?_) (fun k1=>?_)
  ·show EnR v a n t w s c true [] [] (maxI s 1);unfold EnR;rw [if_pos rfl];have em : maxI s 1 = if s = 0 then 1 else s:=by unfold maxI;split <;> split <;> omega
   have h0 : Half ([] : List S69) [] (maxI s 1):=⟨Nat.zero_le _,rfl,by rw [em];split <;> omega,List.Pairwise.nil,fun x hx=>by cases hx⟩;obtain ⟨s1,s2⟩:=swept_full h0 (fun j hj=>absurd hj (Nat.not_lt_zero _));refine ⟨h0,Nat.zero_le _,?_⟩;rw [s1,s2,em];unfold enterB;rw [if_pos ⟨h1,h2⟩,if_pos k1]
  refine evx_ite (fun k2=>?_) (fun k2=>?_)
  ·have hE2 : enterB v a n t w s c = if (s > 0 ∧ volB v s = -1) ∨ ¬ volB v w = -1 ∨ v.length = 3 then none else some (insV v ⟨w,rootOf v s⟩,a,n):=by unfold enterB;rw [if_pos ⟨h1,h2⟩,if_neg k1,if_pos k2]
   have no : ((s > 0 ∧ volB v s = -1) ∨ ¬ volB v w = -1 ∨ v.length = 3) → EnR v a n t w s c false v a n:=fun g=>by
    unfold EnR;rw [if_neg (by decide),hE2,if_pos g]
   have yes : ∀ root,rootOf v s = root → ¬ ((s > 0 ∧ volB v s = -1) ∨ ¬ volB v w = -1 ∨ v.length = 3) → EnR v a n t w s c true (lsort69 (v ++ [⟨w,root⟩])) a n:=fun root er g=>by
    have g2 : volB v w = -1:=by
     by_cases e : volB v w = -1
     ·exact e
     exact absurd (.inr (.inl e)) g
    have hr:=enter_right (v:=v) (a:=a) (n:=n) (t:=t) (w:=w) (s:=s) (c:=c) (by rw [hE2,if_neg g]);obtain ⟨i1,i2⟩:=right_iff.1 hr.1;obtain ⟨s1,s2⟩:=swept_full i1 i2;unfold EnR;rw [if_pos rfl,← er,lsort_ins hh.2.2.2.1 (volB_none g2)];exact ⟨i1,by omega,by rw [s1,s2,hE2,if_neg g]⟩
   refine evx_bind (Q:=fun r=>match r with
    | .inl r=>EnR v a n t w s c r.1 r.2.1 r.2.2.1 r.2.2.2
    | .inr r=>EnR v a n t w s c r.1 r.2.1 r.2.2.1 r.2.2.2) ?_ fun r hr=>?_
   ·simp only [impl_Store_create.f]
    have rest : ∀ root,rootOf v s = root → ¬ (s > 0 ∧ volB v s = -1) → EvX (fun k=>(impl_volAt.f k v a n w).bind fun t3=>if t3 ≥ 0 then some (Sum.inl (false,v,a,n)) else if (v.length : Int) ≥ 3 then some (Sum.inl (false,v,a,n)) else if v.length + ([(⟨w,root⟩ : S69)] : List S69).length ≤ 8796093022208 then if (v ++ ([(⟨w,root⟩ : S69)] : List S69)).length ≤ 12 then some (Sum.inr (true,lsort69 (v ++ ([(⟨w,root⟩ : S69)] : List S69)),a,n)) else none else none)
      (fun r=>match r with
       | .inl r=>EnR v a n t w s c r.1 r.2.1 r.2.2.1 r.2.2.2
       | .inr r=>EnR v a n t w s c r.1 r.2.1 r.2.2.1 r.2.2.2):=by
     intro root er hno;refine evx_bind (iVolAtX v a n w hv) fun t3 e3=>?_;subst e3;refine evx_ite (fun h=>evx_some (no (.inr (.inl (by omega))))) (fun h=>?_);have g1 : volB v w = -1:=by rcases volB_cases v w with h2 | ⟨j,_,h2⟩ <;> omega
     refine evx_ite (fun h=>evx_some (no (.inr (.inr (by have:=hh.1;omega))))) (fun h=>?_);refine evx_pos (by show v.length + 1 ≤ _;omega) (evx_pos (by simp;omega) (evx_some (yes root er ?_)));intro g;rcases g with g | g | g
     ·exact hno g
     ·exact g g1
     omega
    refine evx_ite (fun hs=>?_) (fun hs=>?_)
    ·exact rest (-1) (by unfold rootOf;rw [if_neg (by omega)]) (fun g=>by omega)
    refine evx_bind (iVolAtX v a n s hv) fun t1 e1=>?_;subst e1;refine evx_ite (fun h=>evx_some (no (.inl ⟨by omega,?_⟩))) (fun h=>?_)
    ·rcases volB_cases v s with h2 | ⟨j,_,h2⟩ <;> omega
    rcases volB_cases v s with h2 | ⟨j,hj,h2⟩
    ·omega
    refine evx_pos (by omega) (evx_pos (by omega) (rest _ ?_ (fun g=>by omega)));unfold rootOf;rw [if_pos (by omega)];rfl
   cases r with
   | inl r=>exact evx_some hr
   | inr r=>exact evx_some hr
  refine evx_bind (iVolAtX v a n w hv) fun t6 e6=>?_;subst e6
  have hE : enterB v a n t w s c = if volB v w = -1 ∨ c = 1000000000 then none
   else if t = 3 then some (sweptV (v.take (volB v w).toNat ++ v.drop ((volB v w).toNat + 1)) a,sweptA (v.take (volB v w).toNat ++ v.drop ((volB v w).toNat + 1)) a,n)
   else some (sweptV (v.set (volB v w).toNat ⟨(v.getD (volB v w).toNat z69).f0,(putB a (v.getD (volB v w).toNat z69).f1 s c).2⟩) (putB a (v.getD (volB v w).toNat z69).f1 s c).1,
    sweptA (v.set (volB v w).toNat ⟨(v.getD (volB v w).toNat z69).f0,(putB a (v.getD (volB v w).toNat z69).f1 s c).2⟩) (putB a (v.getD (volB v w).toNat z69).f1 s c).1,if c ≥ n then c + 1 else n):=by
   unfold enterB;rw [if_pos ⟨h1,h2⟩,if_neg k1,if_neg k2]
  have no : (volB v w = -1 ∨ c = 1000000000) → EnR v a n t w s c false v a n:=fun g=>by
   unfold EnR;rw [if_neg (by decide),hE,if_pos g]
  refine evx_ite (fun h3=>evx_some (no (.inl ?_))) (fun h3=>?_)
  ·rcases volB_cases v w with h4 | ⟨j,_,h4⟩ <;> omega
  refine evx_ite (fun h4=>evx_some (no (.inr h4))) (fun h4=>?_);have hne : ¬ volB v w = -1:=by omega
  obtain ⟨j,j1,j2,j3⟩:=volB_some hne;rw [if_neg (fun g=>g.elim hne h4)] at hE;rw [j2] at hE ⊢;simp only [Int.toNat_natCast] at hE ⊢;refine evx_ite (fun h5=>?_) (fun h5=>?_)
  ·rw [if_pos h5] at hE;rw [m64 (i:=j) (n:=v.length) j1 (by omega)];simp only [Int.toNat_natCast,List.drop_zero,Nat.sub_zero,List.nil_append];have tk : (v.drop (j + 1)).take (v.length - (j + 1)) = v.drop (j + 1):=List.take_of_length_le (by rw [List.length_drop];omega);rw [tk];have hd:=half_drop hh j;refine evx_pos (by omega) (evx_pos (by omega) (evx_pos (by rw [List.length_take];show 0 + _ ≤ _;omega) (evx_pos (by omega) (evx_pos (by omega) (evx_pos (by rw [List.length_take,List.length_drop];omega) (evx_some ?_))))));show EnR v a n t w s c true _ _ _;unfold EnR;rw [if_pos rfl];exact ⟨hd,Nat.le_add_right _ _,hE⟩
  rw [if_neg h5] at hE;obtain ⟨hcan,hp⟩:=half_put (s:=s) (c:=c) hh j1 (by omega) (by omega) (by omega);refine evx_pos (by omega) (evx_pos (by omega) ?_);rw [show rd_T69 v (j : Int) = v.getD j z69 from rfl];refine evx_bind (iPutX a _ s c (by omega) hx hcan) fun t11 e11=>?_;subst e11;refine evx_pos (by omega) (evx_pos (by omega) (evx_some ?_))
  have em : maxI n (M2.w64 (c + 1)) = if c ≥ n then c + 1 else n:=by
   rw [m64i (x:=c + 1) (by omega) (by omega)];unfold maxI;split <;> split <;> omega
  have pl:=put_len hcan;show EnR v a n t w s c true _ _ _;unfold EnR;rw [if_pos rfl,em];exact ⟨hp,by show (putB a (v.getD j z69).f1 s c).1.length ≤ _;omega,hE⟩
 match r,hr with
 | .inl r,hr=>exact leaf _ _ _ _ hr
 | .inr (.inl r),hr=>exact leaf _ _ _ _ hr
 | .inr (.inr (.inl r)),hr=>exact leaf _ _ _ _ hr
 | .inr (.inr (.inr (.inl r))),hr=>exact leaf _ _ _ _ hr
 | .inr (.inr (.inr (.inr r))),hr=>exact leaf _ _ _ _ hr
end Go.Proofs.YteideicglgpfiaaGreat.M2.Mp

namespace Go.Proofs.YteideicglgpfiaaGreat.Pu
set_option linter.unusedVariables false
set_option linter.unusedSimpArgs false
open Go.RowKit Go.Proofs.YteideicglgpfiaaGreat.PK Go.Proofs.YteideicglgpfiaaGreatW.PrintWords
theorem nodup_le : ∀ {L M : List Int},L.Nodup → (∀ x ∈ L,x ∈ M) → L.length ≤ M.length
 | [],_,_,_=>Nat.zero_le _
 | x :: L,M,h,hs=>by
  have hx:=hs x List.mem_cons_self;obtain ⟨h1,h2⟩:=List.nodup_cons.1 h;have h3:=nodup_le (L:=L) (M:=M.erase x) h2 fun y hy=>(List.mem_erase_of_ne (by rintro rfl;exact h1 hy)).2 (hs y (List.mem_cons_of_mem _ hy));rw [List.length_erase_of_mem hx] at h3;have:=List.length_pos_of_mem hx;simp only [List.length_cons];omega
theorem nodup_snoc {L : List Int} {x : Int} (h : L.Nodup) (hx : ¬ x ∈ L) : (L ++ [x]).Nodup:=by
 rw [List.nodup_append];exact ⟨h,by simp,fun a ha b hb=>by obtain rfl:=List.mem_singleton.1 hb;rintro rfl;exact hx ha⟩
def bothB (a : List S80) (q r : Int) : List Nat:=(List.range' 0 a.length).filter fun i=>keptB a q i && keptB a r i
def shareB (a : List S80) (q r : Int) : Nat:=(bothB a q r).length
theorem both_mem {a : List S80} {q r : Int} {i : Nat} : i ∈ bothB a q r ↔ i < a.length ∧ keptB a q i = true ∧ keptB a r i = true:=by
 unfold bothB;rw [List.mem_filter,List.mem_range',Bool.and_eq_true];constructor
 ·rintro ⟨⟨j,h1,h2⟩,h3⟩;exact ⟨by omega,h3⟩
 rintro ⟨h1,h3⟩;exact ⟨⟨i,h1,by omega⟩,h3⟩
theorem both_nodup (a : List S80) (q r : Int) : ((bothB a q r).map fun i : Nat=>(i : Int)).Nodup:=by
 unfold List.Nodup;rw [List.pairwise_map];refine List.Pairwise.imp (R:=fun x y=>x < y) (fun h=>by omega) ?_;unfold bothB;exact List.Pairwise.filter _ (List.pairwise_lt_range' (s:=0) (n:=a.length))
theorem share_ge {a : List S80} {q r : Int} {L : List Int} (hn : L.Nodup) (h : ∀ x ∈ L,0 ≤ x ∧ x.toNat < a.length ∧ keptB a q x.toNat = true ∧ keptB a r x.toNat = true) : L.length ≤ shareB a q r:=by
 have:=nodup_le (M:=(bothB a q r).map fun i : Nat=>(i : Int)) hn fun x hx=>List.mem_map.2 ⟨x.toNat,both_mem.2 (h x hx).2,by have:=(h x hx).1;omega⟩
 rwa [List.length_map] at this
theorem share_le {a : List S80} {q r : Int} {M : List Int} (h : ∀ i : Nat,i < a.length → keptB a q i = true → keptB a r i = true → (i : Int) ∈ M) : shareB a q r ≤ M.length:=by
 have:=nodup_le (M:=M) (both_nodup a q r) fun x hx=>by
  obtain ⟨i,hi,rfl⟩:=List.mem_map.1 hx;obtain ⟨h1,h2,h3⟩:=both_mem.1 hi;exact h i h1 h2 h3
 rwa [List.length_map] at this
theorem iKnots_ev' (a : List S80) (r : Int) (hn : a.length ≤ 1048576) (hx : ∀ x ∈ a,x.f1.length ≤ 1048576) :
  ∃ L,Ev (fun k=>impl_knotsOf.f k a r) L ∧ L.length ≤ 1048577 ∧ L.Nodup ∧ (∀ x ∈ L,0 ≤ x ∧ x.toNat < a.length) ∧ ∀ i : Nat,i < a.length → ((i : Int) ∈ L ↔ keptB a r i = true):=by
 unfold impl_knotsOf.f keptB;simp only [iRoot_eq a r (by omega),Option.bind_some]
 by_cases hr : rootB a r = true
 ·obtain ⟨r0,rl,_⟩:=root_lt hr;simp only [if_pos hr,if_pos r0,if_pos (show r < (a.length : Int) by omega),rd_T80];have hm:=hx _ (getD_mem (z:=z80) rl);generalize (a.getD r.toNat z80).f1 = kids at hm ⊢
  have main : ∀ (d i : Nat) (acc : List Int),i + d = kids.length → acc.length ≤ 1 + i → acc.Nodup → (∀ x ∈ acc,0 ≤ x ∧ x.toNat < a.length) →
    ∃ L,Ev (fun k=>impl_knotsOf.l0 k acc kids kids.length (i : Int) a) L ∧ L.length ≤ 1048577 ∧ L.Nodup ∧ (∀ x ∈ L,0 ≤ x ∧ x.toNat < a.length) ∧ ∀ j : Nat,j < a.length → ((j : Int) ∈ L ↔ (j : Int) ∈ acc ∨ (j : Int) ∈ kids.drop i):=by
   intro d
   induction d with
   | zero =>
    intro i acc hi hl hd hb;refine ⟨acc,ev_some fun k=>by simp only [impl_knotsOf.l0];rw [if_neg (by omega)],by omega,hd,hb,fun j _=>?_⟩;rw [List.drop_eq_nil_of_le (by omega)];simp
   | succ d ih =>
    intro i acc hi hl hd hb;have hil : i < kids.length:=by omega
    have st : ∀ k,impl_knotsOf.l0 (k + 1) acc kids kids.length (i : Int) a = if 0 ≤ kids.getD i 0 ∧ kids.getD i 0 ≤ (a.length : Int) - 1 then (impl_hasInt.f k acc (kids.getD i 0)).bind fun t=>if t = true then impl_knotsOf.l0 k acc kids kids.length ((i + 1 : Nat) : Int) a else impl_knotsOf.l0 k (acc ++ [kids.getD i 0]) kids kids.length ((i + 1 : Nat) : Int) a else impl_knotsOf.l0 k acc kids kids.length ((i + 1 : Nat) : Int) a:=fun k=>by
     simp only [impl_knotsOf.l0];rw [if_pos (by omega),if_pos (by omega),if_pos (by omega),rd_nat,w64 (x:=(a.length : Int) - 1) (by omega) (by omega),wsucc (n:=kids.length) hil (by omega)];simp only [in_eq,Option.bind_some,decide_eq_true_eq,if_pos (show acc.length < 17592186044416 by omega)]
    rw [drop_cons 0 hil]
    by_cases h : 0 ≤ kids.getD i 0 ∧ kids.getD i 0 ≤ (a.length : Int) - 1
    ·by_cases h2 : kids.getD i 0 ∈ acc
     ·obtain ⟨L,h3,h4,h6,h7,h5⟩:=ih (i + 1) acc (by omega) (by omega) hd hb;refine ⟨L,Ev.step (fun k=>by rw [st k,if_pos h]) (ev_bind (iHasInt_ev acc _ (by omega)) ?_),h4,h6,h7,fun j hj=>?_⟩
      ·rw [decide_eq_true h2];simp only [if_true];exact h3
      rw [h5 j hj,List.mem_cons];constructor
      ·rintro (h | h)
       ·exact .inl h
       exact .inr (.inr h)
      rintro (h | h | h)
      ·exact .inl h
      ·exact .inl (by rw [h];exact h2)
      exact .inr h
     obtain ⟨L,h3,h4,h6,h7,h5⟩:=ih (i + 1) (acc ++ [kids.getD i 0]) (by omega) (by simp;omega) (nodup_snoc hd h2) (fun x hx=>by
      rcases List.mem_append.1 hx with hx | hx
      ·exact hb x hx
      obtain rfl:=List.mem_singleton.1 hx;exact ⟨h.1,by omega⟩)
     refine ⟨L,Ev.step (fun k=>by rw [st k,if_pos h]) (ev_bind (iHasInt_ev acc _ (by omega)) ?_),h4,h6,h7,fun j hj=>?_⟩
     ·rw [decide_eq_false h2];exact h3
     rw [h5 j hj,List.mem_cons,List.mem_append,List.mem_singleton,or_assoc]
    obtain ⟨L,h3,h4,h8,h7,h5⟩:=ih (i + 1) acc (by omega) (by omega) hd hb;refine ⟨L,Ev.step (fun k=>by rw [st k,if_neg h]) h3,h4,h8,h7,fun j hj=>?_⟩;rw [h5 j hj,List.mem_cons];constructor
    ·rintro (h | h)
     ·exact .inl h
     exact .inr (.inr h)
    rintro (h6 | h6 | h6)
    ·exact .inl h6
    ·exact absurd (by omega) h
    exact .inr h6
  obtain ⟨L,h1,h2,h4,h5,h3⟩:=main kids.length 0 [r] (by omega) (by simp) (by simp) (fun x hx=>by obtain rfl:=List.mem_singleton.1 hx;exact ⟨r0,rl⟩);refine ⟨L,h1,h2,h4,h5,fun i hi=>?_⟩;rw [h3 i hi,hr];simp
 simp only [if_neg hr,Bool.eq_false_iff.mpr hr];exact ⟨[],Ev.now _,by simp,List.nodup_nil,fun x hx=>(by cases hx),fun i hi=>by simp⟩
theorem count_eq {a : List S80} {q r : Int} {L O : List Int} (hd : L.Nodup) (hb : ∀ x ∈ L,0 ≤ x ∧ x.toNat < a.length) (hL : ∀ i : Nat,i < a.length → ((i : Int) ∈ L ↔ keptB a q i = true)) (hO : ∀ i : Nat,i < a.length → ((i : Int) ∈ O ↔ keptB a r i = true)) :
  (L.filter fun x=>decide (x ∈ O)).length = shareB a q r:=by
 refine Nat.le_antisymm (share_ge (List.Pairwise.filter _ hd) fun x hx=>?_) (share_le fun i hi h1 h2=>?_)
 ·obtain ⟨h1,h2⟩:=List.mem_filter.1 hx;obtain ⟨h3,h4⟩:=hb x h1;have e : ((x.toNat : Nat) : Int) = x:=by omega
  exact ⟨h3,h4,(hL _ h4).1 (by rw [e];exact h1),(hO _ h4).1 (by rw [e];exact of_decide_eq_true h2)⟩
 exact List.mem_filter.2 ⟨(hL i hi).2 h1,decide_eq_true ((hO i hi).2 h2)⟩
theorem share_none (a : List S80) (q : Int) : shareB a (-1) q = 0:=by
 have h:=share_le (a:=a) (q:=-1) (r:=q) (M:=[]) (fun i hi h1 _=>by
  unfold keptB at h1;rw [Bool.and_eq_true] at h1;have:=(root_lt h1.1).1
  omega)
 exact Nat.le_zero.1 h
theorem mem_erase {l : List Int} {c : Nat} {v x : Int} (h : x ∈ l.set c v) (hv : x ≠ v) : x ∈ l.eraseIdx c:=by
 induction l generalizing c with
 | nil=>simp at h
 | cons y l ih =>
  cases c with
  | zero =>
   rcases List.mem_cons.1 h with h | h
   ·exact absurd h hv
   exact h
  | succ c =>
   rcases List.mem_cons.1 h with h | h
   ·exact List.mem_cons.2 (.inl h)
   exact List.mem_cons_of_mem _ (ih h)
theorem put_share {a : List S80} {r s n : Int} (h : canPut a r s n) : 2 ≤ shareB (putB a r s n).1 (putB a r s n).2 (putB a r s n).2 ∧ shareB (putB a r s n).1 (putB a r s n).2 r ≤ 3:=by
 have hq:=put_new h;obtain ⟨ha,hr,⟨s0,s1⟩,_⟩:=id h;obtain ⟨t4,_⟩:=top_right ha hr;have e:=put_eq h;rw [e] at hq;rw [e];simp only at hq ⊢
 have hk : ∀ i : Nat,keptB (a ++ [⟨true,(leafB a r s).set (s % 4).toNat n⟩,⟨false,(topB a r).set (s / 4).toNat (a.length : Int)⟩]) ((a.length : Int) + 1) i = true ↔ i = a.length + 1 ∨ (i : Int) ∈ (topB a r).set (s / 4).toNat (a.length : Int):=fun i=>by
  unfold keptB;rw [hq,Bool.true_and,Bool.or_eq_true,decide_eq_true_eq,decide_eq_true_eq,show ((a.length : Int) + 1).toNat = a.length + 1 by omega,getD_app1];constructor
  ·rintro (h | h)
   ·exact .inl (by omega)
   exact .inr h
  rintro (h | h)
  ·exact .inl (by omega)
  exact .inr h
 constructor
 ·have:=share_ge (a:=a ++ [⟨true,(leafB a r s).set (s % 4).toNat n⟩,⟨false,(topB a r).set (s / 4).toNat (a.length : Int)⟩]) (q:=(a.length : Int) + 1) (r:=(a.length : Int) + 1) (L:=[(a.length : Int),(a.length : Int) + 1]) (by simp;omega) (fun x hx=>by
   have k1:=(hk (a.length + 1)).2 (.inl rfl);have k2:=(hk a.length).2 (.inr (List.mem_iff_getElem.2 ⟨(s / 4).toNat,by rw [List.length_set];omega,by rw [List.getElem_set_self]⟩));rcases List.mem_cons.1 hx with rfl | hx
   ·rw [Int.toNat_natCast];exact ⟨by omega,by simp,k2,k2⟩
   obtain rfl:=List.mem_singleton.1 hx;rw [show ((a.length : Int) + 1).toNat = a.length + 1 by omega]
   exact ⟨by omega,by simp,k1,k1⟩)
  exact this
 have:=share_le (a:=a ++ [⟨true,(leafB a r s).set (s % 4).toNat n⟩,⟨false,(topB a r).set (s / 4).toNat (a.length : Int)⟩]) (q:=(a.length : Int) + 1) (r:=r) (M:=(topB a r).eraseIdx (s / 4).toNat) (fun i hi h1 h2=>by
  have hlt : i < a.length:=by
   rcases hr with hr | hr
   ·unfold keptB at h2;rw [Bool.and_eq_true] at h2;have:=(root_lt h2.1).1;omega
   obtain ⟨r0,rl,rf⟩:=root_lt hr;unfold keptB at h2;rw [getD_app rl,Bool.and_eq_true,Bool.or_eq_true,decide_eq_true_eq,decide_eq_true_eq] at h2;rcases h2.2 with h2 | h2
   ·omega
   have h3:=(knot_of ha rl).2 _ h2;rw [rf] at h3;rcases kid_top.1 h3 with h3 | h3
   ·omega
   omega
  rcases (hk i).1 h1 with h1 | h1
  ·omega
  exact mem_erase h1 (by omega))
 rw [List.length_eraseIdx_of_lt (by omega),t4] at this;exact this
end Go.Proofs.YteideicglgpfiaaGreat.Pu

namespace Go.Proofs.YteideicglgpfiaaGreat.M2.Mp
set_option linter.unusedVariables false
set_option linter.unusedSimpArgs false
open Go.RowKit Go.Proofs.YteideicglgpfiaaGreat.PK Go.Proofs.YteideicglgpfiaaGreatW.PrintWords Go.Proofs.YteideicglgpfiaaGreat.Pu
theorem right_few {v : List S69} {a : List S80} {n : Int} (h : storeB v a n = true) : a.length ≤ 15:=by
 obtain ⟨hh,hf⟩:=right_iff.1 h
 have hn : ((List.range a.length).map fun i : Nat=>(i : Int)).Nodup:=by
  rw [List.nodup_iff_pairwise_ne,List.pairwise_map];exact List.nodup_range.imp fun h e=>h (by omega)
 have hl:=nodup_le (M:=v.flatMap fun x=>x.f1 :: (a.getD x.f1.toNat z80).f1) hn fun x hx=>by
  obtain ⟨i,hi,rfl⟩:=List.mem_map.1 hx;rw [List.mem_range] at hi;obtain ⟨r,hr,hb,hk⟩:=keep_iff.1 (hf i hi);obtain ⟨y,hy,rfl⟩:=List.mem_map.1 hr
  exact List.mem_flatMap.2 ⟨y,hy,by
   rcases hk with hk | hk
   ·rw [hk];exact List.mem_cons_self
   exact List.mem_cons_of_mem _ hk⟩
 rw [List.length_map,List.length_range] at hl
 have hm : ∀ u : List S69,(u.flatMap fun x=>x.f1 :: (a.getD x.f1.toNat z80).f1).length ≤ 5 * u.length:=by
  intro u
  induction u with
  | nil=>exact Nat.le_refl _
  | cons x u ih =>
   rw [List.flatMap_cons,List.length_append,List.length_cons,List.length_cons]
   have : (a.getD x.f1.toNat z80).f1.length ≤ 4:=by
    by_cases hi : x.f1.toNat < a.length
    ·rw [gdE _ hi];exact Nat.le_of_eq (woods_len hh.2.1 _ (List.getElem_mem hi))
    rw [List.getD_eq_getElem?_getD,List.getElem?_eq_none (by omega)];exact Nat.zero_le _
   omega
 have:=hm v;have:=hh.1;omega
theorem entR_no {v : List S69} {a : List S80} {n t w s c : Int} (h : ¬ storeB v a n = true) : entR v a n t w s c = (v,a,n,false,v,a):=by
 unfold entR enterB;rw [if_neg fun g=>h g.1]
theorem iEnterBig (v : List S69) (a : List S80) (n t w s c : Int) (hv : v.length ≤ 1048576) (hn : a.length ≤ 1048576) (hx : Sz a) : EvX (fun k=>impl_Enter.f k v a n t w s c) (fun r=>r = ((entR v a n t w s c).1,(entR v a n t w s c).2.1,(entR v a n t w s c).2.2.1,(entR v a n t w s c).2.2.2.1)):=by
 by_cases h : storeB v a n = true
 ·exact iEnterX v a n t w s c hv (by have:=right_few h;omega) hx
 rw [entR_no h];simp only [impl_Enter.f];refine evx_bind (iCopyX v a n hv hn hx) fun t1 e1=>?_;refine evx_bind (iStoreOkX v a n hv hn hx) fun t2 e2=>evx_neg (by rw [e2];exact h) ?_;exact evx_bind (iCopyX v a n hv hn hx) fun t3 e3=>evx_some (by rw [e3])
theorem enterBig (v : List S69) (a : List S80) (n t w s c : Int) (hv : v.length ≤ 1048576) (hn : a.length ≤ 1048576) (hx : Sz a) : EvX (fun k=>spec_Enter.f k n t w s c v a) (fun r=>r = entR v a n t w s c):=by
 by_cases h : storeB v a n = true
 ·exact enterX v a n t w s c hv (by have:=right_few h;omega) hx
 rw [entR_no h];simp only [spec_Enter.f];refine evx_bind (sStoreOkX v a n hv hn hx) fun t1 e1=>?_;subst e1;refine evx_neg h ?_;exact evx_bind (sCopyX v a n hv hn hx) fun t3 e3=>evx_some (by rw [e3])
theorem entR_sz (v : List S69) (a : List S80) (n t w s c : Int) (hv : v.length ≤ 1048576) (hn : a.length ≤ 1048576) (hx : Sz a) : (entR v a n t w s c).1.length ≤ 1048576 ∧ (entR v a n t w s c).2.1.length ≤ 1048576 ∧ Sz (entR v a n t w s c).2.1:=by
 unfold entR;cases e : enterB v a n t w s c with
 | none=>exact ⟨hv,hn,hx⟩
 | some q =>
  have hq:=(enter_right (v':=q.1) (a':=q.2.1) (n':=q.2.2) e).1;obtain ⟨h1,h2⟩:=right_iff.1 hq;have:=h1.1;have:=right_few hq;exact ⟨by show q.1.length ≤ _;omega,by show q.2.1.length ≤ _;omega,woods_le h1.2.1⟩
theorem toRecX (t w s c : Int) : EvX (fun k=>laws_toRec.f k t w s c) (fun r=>r = (t,w,s,c)):=by
 simp only [laws_toRec.f];exact evx_some rfl
theorem eqStoreX (v : List S69) (a : List S80) (n : Int) (hv : v.length ≤ 1048576) (hn : a.length ≤ 1048576) (hx : Sz a) : EvX (fun k=>laws_eqStore.f k v a n v a n) (fun r=>r = true) :=
 ⟨_,ev_rel (c:=id) (eqStore_ev v a n hv (by omega) (fun x h=>by have:=hx x h;omega)) (fun k r hh m hm=>laws_eqStore.rel k v a n v a n r hh m hm),rfl⟩
end Go.Proofs.YteideicglgpfiaaGreat.M2.Mp

namespace Go.Proofs.YteideicglgpfiaaGreat.M2.Mp
set_option linter.unusedVariables false
set_option linter.unusedSimpArgs false
open Go.RowKit Go.Proofs.YteideicglgpfiaaGreat.PK Go.Proofs.YteideicglgpfiaaGreatW.PrintWords Go.Proofs.YteideicglgpfiaaGreat.Pu
def entL : List S52 → List S69 → List S80 → Int → Option (List S69 × List S80 × Int)
 | [],v,a,n=>some (v,a,n)
 | r :: L,v,a,n=>(enterB v a n r.f0 r.f1 r.f2 r.f3).bind fun q=>entL L q.1 q.2.1 q.2.2
def allR (L : List S52) (v : List S69) (a : List S80) (n : Int) : List S69 × List S80 × Int × Bool :=
 match entL L v a n with
 | some q=>(q.1,q.2.1,q.2.2,true)
 | none=>(v,a,n,false)
theorem iAllBig (L : List S52) (v : List S69) (a : List S80) (n : Int) (hL : L.length ≤ 1048576) (hv : v.length ≤ 1048576) (hn : a.length ≤ 1048576) (hx : Sz a) : EvX (fun k=>impl_EnterAll.f k v a n L) (fun r=>r = allR L v a n):=by
 simp only [impl_EnterAll.f];refine evx_bind (iCopyX v a n hv hn hx) fun t1 e1=>?_;subst e1
 have main : ∀ (d i : Nat),i + d = L.length → ∀ (p1 : List S69) (p2 : List S80) (p3 : Int) (v1 : List S69) (a1 : List S80) (n1 : Int),v1.length ≤ 1048576 → a1.length ≤ 1048576 → Sz a1 →
   EvX (fun k=>impl_EnterAll.c3 k L (L.length : Int) (i : Int) v a n p1 p2 p3 v1 a1 n1) (fun r=>r = match entL (L.drop i) v1 a1 n1 with
    | some q=>(q.1,q.2.1,q.2.2,true)
    | none=>(v,a,n,false)):=by
  intro d
  induction d with
  | zero =>
   intro i hi p1 p2 p3 v1 a1 n1 q1 q2 q3;rw [List.drop_eq_nil_of_le (by omega)];refine evx_step (fun k=>by rw [impl_EnterAll.c3]) (evx_neg (by omega) (evx_some ?_));rfl
  | succ d ih =>
   intro i hi p1 p2 p3 v1 a1 n1 q1 q2 q3;have hil : i < L.length:=by omega
   rw [drop_one z52 hil];refine evx_step (fun k=>by rw [impl_EnterAll.c3]) (evx_pos (by omega) (evx_pos (by omega) (evx_pos (by omega) ?_)));rw [show rd_T52 L (i : Int) = L.getD i z52 from rfl,m64 (n:=L.length) hil (by omega)];generalize L.getD i z52 = r;have hz:=entR_sz v1 a1 n1 r.f0 r.f1 r.f2 r.f3 q1 q2 q3;refine evx_bind (iEnterBig v1 a1 n1 r.f0 r.f1 r.f2 r.f3 q1 q2 q3) fun t2 e2=>?_;unfold entR at e2 hz;unfold entL;cases e : enterB v1 a1 n1 r.f0 r.f1 r.f2 r.f3 with
   | none =>
    rw [e] at e2;subst e2;refine evx_neg (by simp) (evx_bind (iCopyX v a n hv hn hx) fun t e=>evx_some ?_);subst e;rfl
   | some q =>
    rw [e] at e2 hz;subst e2;exact evx_pos rfl (ih (i + 1) (by omega) _ _ _ q.1 q.2.1 q.2.2 hz.1 hz.2.1 hz.2.2)
 exact main L.length 0 (by omega) [] [] 0 v a n hv hn hx
theorem sAllBig (L : List S52) (v : List S69) (a : List S80) (n : Int) (hL : L.length ≤ 1048576) (hv : v.length ≤ 1048576) (hn : a.length ≤ 1048576) (hx : Sz a) : EvX (fun k=>spec_EnterAll.f k v a n L) (fun r=>r = allR L v a n):=by
 simp only [spec_EnterAll.f];refine evx_bind (sCopyX v a n hv hn hx) fun t1 e1=>?_;subst e1
 have main : ∀ (d i : Nat),i + d = L.length → ∀ (p1 : List S69) (p2 : List S80) (p3 : Int) (v1 : List S69) (a1 : List S80) (n1 : Int),v1.length ≤ 1048576 → a1.length ≤ 1048576 → Sz a1 →
   EvX (fun k=>spec_EnterAll.c3 k L (i : Int) v a n p1 p2 p3 v1 a1 n1) (fun r=>r = match entL (L.drop i) v1 a1 n1 with
    | some q=>(q.1,q.2.1,q.2.2,true)
    | none=>(v,a,n,false)):=by
  intro d
  induction d with
  | zero =>
   intro i hi p1 p2 p3 v1 a1 n1 q1 q2 q3;rw [List.drop_eq_nil_of_le (by omega)];refine evx_step (fun k=>by rw [spec_EnterAll.c3]) (evx_neg (by omega) (evx_some ?_));rfl
  | succ d ih =>
   intro i hi p1 p2 p3 v1 a1 n1 q1 q2 q3;have hil : i < L.length:=by omega
   rw [drop_one z52 hil];refine evx_step (fun k=>by rw [spec_EnterAll.c3]) (evx_pos (by omega) (evx_pos (by omega) (evx_pos (by omega) ?_)));rw [show rd_T52 L (i : Int) = L.getD i z52 from rfl,m64 (n:=L.length) hil (by omega)];generalize L.getD i z52 = r;have hz:=entR_sz v1 a1 n1 r.f0 r.f1 r.f2 r.f3 q1 q2 q3;refine evx_bind (enterBig v1 a1 n1 r.f0 r.f1 r.f2 r.f3 q1 q2 q3) fun t2 e2=>?_;unfold entR at e2 hz;unfold entL;cases e : enterB v1 a1 n1 r.f0 r.f1 r.f2 r.f3 with
   | none =>
    rw [e] at e2;subst e2;refine evx_neg (by simp) (evx_bind (sCopyX v a n hv hn hx) fun t e=>evx_some ?_);subst e;rfl
   | some q =>
    rw [e] at e2 hz;subst e2;exact evx_pos rfl (ih (i + 1) (by omega) _ _ _ q.1 q.2.1 q.2.2 hz.1 hz.2.1 hz.2.2)
 exact main L.length 0 (by omega) [] [] 0 v a n hv hn hx
theorem allR_sz : ∀ (L : List S52) (v : List S69) (a : List S80) (n : Int),v.length ≤ 1048576 → a.length ≤ 1048576 → Sz a → ∀ q,entL L v a n = some q → q.1.length ≤ 1048576 ∧ q.2.1.length ≤ 1048576 ∧ Sz q.2.1
 | [],v,a,n,h1,h2,h3,q,h=>by unfold entL at h;cases h;exact ⟨h1,h2,h3⟩
 | r :: L,v,a,n,h1,h2,h3,q,h=>by
  unfold entL at h;have hz:=entR_sz v a n r.f0 r.f1 r.f2 r.f3 h1 h2 h3;unfold entR at hz;cases e : enterB v a n r.f0 r.f1 r.f2 r.f3 with
  | none=>rw [e] at h;cases h
  | some p=>rw [e] at h hz;exact allR_sz L p.1 p.2.1 p.2.2 hz.1 hz.2.1 hz.2.2 q h
theorem allR_small (L : List S52) (v : List S69) (a : List S80) (n : Int) (h1 : v.length ≤ 1048576) (h2 : a.length ≤ 1048576) (h3 : Sz a) : (allR L v a n).1.length ≤ 1048576 ∧ (allR L v a n).2.1.length ≤ 1048576 ∧ Sz (allR L v a n).2.1:=by
 unfold allR;cases e : entL L v a n with
 | none=>exact ⟨h1,h2,h3⟩
 | some q=>exact allR_sz L v a n h1 h2 h3 q e
end Go.Proofs.YteideicglgpfiaaGreat.M2.Mp

namespace Go.Proofs.YteideicglgpfiaaGreat.M2.Mp
set_option linter.unusedVariables false
set_option linter.unusedSimpArgs false
open Go.RowKit Go.Proofs.YteideicglgpfiaaGreat.PK Go.Proofs.YteideicglgpfiaaGreatW.PrintWords Go.Proofs.YteideicglgpfiaaGreat.Pu
theorem get_mid {α : Type} (p s : List α) (x z : α) : (p ++ x :: s).getD p.length z = x:=by
 rw [List.getD_eq_getElem?_getD,List.getElem?_append_right (Nat.le_refl _),Nat.sub_self];rfl
theorem set_mid {α : Type} (p s : List α) (x y : α) : (p ++ x :: s).set p.length y = p ++ y :: s:=by
 rw [List.set_append_right _ _ (Nat.le_refl _),Nat.sub_self];rfl
theorem mid_snoc {α : Type} (p s : List α) (x : α) : p ++ x :: s = (p ++ [x]) ++ s:=by simp
def mkI : List Int → Int → List Int
 | [],_=>[]
 | _ :: l,a=>a :: mkI l (a + 1)
theorem mkI_len : ∀ (l : List Int) (a : Int),(mkI l a).length = l.length
 | [],_=>rfl
 | _ :: l,a=>by unfold mkI;rw [List.length_cons,List.length_cons,mkI_len l]
theorem markIX : ∀ (l p : List Int) (a : Int),0 ≤ a → a + l.length ≤ 4611686018427387904 → p.length + l.length ≤ 4611686018427387904 → EvX (fun k=>laws_markIntS.c2 k a (p.length : Int) (p ++ l)) (fun r=>r = (a + l.length,p ++ mkI l a)):=by
 intro l
 induction l with
 | nil =>
  intro p a h0 h1 h2;refine evx_step (fun k=>by rw [laws_markIntS.c2]) (evx_neg (by simp) (evx_some (by simp [mkI])))
 | cons x l ih =>
  intro p a h0 h1 h2;rw [List.length_cons] at h1 h2;refine evx_step (fun k=>by rw [laws_markIntS.c2]) (evx_pos (by simp;omega) (evx_pos (by omega) (evx_pos (by simp;omega) ?_)));rw [Int.toNat_natCast,set_mid,m64i (x:=a + 1) (by omega) (by omega),m64 (i:=p.length) (n:=p.length + 1) (by omega) (by omega),mid_snoc];have h:=ih (p ++ [a]) (a + 1) (by omega) (by omega) (by rw [List.length_append,List.length_singleton];omega);rw [List.length_append,List.length_singleton] at h;refine evx_mono h fun r hr=>?_;rw [hr,List.length_cons];refine Prod.ext ?_ ?_
  ·show _ = _;simp only [];omega
  show _ = _;simp [mkI]
theorem heldIX : ∀ (l p : List Int) (a : Int),0 ≤ a → a + l.length ≤ 4611686018427387904 → p.length + l.length ≤ 4611686018427387904 → EvX (fun k=>laws_heldIntS.c2 k (p ++ mkI l a) a (p.length : Int)) (fun r=>r = a + l.length):=by
 intro l
 induction l with
 | nil =>
  intro p a h0 h1 h2;refine evx_step (fun k=>by rw [laws_heldIntS.c2]) (evx_neg (by simp [mkI]) (evx_some (by simp)))
 | cons x l ih =>
  intro p a h0 h1 h2;rw [List.length_cons] at h1 h2;unfold mkI;have hl : (p ++ a :: mkI l (a + 1)).length = p.length + (l.length + 1):=by simp [mkI_len]
  refine evx_step (fun k=>by rw [laws_heldIntS.c2]) (evx_pos (by rw [hl];omega) (evx_pos (by omega) (evx_pos (by rw [hl];omega) ?_)));rw [show rd_T3 (p ++ a :: mkI l (a + 1)) (p.length : Int) = a from get_mid p _ a 0];refine evx_pos rfl ?_;rw [m64i (x:=a + 1) (by omega) (by omega),m64 (i:=p.length) (n:=p.length + 1) (by omega) (by omega),mid_snoc];have h:=ih (p ++ [a]) (a + 1) (by omega) (by omega) (by rw [List.length_append,List.length_singleton];omega);rw [List.length_append,List.length_singleton] at h;refine evx_mono h fun r hr=>?_;rw [hr,List.length_cons];omega
def mkV : List S69 → Int → List S69
 | [],_=>[]
 | _ :: l,a=>⟨a,a + 1⟩ :: mkV l (a + 2)
theorem mkV_len : ∀ (l : List S69) (a : Int),(mkV l a).length = l.length
 | [],_=>rfl
 | _ :: l,a=>by unfold mkV;rw [List.length_cons,List.length_cons,mkV_len l]
theorem markVX : ∀ (l p : List S69) (a : Int),0 ≤ a → a + 2 * l.length ≤ 4611686018427387904 → p.length + l.length ≤ 4611686018427387904 → EvX (fun k=>laws_markVolS.c2 k a (p.length : Int) (p ++ l)) (fun r=>r = (a + 2 * l.length,p ++ mkV l a)):=by
 intro l
 induction l with
 | nil =>
  intro p a h0 h1 h2;refine evx_step (fun k=>by rw [laws_markVolS.c2]) (evx_neg (by simp) (evx_some (by simp [mkV])))
 | cons x l ih =>
  intro p a h0 h1 h2;rw [List.length_cons] at h1 h2;refine evx_step (fun k=>by rw [laws_markVolS.c2]) ?_;rw [Int.toNat_natCast,set_mid,set_mid,m64i (x:=a + 1) (by omega) (by omega),m64i (x:=a + 1 + 1) (by omega) (by omega),m64 (i:=p.length) (n:=p.length + 1) (by omega) (by omega)];refine evx_pos (by simp;omega) (evx_pos (by omega) (evx_pos (by simp;omega) (evx_pos (by omega) (evx_pos (by simp;omega) ?_))));rw [show (rd_T69 (p ++ (⟨a,(rd_T69 (p ++ x :: l) (p.length : Int)).f1⟩ : S69) :: l) (p.length : Int)).f0 = a from congrArg (fun y=>y.f0) (get_mid p l _ z69),mid_snoc];have h:=ih (p ++ [⟨a,a + 1⟩]) (a + 2) (by omega) (by omega) (by rw [List.length_append,List.length_singleton];omega);rw [List.length_append,List.length_singleton] at h;rw [show a + 1 + 1 = a + 2 by omega];refine evx_mono h fun r hr=>?_;rw [hr,List.length_cons];refine Prod.ext ?_ ?_
  ·show _ = _;simp only [];omega
  show _ = _;simp [mkV]
theorem heldVX : ∀ (l p : List S69) (a : Int),0 ≤ a → a + 2 * l.length ≤ 4611686018427387904 → p.length + l.length ≤ 4611686018427387904 → EvX (fun k=>laws_heldVolS.c2 k (p ++ mkV l a) a (p.length : Int)) (fun r=>r = a + 2 * l.length):=by
 intro l
 induction l with
 | nil =>
  intro p a h0 h1 h2;refine evx_step (fun k=>by rw [laws_heldVolS.c2]) (evx_neg (by simp [mkV]) (evx_some (by simp)))
 | cons x l ih =>
  intro p a h0 h1 h2;rw [List.length_cons] at h1 h2;unfold mkV;have hl : (p ++ (⟨a,a + 1⟩ : S69) :: mkV l (a + 2)).length = p.length + (l.length + 1):=by simp [mkV_len]
  refine evx_step (fun k=>by rw [laws_heldVolS.c2]) (evx_pos (by rw [hl];omega) (evx_pos (by omega) (evx_pos (by rw [hl];omega) ?_)));rw [show rd_T69 (p ++ (⟨a,a + 1⟩ : S69) :: mkV l (a + 2)) (p.length : Int) = ⟨a,a + 1⟩ from get_mid p _ _ z69];rw [m64i (x:=a + 1) (by omega) (by omega),m64i (x:=a + 1 + 1) (by omega) (by omega),m64 (i:=p.length) (n:=p.length + 1) (by omega) (by omega)];refine evx_pos rfl (evx_pos (by omega) (evx_pos (by rw [hl];omega) (evx_pos rfl ?_)));rw [mid_snoc];have h:=ih (p ++ [⟨a,a + 1⟩]) (a + 2) (by omega) (by omega) (by rw [List.length_append,List.length_singleton];omega);rw [List.length_append,List.length_singleton] at h;rw [show a + 1 + 1 = a + 2 by omega];refine evx_mono h fun r hr=>?_;rw [hr,List.length_cons];omega
def mkK : List S80 → Int → List S80
 | [],_=>[]
 | x :: l,a=>⟨decide (Int.tmod a 3 = 0),mkI x.f1 (a + 1)⟩ :: mkK l (a + 1 + x.f1.length)
def ndK : List S80 → Int → Int
 | [],a=>a
 | x :: l,a=>ndK l (a + 1 + x.f1.length)
theorem mkK_len : ∀ (l : List S80) (a : Int),(mkK l a).length = l.length
 | [],_=>rfl
 | x :: l,a=>by unfold mkK;rw [List.length_cons,List.length_cons,mkK_len l]
theorem ndK_le : ∀ (l : List S80) (a : Int),(∀ x ∈ l,x.f1.length ≤ 1048576) → a ≤ ndK l a ∧ ndK l a ≤ a + 1048577 * l.length
 | [],a,_=>by unfold ndK;simp
 | x :: l,a,h=>by
  have h1:=h x List.mem_cons_self;have h2:=ndK_le l (a + 1 + x.f1.length) fun y hy=>h y (List.mem_cons_of_mem _ hy);unfold ndK;rw [List.length_cons];omega
theorem markKX : ∀ (l p : List S80) (a : Int),(∀ x ∈ l,x.f1.length ≤ 1048576) → 0 ≤ a → a + 1048577 * l.length ≤ 4611686018427387904 → p.length + l.length ≤ 4611686018427387904 → EvX (fun k=>laws_markKnotS.c2 k a (p.length : Int) (p ++ l)) (fun r=>r = (ndK l a,p ++ mkK l a)):=by
 intro l
 induction l with
 | nil =>
  intro p a hx h0 h1 h2;refine evx_step (fun k=>by rw [laws_markKnotS.c2]) (evx_neg (by simp) (evx_some (by simp [mkK,ndK])))
 | cons x l ih =>
  intro p a hx h0 h1 h2;rw [List.length_cons] at h1 h2;have hx1:=hx x List.mem_cons_self;refine evx_step (fun k=>by rw [laws_markKnotS.c2]) ?_;have g1 : (rd_T80 (p ++ x :: l) (p.length : Int)) = x:=get_mid p l x z80;rw [Int.toNat_natCast,set_mid,g1];have g2 : rd_T80 (p ++ (⟨decide (Int.tmod a 3 = 0),x.f1⟩ : S80) :: l) (p.length : Int) = ⟨decide (Int.tmod a 3 = 0),x.f1⟩:=get_mid p l _ z80;rw [g2,m64i (x:=a + 1) (by omega) (by omega),m64 (i:=p.length) (n:=p.length + 1) (by omega) (by omega)];refine evx_pos (by simp;omega) (evx_pos (by omega) (evx_pos (by simp;omega) (evx_pos (by omega) (evx_pos (by simp;omega) ?_))));have hi:=markIX x.f1 [] (a + 1) (by omega) (by omega) (by simp;omega);simp only [laws_markIntS.f];refine evx_bind hi fun t e=>?_;subst e;simp only [set_mid,List.nil_append];rw [mid_snoc];have h:=ih (p ++ [⟨decide (Int.tmod a 3 = 0),mkI x.f1 (a + 1)⟩]) (a + 1 + x.f1.length) (fun y hy=>hx y (List.mem_cons_of_mem _ hy)) (by omega) (by omega) (by rw [List.length_append,List.length_singleton];omega);rw [List.length_append,List.length_singleton] at h;refine evx_mono h fun r hr=>?_;rw [hr];refine Prod.ext ?_ ?_
  ·show _ = _;simp [ndK]
  show _ = _;simp [mkK]
theorem heldKX : ∀ (l p : List S80) (a : Int),(∀ x ∈ l,x.f1.length ≤ 1048576) → 0 ≤ a → a + 1048577 * l.length ≤ 4611686018427387904 → p.length + l.length ≤ 4611686018427387904 → EvX (fun k=>laws_heldKnotS.c2 k (p ++ mkK l a) a (p.length : Int)) (fun r=>r = ndK l a):=by
 intro l
 induction l with
 | nil =>
  intro p a hx h0 h1 h2;refine evx_step (fun k=>by rw [laws_heldKnotS.c2]) (evx_neg (by simp [mkK]) (evx_some (by simp [ndK])))
 | cons x l ih =>
  intro p a hx h0 h1 h2;rw [List.length_cons] at h1 h2;have hx1:=hx x List.mem_cons_self;unfold mkK;have hl : (p ++ (⟨decide (Int.tmod a 3 = 0),mkI x.f1 (a + 1)⟩ : S80) :: mkK l (a + 1 + x.f1.length)).length = p.length + (l.length + 1):=by simp [mkK_len]
  refine evx_step (fun k=>by rw [laws_heldKnotS.c2]) (evx_pos (by rw [hl];omega) (evx_pos (by omega) (evx_pos (by rw [hl];omega) ?_)));rw [show rd_T80 (p ++ (⟨decide (Int.tmod a 3 = 0),mkI x.f1 (a + 1)⟩ : S80) :: mkK l (a + 1 + x.f1.length)) (p.length : Int) = ⟨decide (Int.tmod a 3 = 0),mkI x.f1 (a + 1)⟩ from get_mid p _ _ z80];rw [m64i (x:=a + 1) (by omega) (by omega),m64 (i:=p.length) (n:=p.length + 1) (by omega) (by omega)];refine evx_pos (by simp) (evx_pos (by omega) (evx_pos (by rw [hl];omega) ?_));have hi:=heldIX x.f1 [] (a + 1) (by omega) (by omega) (by simp;omega);simp only [laws_heldIntS.f];refine evx_bind hi fun t e=>evx_neg (by omega) ?_;subst e;rw [mid_snoc];have h:=ih (p ++ [⟨decide (Int.tmod a 3 = 0),mkI x.f1 (a + 1)⟩]) (a + 1 + x.f1.length) (fun y hy=>hx y (List.mem_cons_of_mem _ hy)) (by omega) (by omega) (by rw [List.length_append,List.length_singleton];omega);rw [List.length_append,List.length_singleton] at h;exact h
theorem markStoreX (v : List S69) (l : List S80) (n a : Int) (hv : v.length ≤ 2097152) (hl : l.length ≤ 2097152) (hx : ∀ x ∈ l,x.f1.length ≤ 1048576) (h0 : 0 ≤ a) (h1 : a ≤ 1048576) :
  EvX (fun k=>laws_markStore.f k n a v l) (fun r=>r = (ndK l (a + 2 * v.length),mkV v a,mkK l (a + 2 * v.length))) ∧ EvX (fun k=>laws_heldStore.f k (mkV v a) (mkK l (a + 2 * v.length)) n a) (fun r=>r = ndK l (a + 2 * v.length)) ∧ 0 ≤ ndK l (a + 2 * v.length):=by
 have b:=ndK_le l (a + 2 * v.length) hx;refine ⟨?_,?_,by omega⟩
 ·simp only [laws_markStore.f,laws_markVolS.f,laws_markArena.f,laws_markKnotS.f];refine evx_bind (markVX v [] a h0 (by omega) (by simp;omega)) fun t e=>?_;subst e;refine evx_bind (Q:=fun t=>t = (ndK l (a + 2 * v.length),mkK l (a + 2 * v.length))) (evx_bind (markKX l [] (a + 2 * v.length) hx (by omega) (by omega) (by simp;omega)) fun t e=>evx_some (by rw [e];rfl)) fun t e=>evx_some ?_;subst e;rfl
 simp only [laws_heldStore.f,laws_heldVolS.f,laws_heldArena.f,laws_heldKnotS.f];refine evx_bind (heldVX v [] a h0 (by omega) (by simp;omega)) fun t e=>evx_neg (by omega) ?_;subst e;refine evx_bind (Q:=fun t=>t = ndK l (a + 2 * v.length)) (evx_bind (heldKX l [] (a + 2 * v.length) hx (by omega) (by omega) (by simp;omega)) fun t e=>evx_neg (by omega) (evx_some e)) fun t e=>evx_neg (by omega) (evx_some e)
end Go.Proofs.YteideicglgpfiaaGreat.M2.Mp

namespace Go.Proofs.YteideicglgpfiaaGreat.Pu
set_option linter.unusedVariables false
set_option linter.unusedSimpArgs false
open Go.RowKit Go.Proofs.YteideicglgpfiaaGreat.PK Go.Proofs.YteideicglgpfiaaGreatW.PrintWords
theorem rdLR_nat (l : List S56) (i : Nat) : rd_T56 l (i : Int) = l.getD i z56:=rfl
theorem rdIR_nat (l : List S52) (i : Nat) : rd_T52 l (i : Int) = l.getD i z52:=rfl
def toRc (x : S56) : S52:=⟨x.f0,x.f1,x.f2,x.f3⟩
theorem toRecS_ev (l : List S56) (h : l.length ≤ 1048576) : Ev (fun k=>laws_toRecS.f k l) (l.map toRc):=by
 have h1:=ev_fill_all (E:=fun _ i=>(laws_toRec.f (rd_T56 l i).f0 (rd_T56 l i).f1 (rd_T56 l i).f2 (rd_T56 l i).f3).bind fun bt=>some (⟨bt.1,bt.2.1,bt.2.2.1,bt.2.2.2⟩ : S52)) (l:=l) (z:=z56) (g:=toRc) (xs:=List.replicate l.length z52) (L:=fun k xs i=>laws_toRecS.l0 k l xs i) (by omega) (fun k xs i=>by
  simp only [laws_toRecS.l0,Option.bind_assoc,Option.bind_some]) (fun i hi=>by rw [rdLR_nat];exact Ev.now _) (by simp)
 refine ev_ext (fun k=>?_) h1;unfold laws_toRecS.f;rw [if_pos (by omega),if_pos (by simp;omega)];simp
theorem eqRecS_ev (l : List S52) (hn : l.length ≤ 9223372036854775807) : Ev (fun k=>laws_eqRecS.f k l l) true:=by
 have h1:=ev_all (n:=l.length) (m:=l.length) (L:=fun k i=>laws_eqRecS.l0 k l l i) (E:=fun _ i=>laws_eqRec.f (rd_T52 l i).f0 (rd_T52 l i).f1 (rd_T52 l i).f2 (rd_T52 l i).f3 (rd_T52 l i).f0 (rd_T52 l i).f1 (rd_T52 l i).f2 (rd_T52 l i).f3) hn (Nat.le_refl _) (fun k i=>by simp only [laws_eqRecS.l0]) (fun i _=>ev_const (by unfold laws_eqRec.f;simp only [if_true])) l.length 0 (by omega);unfold laws_eqRecS.f;simp only [if_true];exact h1
end Go.Proofs.YteideicglgpfiaaGreat.Pu

namespace Go.Proofs.YteideicglgpfiaaGreat.M2.Mp
set_option linter.unusedVariables false
set_option linter.unusedSimpArgs false
open Go.RowKit Go.Proofs.YteideicglgpfiaaGreat.PK Go.Proofs.YteideicglgpfiaaGreatW.PrintWords Go.Proofs.YteideicglgpfiaaGreat.Pu
theorem markRX : ∀ (d i : Nat) (h : List S52) (a : Int),i + d = h.length → 0 ≤ a → a + 4 * d ≤ 4611686018427387904 → h.length ≤ 1048576 → EvX (fun k=>laws_markRecS.c2 k a (i : Int) h) (fun r=>a ≤ r.1):=by
 intro d
 induction d with
 | zero =>
  intro i h a hi h0 h1 h2;exact evx_step (fun k=>by rw [laws_markRecS.c2]) (evx_neg (by omega) (evx_some (Int.le_refl _)))
 | succ d ih =>
  intro i h a hi h0 h1 h2
  have g : ∀ x : S52,rd_T52 (h.set i x) (i : Int) = x:=fun x=>by
   show (h.set i x).getD i z52 = x;rw [List.getD_eq_getElem?_getD,List.getElem?_set_self (by omega)];rfl
  refine evx_step (fun k=>by rw [laws_markRecS.c2]) ?_;simp only [Int.toNat_natCast,g,List.set_set,List.length_set];rw [m64i (x:=a + 1) (by omega) (by omega),m64i (x:=a + 1 + 1) (by omega) (by omega),m64i (x:=a + 1 + 1 + 1) (by omega) (by omega),m64i (x:=a + 1 + 1 + 1 + 1) (by omega) (by omega),m64 (n:=h.length) (by omega) (by omega)];refine evx_pos (by omega) (evx_pos (by omega) (evx_pos (by omega) (evx_pos (by omega) (evx_pos (by omega) (evx_pos (by omega) (evx_pos (by omega) (evx_pos (by omega) (evx_pos (by omega) ?_))))))));exact evx_mono (ih (i + 1) (h.set i _) (a + 1 + 1 + 1 + 1) (by rw [List.length_set];omega) (by omega) (by omega) (by rw [List.length_set];omega)) fun r hr=>by omega
theorem fnExactEnterAllX (v : List S71) (l : List S79) (n : Int) (L : List S56) (hv : v.length ≤ maxLen) (hl : l.length ≤ maxLen) (hx : ∀ x ∈ l,x.f1.length ≤ maxLen) (hL : L.length ≤ maxLen) : EvX (fun k=>laws_FnExactEnterAll.f k v l n L) (fun r=>r = true):=by
 simp only [laws_FnExactEnterAll.f];obtain ⟨r,hr,hra,hq⟩:=store_start (n:=n) (a:=1048576) (by omega) (by omega) hv hl hx;refine evx_bind (Q:=fun t=>t = r) ⟨_,ev_rel (c:=id) hr (fun k r hh m hm=>laws_szStore.rel k v l n 1048576 r hh m hm),rfl⟩ fun t1 e1=>?_;subst e1;refine evx_ite (fun _=>evx_some rfl) (fun h0=>?_);obtain ⟨g1,g2,g3,g4,g5⟩:=hq (by omega);unfold maxLen at hL;have hto : EvX (fun k=>laws_toStore.f k v l n) (fun r=>r = (v.map toVl,toA l,n)):=⟨_,ev_rel g1 (fun k r hh m hm=>laws_toStore.rel k v l n r hh m hm),rfl⟩;generalize v.map toVl = V at g3 hto;generalize toA l = A at g4 g5 hto;refine evx_bind (Q:=fun t=>t = -1 ∨ t = t1 - (L.length : Int) ∧ 0 ≤ t) ?_ fun t2 e2=>?_
 ·simp only [laws_szRecS.f];rw [m64i (by omega) (by omega)];exact evx_ite (fun _=>evx_some (.inl rfl)) (fun h=>evx_some (.inr ⟨rfl,by omega⟩))
 refine evx_ite (fun _=>evx_some rfl) (fun h1=>?_);have hn : L.length ≤ 1048576:=by omega
 have htr : EvX (fun k=>laws_toRecS.f k L) (fun r=>r = L.map toRc):=⟨_,ev_rel (toRecS_ev L hn) (fun k r hh m hm=>laws_toRecS.rel k L r hh m hm),rfl⟩;have hln : (L.map toRc).length ≤ 1048576:=by rw [List.length_map];exact hn
 generalize L.map toRc = R at hln htr;obtain ⟨z1,z2,z3⟩:=allR_small R V A n g3 g4 g5;refine evx_bind hto fun t3 e3=>?_;subst e3;refine evx_bind htr fun t4 e4=>?_;subst e4;refine evx_bind (sAllBig t4 V A n hln g3 g4 g5) fun t5 e5=>?_;subst e5;refine evx_bind hto fun t6 e6=>?_;subst e6;refine evx_bind htr fun t7 e7=>?_;subst e7;refine evx_bind (iAllBig t7 V A n hln g3 g4 g5) fun t8 e8=>?_;subst e8;have same:=eqStoreX (allR t7 V A n).1 (allR t7 V A n).2.1 (allR t7 V A n).2.2.1 z1 z2 z3;refine evx_bind same fun t9 e9=>evx_pos e9 (evx_pos (by simp) ?_);refine evx_bind hto fun t10 e10=>?_;subst e10;refine evx_bind (eqStoreX V A n g3 g4 g5) fun t11 e11=>evx_pos e11 ?_;refine evx_bind htr fun t12 e12=>?_;subst e12;refine evx_bind (Q:=fun r=>r = true) ⟨_,ev_rel (c:=id) (eqRecS_ev t12 (by omega)) (fun k r hh m hm=>laws_eqRecS.rel k t12 t12 r hh m hm),rfl⟩ fun t13 e13=>evx_pos e13 ?_;obtain ⟨m1,_,m3⟩:=markStoreX V A n 1 (by omega) (by omega) g5 (by omega) (by omega);have m4:=ndK_le A (1 + 2 * V.length) g5;refine evx_bind m1 fun t14 e14=>?_;refine evx_bind (Q:=fun r=>0 ≤ r.1) ?_ fun t15 e15=>evx_neg (by omega) ?_
 ·rw [e14];simp only [laws_markRecS.f];exact evx_mono (markRX t12.length 0 t12 _ (by omega) m3 (by show ndK _ _ + _ ≤ _;omega) hln) fun r hr=>Int.le_trans m3 hr
 refine evx_bind same fun t16 e16=>evx_pos e16 (evx_pos (by simp) ?_);obtain ⟨q1,q2,q3⟩:=markStoreX (allR t12 V A n).1 (allR t12 V A n).2.1 (allR t12 V A n).2.2.1 1 (by omega) (by omega) z3 (by omega) (by omega);refine evx_bind q1 fun t17 e17=>?_;subst e17;refine evx_bind q2 fun t18 e18=>evx_neg (by omega) (evx_pos (by rw [e18]) ?_);refine evx_bind hto fun t19 e19=>?_;subst e19;refine evx_bind htr fun t20 e20=>?_;subst e20;refine evx_bind (iAllBig t20 V A n hln g3 g4 g5) fun t21 e21=>?_;subst e21;refine evx_bind same fun t22 e22=>evx_pos e22 (evx_pos (by simp) ?_);exact evx_bind q2 fun t23 e23=>evx_neg (by omega) (evx_pos (by rw [e23]) (evx_some rfl))
end Go.Proofs.YteideicglgpfiaaGreat.M2.Mp

/- From a function's contract to a call of it from without: what it answers; what was there stays. -/
namespace Go.Proofs.YteideicglgpfiaaGreat.M2
open Go Go.RowKit
set_option linter.unusedVariables false
section
variable {Ty : Type} {D : Ty → Type} {P : Program} {K : Kit Ty D}
theorem hp0 (k : Nat) : hpOf ([] : List (Blk Ty D)) k = none := rfl
theorem blk0 (nm : Nm) : blkAt K (hpOf ([] : List (Blk Ty D))) nm = none := by
  unfold blkAt; cases nm.sub <;> rfl
theorem own0 (γ : Nm → Hdr) (g : Nat) (nm : Nm) : ¬ Own K (hpOf ([] : List (Blk Ty D))) γ g nm := by
  rintro ⟨⟨b, hb⟩, _⟩; rw [blk0] at hb; cases hb
/-- The memory of a call from without. -/
def Out (Ty : Type) (D : Ty → Type) (w : World) : Mem Ty D := ⟨w, fun _ g => g < w.heap.size, hpOf [], fun _ => (none, 0), (· < ([] : List (Blk Ty D)).length)⟩
theorem top {f : FuncId} {ins : List (AV Ty D)} {v : Value} (h : Contract P K f ins [] (.sc v) [] []) (w : World) (args : Array Value) (hsz : args.size = ins.length)
    (ha : ∀ (k : Nat) u x, args[k]? = some u → ins[k]? = some x → x ≠ .dd ∧ Va K (Out Ty D w) u x) : Calls P f args w fun e w' => e = .returned v ∧ Below w.heap.size w w' := by
  have hl : Lay K (Out Ty D w) := by
    refine ⟨fun nm b hb => ?_, fun g nm nm' h => (own0 _ _ _ h).elim, fun g hg => hg, fun g hg => ⟨hg, fun nm => own0 _ _ _⟩, fun id b hb => ?_⟩
    · rw [show blkAt K (Out Ty D w).H nm = none from blk0 nm] at hb; cases hb
    · cases hb
  refine (h.2.2 w (fun _ g => g < w.heap.size) (fun _ => (none, 0)) args hl (fun g hg _ => hg) hsz ha).mono fun e w' he => ?_
  obtain ⟨u, γ', he, _, _, hv, hk, _⟩ := he
  have hu : u = v := hv.1
  exact ⟨by rw [he, hu], hk.os, hk.tape, hk.output, hk.size, fun k hk' => hk.block k hk' (fun ⟨nm, ho⟩ => own0 _ _ _ ho)⟩
/-- A row of scalars that was there. -/
theorem fz_flat {w : World} {t : Ty} {l : List (D t)} {n : D t → Value} (hc : K.cells t = 1) (he : ∀ x, K.emb t x = [.sc (n x)]) (hs : ∀ x, scalar (n x) = true) {g o c len : Nat} (hg : g < w.heap.size) (hl : l.length = len) (hle : len ≤ c)
    (hcell : ∀ (i : Nat) x, l[i]? = some x → w.cell? ⟨g, o + i, none⟩ = some (n x)) (q : Nat) : Fz K w (fun g => g < w.heap.size) (.slice (some ⟨g, o, none⟩) len c) (.row q t l) := by
  subst hl
  refine ⟨1, _, _, rfl, hle, .inr ⟨g, o, rfl, hg, fun i x hx j cc hj => ?_⟩⟩
  rw [he] at hj
  cases j with
  | succ j => simp at hj
  | zero =>
    simp at hj; subst hj
    refine ⟨n x, ?_, rfl, hs x⟩
    rw [hc, ← hcell i x hx]; congr 2; omega
theorem fz_nil {w : World} {S : Nat → Prop} {t : Ty} {a : Option Addr} {c : Nat} (q : Nat) : Fz K w S (.slice a 0 c) (.row q t []) := ⟨1, a, c, rfl, Nat.zero_le _, .inl rfl⟩
end
end Go.Proofs.YteideicglgpfiaaGreat.M2

namespace Go.Proofs.YteideicglgpfiaaGreat.M2
open Go Go.RowKit
set_option linter.unusedVariables false
set_option linter.unusedSimpArgs false
section
variable {Ty : Type} {D : Ty → Type} {P : Program} {K : Kit Ty D}
def CellsAt (K : Kit Ty D) (w : World) (d : Nat) (cs : List Value) (av : List (AV Ty D)) : Prop:=cs.length = av.length ∧ ∀ (j : Nat) u c,cs[j]? = some u → av[j]? = some c → FzC K w (fun g=>g < w.heap.size) d u c
def OpM {α : Type} (P : Program) (K : Kit Ty D) (t : TypeId) (d : Nat) (em : α → List (AV Ty D)) (wf : α → Prop) : Prop :=
 ∀ (H : Type) (enc : TypeId × Value → H) (w : World) (base : Nat) (spare : Nat → Bool) (held : Bool) (fuel : Nat) (cs : List Value) (x : DataW H × List MemPlace),
  DataW.trod enc P w base spare held fuel t cs = some x → ∃ y : α,CellsAt K w d cs (em y) ∧ wf y
theorem FzC.up {w : World} {S : Nat → Prop} : ∀ {d : Nat} {v : Value} {x : AV Ty D},FzC K w S d v x → FzC K w S (d + 1) v x:=by
 intro d
 induction d with
 | zero =>
  intro v x h;cases x with
  | sc u=>exact h
  | _=>exact h.elim
 | succ d ih =>
  intro v x h;cases x with
  | sc u=>exact h
  | row g t l =>
   obtain ⟨a,c,h1,h2,h3⟩:=h;refine ⟨a,c,h1,h2,h3.imp id ?_⟩;rintro ⟨g,o,q1,q2,q3⟩;refine ⟨g,o,q1,q2,fun i x hx j c hc=>?_⟩;obtain ⟨u,hu,hf⟩:=q3 i x hx j c hc;exact ⟨u,hu,ih hf⟩
  | _=>exact h.elim
theorem CellsAt.up {w : World} {d : Nat} {cs : List Value} {av : List (AV Ty D)} (h : CellsAt K w d cs av) : CellsAt K w (d + 1) cs av:=⟨h.1,fun j u c hu hc=>(h.2 j u c hu hc).up⟩
theorem OpM.up {α : Type} {t : TypeId} {d : Nat} {em : α → List (AV Ty D)} {wf : α → Prop} (h : OpM P K t d em wf) : OpM P K t (d + 1) em wf:=fun H enc w base spare held fuel cs x hx=>by
 obtain ⟨y,h1,h2⟩:=h H enc w base spare held fuel cs x hx;exact ⟨y,h1.up,h2⟩
theorem cells_one {w : World} {d : Nat} {v u : Value} (hv : v = u) (hs : scalar u = true) : CellsAt K w d [v] [.sc u]:=by
 refine ⟨rfl,fun j x c hx hc=>?_⟩;cases j with
 | succ j=>simp at hx
 | zero =>
  simp at hx hc;subst hx hc;cases d <;> exact ⟨hv,hs⟩
theorem op_int {t : TypeId} {k : IntKind} (hu : P.underlying t = some (.int k)) : OpM P K t 0 (fun n : Int=>[.sc (.int k n)]) (fun n=>(Lit.int k n).wf = true):=by
 intro H enc w base spare held fuel cs x h;obtain ⟨n,rfl,_,hw⟩:=DataW.trod_int hu h;exact ⟨n,cells_one rfl rfl,hw⟩
theorem op_bool {t : TypeId} (hu : P.underlying t = some .bool) : OpM P K t 0 (fun b : Bool=>[.sc (.bool b)]) (fun _=>True):=by
 intro H enc w base spare held fuel cs x h;obtain ⟨n,rfl,_⟩:=DataW.trod_bool hu h;exact ⟨n,cells_one rfl rfl,trivial⟩
theorem op_string {t : TypeId} (hu : P.underlying t = some .string) : OpM P K t 0 (fun s : ByteArray=>[.sc (.string s)]) (fun s=>s.size ≤ maxLen):=by
 intro H enc w base spare held fuel cs x h;obtain ⟨n,rfl,_,hw⟩:=DataW.trod_string hu h;exact ⟨n,cells_one rfl rfl,hw⟩
theorem choose_list {α : Type} {Q : Nat → α → Prop} : ∀ (n : Nat),(∀ i,i < n → ∃ y,Q i y) → ∃ ys : List α,ys.length = n ∧ ∀ i y,ys[i]? = some y → Q i y
 | 0,_=>⟨[],rfl,fun i y h=>by simp at h⟩
 | n + 1,h=>by
  obtain ⟨ys,hl,hq⟩:=choose_list n (fun i hi=>h i (by omega));obtain ⟨y,hy⟩:=h n (by omega);refine ⟨ys ++ [y],by simp [hl],fun i z hz=>?_⟩;rcases Nat.lt_or_ge i ys.length with hi | hi
  ·rw [List.getElem?_append_left hi] at hz;exact hq i z hz
  rw [List.getElem?_append_right hi] at hz
  have hi2 : i - ys.length = 0:=by
   have:=(List.getElem?_eq_some_iff.1 hz).1;simp at this;omega
  rw [hi2] at hz;have : i = n:=by omega
  subst this;simp at hz;subst hz;exact hy
theorem adds (a : Addr) (m n : Nat) : (a.add m).add n = a.add (m + n):=by
 unfold Addr.add
 by_cases h1 : m = 0 <;> by_cases h2 : n = 0 <;> simp_all [Nat.add_assoc]
theorem op_slice {t e : TypeId} {te : Ty} {d : Nat} {wf : D te → Prop} (hu : P.underlying t = some (.slice e)) (hc : P.cellsOf e = K.cells te) (hlen0 : ∀ x,(K.emb te x).length = K.cells te) (hpos : 0 < K.cells te) (ho : OpM P K e d (K.emb te) wf) :
  OpM P K t (d + 1) (fun l : List (D te)=>[.row 0 te l]) (fun xs=>xs.length ≤ maxLen ∧ ∀ x ∈ xs,wf x):=by
 intro H enc w base spare held fuel cs x h;rcases DataW.trod_slice hu h with ⟨rfl,_⟩ | ⟨a,len,cap,elems,rest,n,_,rfl,_,hb,hl,hm,hlen,hel,_,_⟩
 ·refine ⟨[],⟨rfl,fun j u c hx hcc=>?_⟩,by simp,fun x hx=>absurd hx (by simp)⟩;cases j with
  | succ j=>simp at hx
  | zero =>
   simp at hx hcc;subst hx hcc;exact ⟨none,0,rfl,Nat.le_refl _,.inl rfl⟩
 have each : ∀ i,i < len → ∃ y : D te,∃ c : List Value,(CellsAt K w d c (K.emb te y) ∧ ∀ j u,c[j]? = some u → w.cell? (a.add (i * K.cells te + j)) = some u) ∧ wf y:=by
  intro i hi;have h1:=hel i hi;rw [List.getElem?_eq_getElem (by omega),Option.bind_eq_some_iff,hc] at h1;obtain ⟨c,h2,h3⟩:=h1;obtain ⟨_,hcl,hcell⟩:=World.cells?_some h2;obtain ⟨y,hk,hw⟩:=ho H enc w base spare held n c _ h3;refine ⟨y,c,⟨hk,fun j u hj=>?_⟩,hw⟩;have hjl : j < c.length:=(List.getElem?_eq_some_iff.1 hj).1;rw [← adds,hcell j (by omega),hj]
 obtain ⟨ys,hyl,hys⟩:=choose_list len each;have hml : len ≤ maxLen:=Nat.le_trans hl hm;refine ⟨ys,⟨rfl,fun j u c hx hcc=>?_⟩,by rw [hyl];exact hml,fun y hy=>?_⟩
 ·cases j with
  | succ j=>simp at hx
  | zero =>
   simp at hx hcc;subst hx hcc;refine ⟨some a,cap,by rw [hyl],by rw [hyl];exact hl,?_⟩
   by_cases h0 : ys = []
   ·exact .inl h0
   refine .inr ?_;have hl0 : 0 < ys.length:=List.length_pos_iff.2 h0
   have cell : ∀ (i : Nat) y,ys[i]? = some y → ∀ (j : Nat) cc,(K.emb te y)[j]? = some cc → ∃ u,w.cell? (a.add (i * K.cells te + j)) = some u ∧ FzC K w (fun g=>g < w.heap.size) d u cc:=by
    intro i y hy j cc hcc;obtain ⟨c,⟨hk,hcell⟩,_⟩:=hys i y hy;have hj : j < c.length:=by rw [hk.1];exact (List.getElem?_eq_some_iff.1 hcc).1
    exact ⟨c[j],hcell j _ (List.getElem?_eq_getElem hj),hk.2 j _ cc (List.getElem?_eq_getElem hj) hcc⟩
   obtain ⟨u0, hu0, _⟩ := cell 0 ys[0] (List.getElem?_eq_getElem hl0) 0 ((K.emb te ys[0])[0]'(by rw [hlen0]; exact hpos)) (List.getElem?_eq_getElem _)
   have hsp : a.spot = none:=by
    have h1:=World.cell?_spot hu0;have h2 : (a.add (0 * K.cells te + 0)) = a:=by simp [Addr.add]
    rw [h2] at h1;exact h1
   obtain ⟨g,o,sp⟩:=a;simp only at hsp;subst hsp;have hadd : ∀ j,(⟨g,o,none⟩ : Addr).add j = ⟨g,o + j,none⟩:=fun j=>by unfold Addr.add;split <;> simp_all
   have hg : g < w.heap.size:=by
    rw [hadd] at hu0;unfold World.cell? at hu0;rcases Nat.lt_or_ge g w.heap.size with h | h
    ·exact h
    simp [Array.getElem?_eq_none h] at hu0
   refine ⟨g,o,rfl,hg,fun i y hy j cc hcc=>?_⟩;obtain ⟨u,h1,h2⟩:=cell i y hy j cc hcc;rw [hadd] at h1;exact ⟨u,h1,h2⟩
 obtain ⟨j,hj,he⟩:=List.getElem_of_mem hy;obtain ⟨_,_,hw⟩:=hys j y (by rw [List.getElem?_eq_getElem hj,he]);exact hw
def OpF {α : Type} (P : Program) (K : Kit Ty D) (fs : List Field) (off d n : Nat) (em : α → List (AV Ty D)) (wf : α → Prop) : Prop :=
 ∀ (H : Type) (enc : TypeId × Value → H) (w : World) (base : Nat) (spare : Nat → Bool) (held : Bool) (fuel : Nat) (cs : List Value),cs.length = off + n →
  (∀ f ∈ fs,∃ x,DataW.trod enc P w base spare held fuel f.type ((cs.drop f.offset).take (P.cellsOf f.type)) = some x) → ∃ y : α,CellsAt K w d (cs.drop off) (em y) ∧ wf y
theorem opF_one {α : Type} {f : Field} {off d n : Nat} {em : α → List (AV Ty D)} {wf : α → Prop} (hoff : f.offset = off) (hc : P.cellsOf f.type = n) (ho : OpM P K f.type d em wf) : OpF P K [f] off d n em wf:=by
 intro H enc w base spare held fuel cs hl h;obtain ⟨x,hx⟩:=h f (by simp);obtain ⟨y,hk,hw⟩:=ho H enc w base spare held fuel _ x hx;rw [hoff,hc,List.take_of_length_le (by rw [List.length_drop];omega)] at hk;exact ⟨y,hk,hw⟩
theorem CellsAt.app {w : World} {d : Nat} {c1 c2 : List Value} {a1 a2 : List (AV Ty D)} (h1 : CellsAt K w d c1 a1) (h2 : CellsAt K w d c2 a2) : CellsAt K w d (c1 ++ c2) (a1 ++ a2):=by
 refine ⟨by rw [List.length_append,List.length_append,h1.1,h2.1],fun j u c hu hc=>?_⟩;rcases Nat.lt_or_ge j c1.length with h | h
 ·rw [List.getElem?_append_left h] at hu;rw [List.getElem?_append_left (by rw [← h1.1];exact h)] at hc;exact h1.2 j u c hu hc
 rw [List.getElem?_append_right h] at hu;rw [List.getElem?_append_right (by rw [← h1.1];exact h),← h1.1] at hc;exact h2.2 _ u c hu hc
theorem opF_cons {α β : Type} {f : Field} {fs : List Field} {off d n m : Nat} {ea : α → List (AV Ty D)} {eb : β → List (AV Ty D)} {wa : α → Prop} {wb : β → Prop} (hoff : f.offset = off) (hc : P.cellsOf f.type = n) (ho : OpM P K f.type d ea wa) (hr : OpF P K fs (off + n) d m eb wb) :
  OpF P K (f :: fs) off d (n + m) (fun p : α × β=>ea p.1 ++ eb p.2) (fun p=>wa p.1 ∧ wb p.2):=by
 intro H enc w base spare held fuel cs hl h;obtain ⟨x,hx⟩:=h f (by simp);obtain ⟨y,hk,hw⟩:=ho H enc w base spare held fuel _ x hx;obtain ⟨z,hk2,hw2⟩:=hr H enc w base spare held fuel cs (by omega) (fun g hg=>h g (List.mem_cons_of_mem _ hg));rw [hoff,hc] at hk;refine ⟨(y,z),?_,hw,hw2⟩;have:=hk.app hk2;rw [← List.drop_drop,List.take_append_drop] at this;exact this
theorem op_tuple {α : Type} {t : TypeId} {fs : List Field} {d n : Nat} {em : α → List (AV Ty D)} {wf : α → Prop} (hu : P.underlying t = some (.struct fs.toArray)) (hc : P.cellsOf t = n) (ho : OpF P K fs 0 d n em wf) : OpM P K t d em wf:=by
 intro H enc w base spare held fuel cs x h;obtain ⟨xs,m,_,_,hl,hlen,hf⟩:=DataW.trod_struct hu h
 obtain ⟨y,hk,hw⟩:=ho H enc w base spare held m cs (by omega) (fun fl hfl=>by
  obtain ⟨i,hi,he⟩:=List.getElem_of_mem hfl;have h1:=hf i fl (by simpa using (List.getElem?_eq_getElem hi).trans (congrArg some he));have hlen2 : xs.length = fs.length:=by simpa using hlen
  exact ⟨xs[i]'(by omega), by rw [h1, List.getElem?_eq_getElem]⟩)
 exact ⟨y,by simpa using hk,hw⟩
theorem op_iso {α β : Type} {t : TypeId} {d : Nat} {em : α → List (AV Ty D)} {em' : β → List (AV Ty D)} {wf : α → Prop} {wf' : β → Prop} (g : α → β) (h : OpM P K t d em wf) (he : ∀ y,em' (g y) = em y) (hw : ∀ y,wf y → wf' (g y)) : OpM P K t d em' wf':=fun H enc w base spare held fuel cs x hx=>by
 obtain ⟨y,h1,h2⟩:=h H enc w base spare held fuel cs x hx;exact ⟨g y,by rw [he];exact h1,hw y h2⟩
theorem va_ag {w : World} {d : Nat} {cs : List Value} {av : List (AV Ty D)} (h : CellsAt K w d cs av) : Va K (Out Ty D w) (.agg cs.toArray) (.ag av):=by
 refine ⟨cs,rfl,h.1,fun j u c hu hc=>?_⟩;have hf:=h.2 j u c hu hc;cases d with
 | zero =>
  cases c with
  | sc x=>exact ⟨by simp,hf⟩
  | _=>exact hf.elim
 | succ d =>
  cases c with
  | sc x=>exact ⟨by simp,hf⟩
  | row g t l=>exact ⟨by simp,⟨d + 1,hf⟩⟩
  | _=>exact hf.elim
theorem va_row {w : World} {d : Nat} {v : Value} {t : Ty} {l : List (D t)} (h : CellsAt K w d [v] [.row 0 t l]) : Va K (Out Ty D w) v (.row 0 t l):=⟨d,h.2 0 v _ rfl rfl⟩
end
end Go.Proofs.YteideicglgpfiaaGreat.M2

namespace Go.Proofs.YteideicglgpfiaaGreat.fnExactEnterAll
set_option linter.unusedVariables false
set_option linter.unusedSimpArgs false
open Go Go.ChangeShapes Go.WideShapes Go.ChangeAt Go.RowKit
open Go.Proofs.YteideicglgpfiaaGreat.PK
open Go.Proofs.YteideicglgpfiaaGreat.M2 (top Va Vc Out kit AV Ty D Contract OpM op_int op_bool op_string op_slice op_tuple op_iso opF_one opF_cons va_ag va_row)
theorem own : ownKnob Tryz.prog.godebug = none:=by kernel_rfl
theorem laidOut : laidOutB Tryz.prog = true:=by kernel_rfl
theorem oE71 : OpM Tryz.prog kit 71 0 (kit.emb .t71) (fun x : S71=>True):=op_iso (fun p : Int × Int=>(⟨p.1,p.2⟩ : S71)) (op_tuple Tryz.underlying71 (by kernel_rfl) (opF_cons (n:=1) rfl (by kernel_rfl) (op_int Tryz.underlying3) (opF_one (n:=1) rfl (by kernel_rfl) (op_int Tryz.underlying3)))) (fun _=>rfl) (fun _ h=>trivial)
theorem oS22 : OpM Tryz.prog kit 22 1 (fun l : List (M2.D .t71)=>[AV.row (Ty:=M2.Ty) (D:=M2.D) 0 M2.Ty.t71 l]) (fun xs=>xs.length ≤ maxLen ∧ ∀ x ∈ xs,True):=op_slice (te:=M2.Ty.t71) Tryz.underlying22 (by kernel_rfl) (fun _=>rfl) (by decide) oE71
theorem oE3 : OpM Tryz.prog kit 3 0 (kit.emb .t3) (fun x : Int=>True):=op_iso (fun x : Int=>x) (op_int Tryz.underlying3) (fun _=>rfl) (fun _ h=>trivial)
theorem oS77 : OpM Tryz.prog kit 77 1 (fun l : List (M2.D .t3)=>[AV.row (Ty:=M2.Ty) (D:=M2.D) 0 M2.Ty.t3 l]) (fun xs=>xs.length ≤ maxLen ∧ ∀ x ∈ xs,True):=op_slice (te:=M2.Ty.t3) Tryz.underlying77 (by kernel_rfl) (fun _=>rfl) (by decide) oE3
theorem oE79 : OpM Tryz.prog kit 79 1 (kit.emb .t79) (fun x : S79=>x.f1.length ≤ maxLen):=op_iso (fun p : Bool × List Int=>(⟨p.1,p.2⟩ : S79)) (op_tuple Tryz.underlying79 (by kernel_rfl) (opF_cons (n:=1) rfl (by kernel_rfl) (op_bool Tryz.underlying4).up (opF_one (n:=1) rfl (by kernel_rfl) oS77))) (fun _=>rfl) (fun _ h=>h.2.1)
theorem oS23 : OpM Tryz.prog kit 23 2 (fun l : List (M2.D .t79)=>[AV.row (Ty:=M2.Ty) (D:=M2.D) 0 M2.Ty.t79 l]) (fun xs=>xs.length ≤ maxLen ∧ ∀ x ∈ xs,x.f1.length ≤ maxLen):=op_slice (te:=M2.Ty.t79) Tryz.underlying23 (by kernel_rfl) (fun _=>rfl) (by decide) oE79
theorem oE56 : OpM Tryz.prog kit 56 0 (kit.emb .t56) (fun x : S56=>True):=op_iso (fun p : Int × Int × Int × Int=>(⟨p.1,p.2.1,p.2.2.1,p.2.2.2⟩ : S56)) (op_tuple Tryz.underlying56 (by kernel_rfl) (opF_cons (n:=1) rfl (by kernel_rfl) (op_int Tryz.underlying3) (opF_cons (n:=1) rfl (by kernel_rfl) (op_int Tryz.underlying3) (opF_cons (n:=1) rfl (by kernel_rfl) (op_int Tryz.underlying3) (opF_one (n:=1) rfl (by kernel_rfl) (op_int Tryz.underlying3)))))) (fun _=>rfl) (fun _ h=>trivial)
theorem oS28 : OpM Tryz.prog kit 28 1 (fun l : List (M2.D .t56)=>[AV.row (Ty:=M2.Ty) (D:=M2.D) 0 M2.Ty.t56 l]) (fun xs=>xs.length ≤ maxLen ∧ ∀ x ∈ xs,True):=op_slice (te:=M2.Ty.t56) Tryz.underlying28 (by kernel_rfl) (fun _=>rfl) (by decide) oE56
set_option maxRecDepth 100000 in
set_option maxHeartbeats 4000000 in
theorem lifted (os : Os) (started : os.Started) (H : Type) (enc : TypeId × Value → H) :
  ReturnsInHanded {} Tryz.checked os 3 .any (Rows.fnExactEnterAllSpec.pre6 enc Tryz.prog Tryz.f3 Rows.fnExactEnterAllRow.domain false) (Rows.fnExactEnterAllSpec.post enc Tryz.prog Tryz.f3 false true false false):=by
 refine returnsInHanded_of_change_sized (C:=Tryz.checked) own started (by kernel_rfl) Tryz.func3
  (ChangeSpec.witness6 (enc:=enc) (C:=Tryz.checked) false ⟨#[],#[.agg #[.slice none 0 0,.slice none 0 0,.int .i64 0],.slice none 0 0],[]⟩ 8 (by kernel_rfl) (by kernel_rfl) (by kernel_rfl) (by kernel_rfl)) ?_
 intro W base args ds gs before hval0 hW hcnd hsz0 _;have hval : ∀ (j : Nat) t v,Tryz.f3.params[j]? = some t → args[j]? = some v → Value.okWide Tryz.prog W .any base t v:=hval0;have hW':=hW;obtain ⟨p,q,hA0,hV,rfl,hfz,hnd⟩:=hW;have hA : DataW.TrodAll enc Tryz.prog W 0 (fun _=>true) true Tryz.f3.params.toList args.toList ds p:=hA0;rw [Tryz.params3] at hA hval;obtain ⟨v0,vs0,d0,ds0,p0,q0,hargs,rfl,rfl,h0,r0⟩:=trodAll_cons hA;obtain ⟨v1,vs1,d1,ds1,p1,q1,rfl,rfl,rfl,h1,r1⟩:=trodAll_cons r0;obtain ⟨rfl,rfl,rfl⟩:=trodAll_nil r1;obtain rfl : args = #[v0,v1]:=by cases args;simp_all
 obtain ⟨rfl,rfl⟩:=trodVars_none hV;have k0:=h0;have lt0 : ∀ x ∈ p0,x.block < W.heap.size:=by obtain ⟨m,hm⟩:=k0;exact DataW.trod_lt m _ _ _ hm
 obtain ⟨fu0,hf0⟩:=h0;obtain ⟨y0,K0,Y0⟩:=(op_tuple Tryz.underlying27 (by kernel_rfl) (opF_cons (n:=1) rfl (by kernel_rfl) oS22.up (opF_cons (n:=1) rfl (by kernel_rfl) (op_tuple Tryz.underlying25 (by kernel_rfl) (opF_one (n:=1) rfl (by kernel_rfl) oS23)) (opF_one (n:=1) rfl (by kernel_rfl) (op_int Tryz.underlying3).up.up)))) H enc W 0 (fun _=>true) true fu0 _ _ hf0;obtain ⟨cs0,rfl,sz0⟩:=okWide_struct Tryz.underlying27 (hval 0 27 v0 rfl rfl);have k1:=h1;have lt1 : ∀ x ∈ p1,x.block < W.heap.size:=by obtain ⟨m,hm⟩:=k1;exact DataW.trod_lt m _ _ _ hm
 obtain ⟨fu1,hf1⟩:=h1;obtain ⟨y1,K1,Y1⟩:=oS28 H enc W 0 (fun _=>true) true fu1 _ _ hf1;obtain ⟨a1,len1,cap1,rfl⟩:=okWide_slice Tryz.underlying28 (hval 1 28 v1 rfl rfl);obtain ⟨k,hp⟩:=M2.Mp.evx_out (M2.Mp.fnExactEnterAllX y0.1 y0.2.1 y0.2.2 y1 (Y0.1.1) (Y0.2.1.1) (Y0.2.1.2) (Y1.1));have con : Contract Tryz.prog kit 3 [.ag [.row 0 .t71 y0.1,.row 0 .t79 y0.2.1,.sc (.int .i64 y0.2.2)],.row 0 .t56 y1] [] (.sc (.bool true)) [] []:=M2.laws_FnExactEnterAll.con k y0.1 y0.2.1 y0.2.2 y1 true hp
 refine (top con W #[.agg cs0,.slice a1 len1 cap1] rfl (fun j u x hu hx=>by
  match j,hu,hx with
  | 0,hu,hx=>simp only [List.getElem?_cons_zero,List.getElem?_cons_succ,List.getElem?_toArray,Option.some.injEq] at hu hx;subst hu hx;exact ⟨by simp,(va_ag (cs:=cs0.toList) K0)⟩
  | 1,hu,hx=>simp only [List.getElem?_cons_zero,List.getElem?_cons_succ,List.getElem?_toArray,Option.some.injEq] at hu hx;subst hu hx;exact ⟨by simp,(va_row K1)⟩
  | j + 2,hu,_=>simp at hu)).mono fun e W' ⟨he,bel⟩=>?_
 subst he;exact ⟨_,rfl,_,_,_,[],_,[],hW',trodAll_mk1 (shut_bool Tryz.underlying4 _),(trodAll_cons_mk (Below.trod laidOut (by kernel_rfl) (of_decide_eq_true (by kernel_rfl)) k0 bel lt0) (trodAll_cons_mk (Below.trod laidOut (by kernel_rfl) (of_decide_eq_true (by kernel_rfl)) k1 bel lt1) trodAll_mk0)),rfl,bel.frame _,fun h=>by cases h⟩
theorem over : Rows.fnExactEnterAllRow.holds Tryz.pinned (OpenSpec.ofChange Rows.fnExactEnterAllSpec) :=
 OpenClaim.holds_of_wide 3 Tryz.f3 rfl rfl rfl rfl rfl rfl rfl ⟨rfl,rfl,rfl,rfl,rfl⟩ rfl rfl rfl rfl rfl (by kernel_rfl) Tryz.func3 (by kernel_rfl)
  (of_decide_eq_true (by kernel_rfl)) (by unfold Func.isWrapper;first | (rw [if_pos (by decide +kernel)];kernel_rfl) | (rw [if_neg (by decide +kernel)];exact ⟨rfl,rfl⟩))
  (fun os started H enc _=>lifted os started H enc)
end Go.Proofs.YteideicglgpfiaaGreat.fnExactEnterAll
namespace Go.Proofs.YteideicglgpfiaaGreat
theorem fnExactEnterAll_holds : Rows.FnExactEnterAllSaid:=fnExactEnterAll.over
end Go.Proofs.YteideicglgpfiaaGreat
