/- FnExactReadOf: functions of the translation as Lean functions with what their calls come to, plain lemmas on them, and, at the end, the row. Parts of one proof, merged by a program of this session; each part's own sentence stands at its head. -/
import Derived.Laws.BitsLemmas
import Derived.Below
import Derived.ChangeArms
import Derived.DataReads
import Derived.Test.YtbbfkodckpfjcaaGreatMFnExactReadOfd
namespace Go.Proofs.YtbbfkodckpfjcaaGreat.M2
open Go Go.RowKit Go.Proofs.YtbbfkodckpfjcaaGreatW.PrintWords Go.Proofs.YtbbfkodckpfjcaaGreat.PK
set_option linter.unusedVariables false
set_option linter.unusedSimpArgs false
set_option maxHeartbeats 1600000
theorem laws_toIntS.rel_l (k : Nat) : (∀ x0 x3 x4 r,PK.laws_toIntS.l0 k x0 x3 x4 = some r → ∀ m,k ≤ m → laws_toIntS.c3 m x0 x4 x3 = some r):=by
 induction k using Nat.strongRecOn with
 | _ k ih =>
 have il0:=fun k' hk'=>(ih k' hk');clear ih;intro x0 x3 x4 r h m hm;cases k with
 | zero=>simp only [PK.laws_toIntS.l0] at h;cases h
 | succ k =>
  obtain ⟨m,rfl⟩ : ∃ m',m = m' + 1:=⟨m - 1,by omega⟩;rw [PK.laws_toIntS.l0] at h;rw [laws_toIntS.c3]
  try simp only [w64_eq,wu8_eq,gt_iff_lt,ge_iff_le,int_beq,fdiv33,fdiv45,bt_eq,tmodN,rdOfB,rdOfL] at h
  try simp only [shlR]
  try simp only [w64_eq,wu8_eq,gt_iff_lt,ge_iff_le,int_beq,fdiv33,fdiv45,bt_eq,tmodN,rdOfB,rdOfL,rdT3_eq,rdT5_eq,seq,maxI,minI,emp_eq,rdn139,rdn91,rdn104,rdn3,rdn119,rdn80,rdn128,rdn71,rdn75,rdn133,rdn5,rdn96,rdn68]
  refine (itE h (fun q h=>(itE h (fun q h=>(itE h (fun q h=>((fun h=>?_) (il0 _ (by omega) _ _ _ _ h m (by omega)))) (fun q h=>(noE h)))) (fun q h=>(noE h)))) (fun q h=>?_))
  all_goals clear il0
  all_goals (try cases h)
  all_goals (try simp only [*,if_true,if_false,↓reduceIte,Option.bind_some,List.length_cons,List.length_nil,List.length_append,Bool.not_true,Bool.not_false,Bool.true_eq_false,Bool.false_eq_true])
  all_goals (repeat first | rw [if_pos (by omega)] | rw [if_neg (by omega)])
  all_goals first | exact h | apply h | rfl | (simp_all [-Bool.forall_bool];done) | (simp_all [-Bool.forall_bool];first | exact h | apply h) | (simp_all [-Bool.forall_bool,emp_eq,int_beq];done) | (simp_all [-Bool.forall_bool];(intros;simp_all;done)) | (simp_all [-Bool.forall_bool,rdset139,rdset91,rdset104,rdset3,rdset119,rdset80,rdset128,rdset71,rdset75,rdset133,rdset5,rdset96,rdset68];done) | grind
theorem laws_toIntS.rel (k : Nat) (l0 : List Int) (r) (h : PK.laws_toIntS.f k l0 = some r) (m : Nat) (hm : k ≤ m) : laws_toIntS.f m l0 = some r:=by
 have il0:=fun k' (_ : k' < k + 1)=>(laws_toIntS.rel_l k');rw [PK.laws_toIntS.f] at h;rw [laws_toIntS.f]
 try simp only [w64_eq,wu8_eq,gt_iff_lt,ge_iff_le,int_beq,fdiv33,fdiv45,bt_eq,tmodN,rdOfB,rdOfL] at h
 try simp only [shlR]
 try simp only [w64_eq,wu8_eq,gt_iff_lt,ge_iff_le,int_beq,fdiv33,fdiv45,bt_eq,tmodN,rdOfB,rdOfL,rdT3_eq,rdT5_eq,seq,maxI,minI,emp_eq,rdn139,rdn91,rdn104,rdn3,rdn119,rdn80,rdn128,rdn71,rdn75,rdn133,rdn5,rdn96,rdn68]
 refine (itE h (fun q h=>(itE h (fun q h=>((fun h=>?_) (il0 _ (by omega) _ _ _ _ h m (by omega)))) (fun q h=>(noE h)))) (fun q h=>(noE h)))
 all_goals clear il0
 all_goals (try cases h)
 all_goals (try simp only [*,if_true,if_false,↓reduceIte,Option.bind_some,List.length_cons,List.length_nil,List.length_append,Bool.not_true,Bool.not_false,Bool.true_eq_false,Bool.false_eq_true])
 all_goals (repeat first | rw [if_pos (by omega)] | rw [if_neg (by omega)])
 all_goals first | exact h | apply h | rfl | (simp_all [-Bool.forall_bool];done) | (simp_all [-Bool.forall_bool];first | exact h | apply h) | (simp_all [-Bool.forall_bool,emp_eq,int_beq];done) | (simp_all [-Bool.forall_bool];(intros;simp_all;done)) | (simp_all [-Bool.forall_bool,rdset139,rdset91,rdset104,rdset3,rdset119,rdset80,rdset128,rdset71,rdset75,rdset133,rdset5,rdset96,rdset68];done) | grind
theorem laws_toKnot.rel (k : Nat) (a0_0 : Bool) (l0_1 : List Int) (r) (h : PK.laws_toKnot.f k a0_0 l0_1 = some r) (m : Nat) (hm : k ≤ m) : laws_toKnot.f m a0_0 l0_1 = some (r.1,r.2):=by
 rw [PK.laws_toKnot.f] at h;rw [laws_toKnot.f]
 try simp only [w64_eq,wu8_eq,gt_iff_lt,ge_iff_le,int_beq,fdiv33,fdiv45,bt_eq,tmodN,rdOfB,rdOfL] at h
 try simp only [shlR]
 try simp only [w64_eq,wu8_eq,gt_iff_lt,ge_iff_le,int_beq,fdiv33,fdiv45,bt_eq,tmodN,rdOfB,rdOfL,rdT3_eq,rdT5_eq,seq,maxI,minI,emp_eq,rdn139,rdn91,rdn104,rdn3,rdn119,rdn80,rdn128,rdn71,rdn75,rdn133,rdn5,rdn96,rdn68]
 refine (bnE h (fun _ g h=>(fun g=>?_) (laws_toIntS.rel _ _ _ g m (by omega))))
 all_goals (try cases h)
 all_goals (try simp only [*,if_true,if_false,↓reduceIte,Option.bind_some,List.length_cons,List.length_nil,List.length_append,Bool.not_true,Bool.not_false,Bool.true_eq_false,Bool.false_eq_true])
 all_goals (repeat first | rw [if_pos (by omega)] | rw [if_neg (by omega)])
 all_goals first | exact h | apply h | rfl | (simp_all [-Bool.forall_bool];done) | (simp_all [-Bool.forall_bool];first | exact h | apply h) | (simp_all [-Bool.forall_bool,emp_eq,int_beq];done) | (simp_all [-Bool.forall_bool];(intros;simp_all;done)) | (simp_all [-Bool.forall_bool,rdset139,rdset91,rdset104,rdset3,rdset119,rdset80,rdset128,rdset71,rdset75,rdset133,rdset5,rdset96,rdset68];done) | grind
theorem laws_toKnotS.rel_l (k : Nat) : (∀ x0 x3 x4 r,PK.laws_toKnotS.l0 k x0 x3 x4 = some r → ∀ m,k ≤ m → laws_toKnotS.c3 m x0 x4 x3 = some r):=by
 induction k using Nat.strongRecOn with
 | _ k ih =>
 have il0:=fun k' hk'=>(ih k' hk');clear ih;intro x0 x3 x4 r h m hm;cases k with
 | zero=>simp only [PK.laws_toKnotS.l0] at h;cases h
 | succ k =>
  obtain ⟨m,rfl⟩ : ∃ m',m = m' + 1:=⟨m - 1,by omega⟩;rw [PK.laws_toKnotS.l0] at h;rw [laws_toKnotS.c3]
  try simp only [w64_eq,wu8_eq,gt_iff_lt,ge_iff_le,int_beq,fdiv33,fdiv45,bt_eq,tmodN,rdOfB,rdOfL] at h
  try simp only [shlR]
  try simp only [w64_eq,wu8_eq,gt_iff_lt,ge_iff_le,int_beq,fdiv33,fdiv45,bt_eq,tmodN,rdOfB,rdOfL,rdT3_eq,rdT5_eq,seq,maxI,minI,emp_eq,rdn139,rdn91,rdn104,rdn3,rdn119,rdn80,rdn128,rdn71,rdn75,rdn133,rdn5,rdn96,rdn68]
  refine (itE h (fun q h=>(itE h (fun q h=>(bnE h (fun _ g h=>(fun g=>(itE h (fun q h=>((fun h=>?_) (il0 _ (by omega) _ _ _ _ h m (by omega)))) (fun q h=>(noE h)))) (laws_toKnot.rel _ _ _ _ g m (by omega))))) (fun q h=>(noE h)))) (fun q h=>?_))
  all_goals clear il0
  all_goals (try cases h)
  all_goals (try simp only [*,if_true,if_false,↓reduceIte,Option.bind_some,List.length_cons,List.length_nil,List.length_append,Bool.not_true,Bool.not_false,Bool.true_eq_false,Bool.false_eq_true])
  all_goals (repeat first | rw [if_pos (by omega)] | rw [if_neg (by omega)])
  all_goals first | exact h | apply h | rfl | (simp_all [-Bool.forall_bool];done) | (simp_all [-Bool.forall_bool];first | exact h | apply h) | (simp_all [-Bool.forall_bool,emp_eq,int_beq];done) | (simp_all [-Bool.forall_bool];(intros;simp_all;done)) | (simp_all [-Bool.forall_bool,rdset139,rdset91,rdset104,rdset3,rdset119,rdset80,rdset128,rdset71,rdset75,rdset133,rdset5,rdset96,rdset68];done) | grind
theorem laws_toKnotS.rel (k : Nat) (l0 : List (S119)) (r) (h : PK.laws_toKnotS.f k l0 = some r) (m : Nat) (hm : k ≤ m) : laws_toKnotS.f m l0 = some r:=by
 have il0:=fun k' (_ : k' < k + 1)=>(laws_toKnotS.rel_l k');rw [PK.laws_toKnotS.f] at h;rw [laws_toKnotS.f]
 try simp only [w64_eq,wu8_eq,gt_iff_lt,ge_iff_le,int_beq,fdiv33,fdiv45,bt_eq,tmodN,rdOfB,rdOfL] at h
 try simp only [shlR]
 try simp only [w64_eq,wu8_eq,gt_iff_lt,ge_iff_le,int_beq,fdiv33,fdiv45,bt_eq,tmodN,rdOfB,rdOfL,rdT3_eq,rdT5_eq,seq,maxI,minI,emp_eq,rdn139,rdn91,rdn104,rdn3,rdn119,rdn80,rdn128,rdn71,rdn75,rdn133,rdn5,rdn96,rdn68]
 refine (itE h (fun q h=>(itE h (fun q h=>((fun h=>?_) (il0 _ (by omega) _ _ _ _ h m (by omega)))) (fun q h=>(noE h)))) (fun q h=>(noE h)))
 all_goals clear il0
 all_goals (try cases h)
 all_goals (try simp only [*,if_true,if_false,↓reduceIte,Option.bind_some,List.length_cons,List.length_nil,List.length_append,Bool.not_true,Bool.not_false,Bool.true_eq_false,Bool.false_eq_true])
 all_goals (repeat first | rw [if_pos (by omega)] | rw [if_neg (by omega)])
 all_goals first | exact h | apply h | rfl | (simp_all [-Bool.forall_bool];done) | (simp_all [-Bool.forall_bool];first | exact h | apply h) | (simp_all [-Bool.forall_bool,emp_eq,int_beq];done) | (simp_all [-Bool.forall_bool];(intros;simp_all;done)) | (simp_all [-Bool.forall_bool,rdset139,rdset91,rdset104,rdset3,rdset119,rdset80,rdset128,rdset71,rdset75,rdset133,rdset5,rdset96,rdset68];done) | grind
end Go.Proofs.YtbbfkodckpfjcaaGreat.M2

namespace Go.Proofs.YtbbfkodckpfjcaaGreat.M2
open Go Go.RowKit Go.Proofs.YtbbfkodckpfjcaaGreatW.PrintWords Go.Proofs.YtbbfkodckpfjcaaGreat.PK
set_option linter.unusedVariables false
set_option linter.unusedSimpArgs false
set_option maxHeartbeats 1600000
theorem laws_toArena.rel (k : Nat) (l0_0 : List (S119)) (r) (h : PK.laws_toArena.f k l0_0 = some r) (m : Nat) (hm : k ≤ m) : laws_toArena.f m l0_0 = some r:=by
 rw [PK.laws_toArena.f] at h;rw [laws_toArena.f]
 try simp only [w64_eq,wu8_eq,gt_iff_lt,ge_iff_le,int_beq,fdiv33,fdiv45,bt_eq,tmodN,rdOfB,rdOfL] at h
 try simp only [shlR]
 try simp only [w64_eq,wu8_eq,gt_iff_lt,ge_iff_le,int_beq,fdiv33,fdiv45,bt_eq,tmodN,rdOfB,rdOfL,rdT3_eq,rdT5_eq,seq,maxI,minI,emp_eq,rdn139,rdn91,rdn104,rdn3,rdn119,rdn80,rdn128,rdn71,rdn75,rdn133,rdn5,rdn96,rdn68]
 refine (bnE h (fun _ g h=>(fun g=>?_) (laws_toKnotS.rel _ _ _ g m (by omega))))
 all_goals (try cases h)
 all_goals (try simp only [*,if_true,if_false,↓reduceIte,Option.bind_some,List.length_cons,List.length_nil,List.length_append,Bool.not_true,Bool.not_false,Bool.true_eq_false,Bool.false_eq_true])
 all_goals (repeat first | rw [if_pos (by omega)] | rw [if_neg (by omega)])
 all_goals first | exact h | apply h | rfl | (simp_all [-Bool.forall_bool];done) | (simp_all [-Bool.forall_bool];first | exact h | apply h) | (simp_all [-Bool.forall_bool,emp_eq,int_beq];done) | (simp_all [-Bool.forall_bool];(intros;simp_all;done)) | (simp_all [-Bool.forall_bool,rdset139,rdset91,rdset104,rdset3,rdset119,rdset80,rdset128,rdset71,rdset75,rdset133,rdset5,rdset96,rdset68];done) | grind
theorem laws_toStore.rel (k : Nat) (l0_0 : List (S104)) (l0_1 : List (S119)) (a0_2 : Int) (r) (h : PK.laws_toStore.f k l0_0 l0_1 a0_2 = some r) (m : Nat) (hm : k ≤ m) : laws_toStore.f m l0_0 l0_1 a0_2 = some (r.1,r.2.1,r.2.2):=by
 rw [PK.laws_toStore.f] at h;rw [laws_toStore.f]
 try simp only [w64_eq,wu8_eq,gt_iff_lt,ge_iff_le,int_beq,fdiv33,fdiv45,bt_eq,tmodN,rdOfB,rdOfL] at h
 try simp only [shlR]
 try simp only [w64_eq,wu8_eq,gt_iff_lt,ge_iff_le,int_beq,fdiv33,fdiv45,bt_eq,tmodN,rdOfB,rdOfL,rdT3_eq,rdT5_eq,seq,maxI,minI,emp_eq,rdn139,rdn91,rdn104,rdn3,rdn119,rdn80,rdn128,rdn71,rdn75,rdn133,rdn5,rdn96,rdn68]
 refine (bnE h (fun _ g h=>(fun g=>(bnE h (fun _ g h=>(fun g=>?_) (laws_toArena.rel _ _ _ g m (by omega))))) (laws_toVolS.rel _ _ _ g m (by omega))))
 all_goals (try cases h)
 all_goals (try simp only [*,if_true,if_false,↓reduceIte,Option.bind_some,List.length_cons,List.length_nil,List.length_append,Bool.not_true,Bool.not_false,Bool.true_eq_false,Bool.false_eq_true])
 all_goals (repeat first | rw [if_pos (by omega)] | rw [if_neg (by omega)])
 all_goals first | exact h | apply h | rfl | (simp_all [-Bool.forall_bool];done) | (simp_all [-Bool.forall_bool];first | exact h | apply h) | (simp_all [-Bool.forall_bool,emp_eq,int_beq];done) | (simp_all [-Bool.forall_bool];(intros;simp_all;done)) | (simp_all [-Bool.forall_bool,rdset139,rdset91,rdset104,rdset3,rdset119,rdset80,rdset128,rdset71,rdset75,rdset133,rdset5,rdset96,rdset68];done) | grind
theorem laws_eqVol.rel (k : Nat) (a0_0 : Int) (a0_1 : Int) (a1_0 : Int) (a1_1 : Int) (r) (h : PK.laws_eqVol.f a0_0 a0_1 a1_0 a1_1 = some r) (m : Nat) (hm : k ≤ m) : laws_eqVol.f m a0_0 a0_1 a1_0 a1_1 = some r:=by
 rw [PK.laws_eqVol.f] at h;rw [laws_eqVol.f]
 try simp only [w64_eq,wu8_eq,gt_iff_lt,ge_iff_le,int_beq,fdiv33,fdiv45,bt_eq,tmodN,rdOfB,rdOfL] at h
 try simp only [shlR]
 try simp only [w64_eq,wu8_eq,gt_iff_lt,ge_iff_le,int_beq,fdiv33,fdiv45,bt_eq,tmodN,rdOfB,rdOfL,rdT3_eq,rdT5_eq,seq,maxI,minI,emp_eq,rdn139,rdn91,rdn104,rdn3,rdn119,rdn80,rdn128,rdn71,rdn75,rdn133,rdn5,rdn96,rdn68]
 refine (itE h (fun q h=>(itE h (fun q h=>?_) (fun q h=>?_))) (fun q h=>?_))
 all_goals (try cases h)
 all_goals (try simp only [*,if_true,if_false,↓reduceIte,Option.bind_some,List.length_cons,List.length_nil,List.length_append,Bool.not_true,Bool.not_false,Bool.true_eq_false,Bool.false_eq_true])
 all_goals (repeat first | rw [if_pos (by omega)] | rw [if_neg (by omega)])
 all_goals first | exact h | apply h | rfl | (simp_all [-Bool.forall_bool];done) | (simp_all [-Bool.forall_bool];first | exact h | apply h) | (simp_all [-Bool.forall_bool,emp_eq,int_beq];done) | (simp_all [-Bool.forall_bool];(intros;simp_all;done)) | (simp_all [-Bool.forall_bool,rdset139,rdset91,rdset104,rdset3,rdset119,rdset80,rdset128,rdset71,rdset75,rdset133,rdset5,rdset96,rdset68];done) | grind
theorem laws_eqVolS.rel_l (k : Nat) : (∀ x0 x1 x5 r,PK.laws_eqVolS.l0 k x0 x1 x5 = some r → ∀ m,k ≤ m → laws_eqVolS.c4 m x0 x1 x5 = some r):=by
 induction k using Nat.strongRecOn with
 | _ k ih =>
 have il0:=fun k' hk'=>(ih k' hk');clear ih;intro x0 x1 x5 r h m hm;cases k with
 | zero=>simp only [PK.laws_eqVolS.l0] at h;cases h
 | succ k =>
  obtain ⟨m,rfl⟩ : ∃ m',m = m' + 1:=⟨m - 1,by omega⟩;rw [PK.laws_eqVolS.l0] at h;rw [laws_eqVolS.c4]
  try simp only [w64_eq,wu8_eq,gt_iff_lt,ge_iff_le,int_beq,fdiv33,fdiv45,bt_eq,tmodN,rdOfB,rdOfL] at h
  try simp only [shlR]
  try simp only [w64_eq,wu8_eq,gt_iff_lt,ge_iff_le,int_beq,fdiv33,fdiv45,bt_eq,tmodN,rdOfB,rdOfL,rdT3_eq,rdT5_eq,seq,maxI,minI,emp_eq,rdn139,rdn91,rdn104,rdn3,rdn119,rdn80,rdn128,rdn71,rdn75,rdn133,rdn5,rdn96,rdn68]
  refine (itE h (fun q h=>(itE h (fun q h=>(itE h (fun q h=>(bnE h (fun _ g h=>(fun g=>(itE h (fun q h=>((fun h=>?_) (il0 _ (by omega) _ _ _ _ h m (by omega)))) (fun q h=>?_))) (laws_eqVol.rel m _ _ _ _ _ g m (by omega))))) (fun q h=>(noE h)))) (fun q h=>(noE h)))) (fun q h=>?_))
  all_goals clear il0
  all_goals (try cases h)
  all_goals (try simp only [*,if_true,if_false,↓reduceIte,Option.bind_some,List.length_cons,List.length_nil,List.length_append,Bool.not_true,Bool.not_false,Bool.true_eq_false,Bool.false_eq_true])
  all_goals (repeat first | rw [if_pos (by omega)] | rw [if_neg (by omega)])
  all_goals first | exact h | apply h | rfl | (simp_all [-Bool.forall_bool];done) | (simp_all [-Bool.forall_bool];first | exact h | apply h) | (simp_all [-Bool.forall_bool,emp_eq,int_beq];done) | (simp_all [-Bool.forall_bool];(intros;simp_all;done)) | (simp_all [-Bool.forall_bool,rdset139,rdset91,rdset104,rdset3,rdset119,rdset80,rdset128,rdset71,rdset75,rdset133,rdset5,rdset96,rdset68];done) | grind
theorem laws_eqVolS.rel (k : Nat) (l0 : List (S80)) (l1 : List (S80)) (r) (h : PK.laws_eqVolS.f k l0 l1 = some r) (m : Nat) (hm : k ≤ m) : laws_eqVolS.f m l0 l1 = some r:=by
 have il0:=fun k' (_ : k' < k + 1)=>(laws_eqVolS.rel_l k');rw [PK.laws_eqVolS.f] at h;rw [laws_eqVolS.f]
 try simp only [w64_eq,wu8_eq,gt_iff_lt,ge_iff_le,int_beq,fdiv33,fdiv45,bt_eq,tmodN,rdOfB,rdOfL] at h
 try simp only [shlR]
 try simp only [w64_eq,wu8_eq,gt_iff_lt,ge_iff_le,int_beq,fdiv33,fdiv45,bt_eq,tmodN,rdOfB,rdOfL,rdT3_eq,rdT5_eq,seq,maxI,minI,emp_eq,rdn139,rdn91,rdn104,rdn3,rdn119,rdn80,rdn128,rdn71,rdn75,rdn133,rdn5,rdn96,rdn68]
 refine (itE h (fun q h=>((fun h=>?_) (il0 _ (by omega) _ _ _ _ h m (by omega)))) (fun q h=>?_))
 all_goals clear il0
 all_goals (try cases h)
 all_goals (try simp only [*,if_true,if_false,↓reduceIte,Option.bind_some,List.length_cons,List.length_nil,List.length_append,Bool.not_true,Bool.not_false,Bool.true_eq_false,Bool.false_eq_true])
 all_goals (repeat first | rw [if_pos (by omega)] | rw [if_neg (by omega)])
 all_goals first | exact h | apply h | rfl | (simp_all [-Bool.forall_bool];done) | (simp_all [-Bool.forall_bool];first | exact h | apply h) | (simp_all [-Bool.forall_bool,emp_eq,int_beq];done) | (simp_all [-Bool.forall_bool];(intros;simp_all;done)) | (simp_all [-Bool.forall_bool,rdset139,rdset91,rdset104,rdset3,rdset119,rdset80,rdset128,rdset71,rdset75,rdset133,rdset5,rdset96,rdset68];done) | grind
end Go.Proofs.YtbbfkodckpfjcaaGreat.M2

namespace Go.Proofs.YtbbfkodckpfjcaaGreat.M2
open Go Go.RowKit Go.Proofs.YtbbfkodckpfjcaaGreatW.PrintWords Go.Proofs.YtbbfkodckpfjcaaGreat.PK
set_option linter.unusedVariables false
set_option linter.unusedSimpArgs false
set_option maxHeartbeats 1600000
theorem laws_eqIntS.rel_l (k : Nat) : (∀ x0 x1 x5 r,PK.laws_eqIntS.l0 k x0 x1 x5 = some r → ∀ m,k ≤ m → laws_eqIntS.c4 m x0 x1 x5 = some r):=by
 induction k using Nat.strongRecOn with
 | _ k ih =>
 have il0:=fun k' hk'=>(ih k' hk');clear ih;intro x0 x1 x5 r h m hm;cases k with
 | zero=>simp only [PK.laws_eqIntS.l0] at h;cases h
 | succ k =>
  obtain ⟨m,rfl⟩ : ∃ m',m = m' + 1:=⟨m - 1,by omega⟩;rw [PK.laws_eqIntS.l0] at h;rw [laws_eqIntS.c4]
  try simp only [w64_eq,wu8_eq,gt_iff_lt,ge_iff_le,int_beq,fdiv33,fdiv45,bt_eq,tmodN,rdOfB,rdOfL] at h
  try simp only [shlR]
  try simp only [w64_eq,wu8_eq,gt_iff_lt,ge_iff_le,int_beq,fdiv33,fdiv45,bt_eq,tmodN,rdOfB,rdOfL,rdT3_eq,rdT5_eq,seq,maxI,minI,emp_eq,rdn139,rdn91,rdn104,rdn3,rdn119,rdn80,rdn128,rdn71,rdn75,rdn133,rdn5,rdn96,rdn68]
  refine (itE h (fun q h=>(itE h (fun q h=>(itE h (fun q h=>(itE h (fun q h=>((fun h=>?_) (il0 _ (by omega) _ _ _ _ h m (by omega)))) (fun q h=>?_))) (fun q h=>(noE h)))) (fun q h=>(noE h)))) (fun q h=>?_))
  all_goals clear il0
  all_goals (try cases h)
  all_goals (try simp only [*,if_true,if_false,↓reduceIte,Option.bind_some,List.length_cons,List.length_nil,List.length_append,Bool.not_true,Bool.not_false,Bool.true_eq_false,Bool.false_eq_true])
  all_goals (repeat first | rw [if_pos (by omega)] | rw [if_neg (by omega)])
  all_goals first | exact h | apply h | rfl | (simp_all [-Bool.forall_bool];done) | (simp_all [-Bool.forall_bool];first | exact h | apply h) | (simp_all [-Bool.forall_bool,emp_eq,int_beq];done) | (simp_all [-Bool.forall_bool];(intros;simp_all;done)) | (simp_all [-Bool.forall_bool,rdset139,rdset91,rdset104,rdset3,rdset119,rdset80,rdset128,rdset71,rdset75,rdset133,rdset5,rdset96,rdset68];done) | grind
theorem laws_eqIntS.rel (k : Nat) (l0 : List Int) (l1 : List Int) (r) (h : PK.laws_eqIntS.f k l0 l1 = some r) (m : Nat) (hm : k ≤ m) : laws_eqIntS.f m l0 l1 = some r:=by
 have il0:=fun k' (_ : k' < k + 1)=>(laws_eqIntS.rel_l k');rw [PK.laws_eqIntS.f] at h;rw [laws_eqIntS.f]
 try simp only [w64_eq,wu8_eq,gt_iff_lt,ge_iff_le,int_beq,fdiv33,fdiv45,bt_eq,tmodN,rdOfB,rdOfL] at h
 try simp only [shlR]
 try simp only [w64_eq,wu8_eq,gt_iff_lt,ge_iff_le,int_beq,fdiv33,fdiv45,bt_eq,tmodN,rdOfB,rdOfL,rdT3_eq,rdT5_eq,seq,maxI,minI,emp_eq,rdn139,rdn91,rdn104,rdn3,rdn119,rdn80,rdn128,rdn71,rdn75,rdn133,rdn5,rdn96,rdn68]
 refine (itE h (fun q h=>((fun h=>?_) (il0 _ (by omega) _ _ _ _ h m (by omega)))) (fun q h=>?_))
 all_goals clear il0
 all_goals (try cases h)
 all_goals (try simp only [*,if_true,if_false,↓reduceIte,Option.bind_some,List.length_cons,List.length_nil,List.length_append,Bool.not_true,Bool.not_false,Bool.true_eq_false,Bool.false_eq_true])
 all_goals (repeat first | rw [if_pos (by omega)] | rw [if_neg (by omega)])
 all_goals first | exact h | apply h | rfl | (simp_all [-Bool.forall_bool];done) | (simp_all [-Bool.forall_bool];first | exact h | apply h) | (simp_all [-Bool.forall_bool,emp_eq,int_beq];done) | (simp_all [-Bool.forall_bool];(intros;simp_all;done)) | (simp_all [-Bool.forall_bool,rdset139,rdset91,rdset104,rdset3,rdset119,rdset80,rdset128,rdset71,rdset75,rdset133,rdset5,rdset96,rdset68];done) | grind
theorem laws_eqKnot.rel (k : Nat) (a0_0 : Bool) (l0_1 : List Int) (a1_0 : Bool) (l1_1 : List Int) (r) (h : PK.laws_eqKnot.f k a0_0 l0_1 a1_0 l1_1 = some r) (m : Nat) (hm : k ≤ m) : laws_eqKnot.f m a0_0 l0_1 a1_0 l1_1 = some r:=by
 rw [PK.laws_eqKnot.f] at h;rw [laws_eqKnot.f]
 try simp only [w64_eq,wu8_eq,gt_iff_lt,ge_iff_le,int_beq,fdiv33,fdiv45,bt_eq,tmodN,rdOfB,rdOfL] at h
 try simp only [shlR]
 try simp only [w64_eq,wu8_eq,gt_iff_lt,ge_iff_le,int_beq,fdiv33,fdiv45,bt_eq,tmodN,rdOfB,rdOfL,rdT3_eq,rdT5_eq,seq,maxI,minI,emp_eq,rdn139,rdn91,rdn104,rdn3,rdn119,rdn80,rdn128,rdn71,rdn75,rdn133,rdn5,rdn96,rdn68]
 refine (itE h (fun q h=>?_) (fun q h=>(bnE h (fun _ g h=>(fun g=>(itE h (fun q h=>?_) (fun q h=>?_))) (laws_eqIntS.rel _ _ _ _ g m (by omega))))))
 all_goals (try cases h)
 all_goals (try simp only [*,if_true,if_false,↓reduceIte,Option.bind_some,List.length_cons,List.length_nil,List.length_append,Bool.not_true,Bool.not_false,Bool.true_eq_false,Bool.false_eq_true])
 all_goals (repeat first | rw [if_pos (by omega)] | rw [if_neg (by omega)])
 all_goals first | exact h | apply h | rfl | (simp_all [-Bool.forall_bool];done) | (simp_all [-Bool.forall_bool];first | exact h | apply h) | (simp_all [-Bool.forall_bool,emp_eq,int_beq];done) | (simp_all [-Bool.forall_bool];(intros;simp_all;done)) | (simp_all [-Bool.forall_bool,rdset139,rdset91,rdset104,rdset3,rdset119,rdset80,rdset128,rdset71,rdset75,rdset133,rdset5,rdset96,rdset68];done) | grind
theorem laws_eqKnotS.rel_l (k : Nat) : (∀ x0 x1 x5 r,PK.laws_eqKnotS.l0 k x0 x1 x5 = some r → ∀ m,k ≤ m → laws_eqKnotS.c4 m x0 x1 x5 = some r):=by
 induction k using Nat.strongRecOn with
 | _ k ih =>
 have il0:=fun k' hk'=>(ih k' hk');clear ih;intro x0 x1 x5 r h m hm;cases k with
 | zero=>simp only [PK.laws_eqKnotS.l0] at h;cases h
 | succ k =>
  obtain ⟨m,rfl⟩ : ∃ m',m = m' + 1:=⟨m - 1,by omega⟩;rw [PK.laws_eqKnotS.l0] at h;rw [laws_eqKnotS.c4]
  try simp only [w64_eq,wu8_eq,gt_iff_lt,ge_iff_le,int_beq,fdiv33,fdiv45,bt_eq,tmodN,rdOfB,rdOfL] at h
  try simp only [shlR]
  try simp only [w64_eq,wu8_eq,gt_iff_lt,ge_iff_le,int_beq,fdiv33,fdiv45,bt_eq,tmodN,rdOfB,rdOfL,rdT3_eq,rdT5_eq,seq,maxI,minI,emp_eq,rdn139,rdn91,rdn104,rdn3,rdn119,rdn80,rdn128,rdn71,rdn75,rdn133,rdn5,rdn96,rdn68]
  refine (itE h (fun q h=>(itE h (fun q h=>(itE h (fun q h=>(bnE h (fun _ g h=>(fun g=>(itE h (fun q h=>((fun h=>?_) (il0 _ (by omega) _ _ _ _ h m (by omega)))) (fun q h=>?_))) (laws_eqKnot.rel _ _ _ _ _ _ g m (by omega))))) (fun q h=>(noE h)))) (fun q h=>(noE h)))) (fun q h=>?_))
  all_goals clear il0
  all_goals (try cases h)
  all_goals (try simp only [*,if_true,if_false,↓reduceIte,Option.bind_some,List.length_cons,List.length_nil,List.length_append,Bool.not_true,Bool.not_false,Bool.true_eq_false,Bool.false_eq_true])
  all_goals (repeat first | rw [if_pos (by omega)] | rw [if_neg (by omega)])
  all_goals first | exact h | apply h | rfl | (simp_all [-Bool.forall_bool];done) | (simp_all [-Bool.forall_bool];first | exact h | apply h) | (simp_all [-Bool.forall_bool,emp_eq,int_beq];done) | (simp_all [-Bool.forall_bool];(intros;simp_all;done)) | (simp_all [-Bool.forall_bool,rdset139,rdset91,rdset104,rdset3,rdset119,rdset80,rdset128,rdset71,rdset75,rdset133,rdset5,rdset96,rdset68];done) | grind
theorem laws_eqKnotS.rel (k : Nat) (l0 : List (S128)) (l1 : List (S128)) (r) (h : PK.laws_eqKnotS.f k l0 l1 = some r) (m : Nat) (hm : k ≤ m) : laws_eqKnotS.f m l0 l1 = some r:=by
 have il0:=fun k' (_ : k' < k + 1)=>(laws_eqKnotS.rel_l k');rw [PK.laws_eqKnotS.f] at h;rw [laws_eqKnotS.f]
 try simp only [w64_eq,wu8_eq,gt_iff_lt,ge_iff_le,int_beq,fdiv33,fdiv45,bt_eq,tmodN,rdOfB,rdOfL] at h
 try simp only [shlR]
 try simp only [w64_eq,wu8_eq,gt_iff_lt,ge_iff_le,int_beq,fdiv33,fdiv45,bt_eq,tmodN,rdOfB,rdOfL,rdT3_eq,rdT5_eq,seq,maxI,minI,emp_eq,rdn139,rdn91,rdn104,rdn3,rdn119,rdn80,rdn128,rdn71,rdn75,rdn133,rdn5,rdn96,rdn68]
 refine (itE h (fun q h=>((fun h=>?_) (il0 _ (by omega) _ _ _ _ h m (by omega)))) (fun q h=>?_))
 all_goals clear il0
 all_goals (try cases h)
 all_goals (try simp only [*,if_true,if_false,↓reduceIte,Option.bind_some,List.length_cons,List.length_nil,List.length_append,Bool.not_true,Bool.not_false,Bool.true_eq_false,Bool.false_eq_true])
 all_goals (repeat first | rw [if_pos (by omega)] | rw [if_neg (by omega)])
 all_goals first | exact h | apply h | rfl | (simp_all [-Bool.forall_bool];done) | (simp_all [-Bool.forall_bool];first | exact h | apply h) | (simp_all [-Bool.forall_bool,emp_eq,int_beq];done) | (simp_all [-Bool.forall_bool];(intros;simp_all;done)) | (simp_all [-Bool.forall_bool,rdset139,rdset91,rdset104,rdset3,rdset119,rdset80,rdset128,rdset71,rdset75,rdset133,rdset5,rdset96,rdset68];done) | grind
end Go.Proofs.YtbbfkodckpfjcaaGreat.M2

namespace Go.Proofs.YtbbfkodckpfjcaaGreat.M2
open Go Go.RowKit Go.Proofs.YtbbfkodckpfjcaaGreatW.PrintWords Go.Proofs.YtbbfkodckpfjcaaGreat.PK
set_option linter.unusedVariables false
set_option linter.unusedSimpArgs false
set_option maxHeartbeats 1600000
theorem laws_eqArena.rel (k : Nat) (l0_0 : List (S128)) (l1_0 : List (S128)) (r) (h : PK.laws_eqArena.f k l0_0 l1_0 = some r) (m : Nat) (hm : k ≤ m) : laws_eqArena.f m l0_0 l1_0 = some r:=by
 rw [PK.laws_eqArena.f] at h;rw [laws_eqArena.f]
 try simp only [w64_eq,wu8_eq,gt_iff_lt,ge_iff_le,int_beq,fdiv33,fdiv45,bt_eq,tmodN,rdOfB,rdOfL] at h
 try simp only [shlR]
 try simp only [w64_eq,wu8_eq,gt_iff_lt,ge_iff_le,int_beq,fdiv33,fdiv45,bt_eq,tmodN,rdOfB,rdOfL,rdT3_eq,rdT5_eq,seq,maxI,minI,emp_eq,rdn139,rdn91,rdn104,rdn3,rdn119,rdn80,rdn128,rdn71,rdn75,rdn133,rdn5,rdn96,rdn68]
 refine (bnE h (fun _ g h=>(fun g=>(itE h (fun q h=>?_) (fun q h=>?_))) (laws_eqKnotS.rel _ _ _ _ g m (by omega))))
 all_goals (try cases h)
 all_goals (try simp only [*,if_true,if_false,↓reduceIte,Option.bind_some,List.length_cons,List.length_nil,List.length_append,Bool.not_true,Bool.not_false,Bool.true_eq_false,Bool.false_eq_true])
 all_goals (repeat first | rw [if_pos (by omega)] | rw [if_neg (by omega)])
 all_goals first | exact h | apply h | rfl | (simp_all [-Bool.forall_bool];done) | (simp_all [-Bool.forall_bool];first | exact h | apply h) | (simp_all [-Bool.forall_bool,emp_eq,int_beq];done) | (simp_all [-Bool.forall_bool];(intros;simp_all;done)) | (simp_all [-Bool.forall_bool,rdset139,rdset91,rdset104,rdset3,rdset119,rdset80,rdset128,rdset71,rdset75,rdset133,rdset5,rdset96,rdset68];done) | grind
theorem laws_eqStore.rel (k : Nat) (l0_0 : List (S80)) (l0_1 : List (S128)) (a0_2 : Int) (l1_0 : List (S80)) (l1_1 : List (S128)) (a1_2 : Int) (r) (h : PK.laws_eqStore.f k l0_0 l0_1 a0_2 l1_0 l1_1 a1_2 = some r) (m : Nat) (hm : k ≤ m) : laws_eqStore.f m l0_0 l0_1 a0_2 l1_0 l1_1 a1_2 = some r:=by
 rw [PK.laws_eqStore.f] at h;rw [laws_eqStore.f]
 try simp only [w64_eq,wu8_eq,gt_iff_lt,ge_iff_le,int_beq,fdiv33,fdiv45,bt_eq,tmodN,rdOfB,rdOfL] at h
 try simp only [shlR]
 try simp only [w64_eq,wu8_eq,gt_iff_lt,ge_iff_le,int_beq,fdiv33,fdiv45,bt_eq,tmodN,rdOfB,rdOfL,rdT3_eq,rdT5_eq,seq,maxI,minI,emp_eq,rdn139,rdn91,rdn104,rdn3,rdn119,rdn80,rdn128,rdn71,rdn75,rdn133,rdn5,rdn96,rdn68]
 refine (bnE h (fun _ g h=>(fun g=>(itE h (fun q h=>(bnE h (fun _ g h=>(fun g=>(itE h (fun q h=>(itE h (fun q h=>?_) (fun q h=>?_))) (fun q h=>?_))) (laws_eqArena.rel _ _ _ _ g m (by omega))))) (fun q h=>?_))) (laws_eqVolS.rel _ _ _ _ g m (by omega))))
 all_goals (try cases h)
 all_goals (try simp only [*,if_true,if_false,↓reduceIte,Option.bind_some,List.length_cons,List.length_nil,List.length_append,Bool.not_true,Bool.not_false,Bool.true_eq_false,Bool.false_eq_true])
 all_goals (repeat first | rw [if_pos (by omega)] | rw [if_neg (by omega)])
 all_goals first | exact h | apply h | rfl | (simp_all [-Bool.forall_bool];done) | (simp_all [-Bool.forall_bool];first | exact h | apply h) | (simp_all [-Bool.forall_bool,emp_eq,int_beq];done) | (simp_all [-Bool.forall_bool];(intros;simp_all;done)) | (simp_all [-Bool.forall_bool,rdset139,rdset91,rdset104,rdset3,rdset119,rdset80,rdset128,rdset71,rdset75,rdset133,rdset5,rdset96,rdset68];done) | grind
end Go.Proofs.YtbbfkodckpfjcaaGreat.M2

namespace Go.Proofs.YtbbfkodckpfjcaaGreat.M2
open Go Go.RowKit Go.Proofs.YtbbfkodckpfjcaaGreatW.PrintWords Go.Proofs.YtbbfkodckpfjcaaGreat.PK
set_option linter.unusedVariables false
set_option linter.unusedSimpArgs false
set_option maxHeartbeats 1600000
theorem laws_szLeaf.rel (k : Nat) (a0_0 : Int) (a0_1 : ByteArray) (a1 : Int) (r) (h : PK.laws_szLeaf.f a0_0 a0_1 a1 = some r) (m : Nat) (hm : k ≤ m) : laws_szLeaf.f m a0_0 a0_1 a1 = some r:=by
 rw [PK.laws_szLeaf.f] at h;rw [laws_szLeaf.f]
 try simp only [w64_eq,wu8_eq,gt_iff_lt,ge_iff_le,int_beq,fdiv33,fdiv45,bt_eq,tmodN,rdOfB,rdOfL] at h
 try simp only [shlR]
 try simp only [w64_eq,wu8_eq,gt_iff_lt,ge_iff_le,int_beq,fdiv33,fdiv45,bt_eq,tmodN,rdOfB,rdOfL,rdT3_eq,rdT5_eq,seq,maxI,minI,emp_eq,rdn139,rdn91,rdn104,rdn3,rdn119,rdn80,rdn128,rdn71,rdn75,rdn133,rdn5,rdn96,rdn68]
 refine (itE h (fun q h=>?_) (fun q h=>?_))
 all_goals (try cases h)
 all_goals (try simp only [*,if_true,if_false,↓reduceIte,Option.bind_some,List.length_cons,List.length_nil,List.length_append,Bool.not_true,Bool.not_false,Bool.true_eq_false,Bool.false_eq_true])
 all_goals (repeat first | rw [if_pos (by omega)] | rw [if_neg (by omega)])
 all_goals first | exact h | apply h | rfl | (simp_all [-Bool.forall_bool];done) | (simp_all [-Bool.forall_bool];first | exact h | apply h) | (simp_all [-Bool.forall_bool,emp_eq,int_beq];done) | (simp_all [-Bool.forall_bool];(intros;simp_all;done)) | (simp_all [-Bool.forall_bool,rdset139,rdset91,rdset104,rdset3,rdset119,rdset80,rdset128,rdset71,rdset75,rdset133,rdset5,rdset96,rdset68];done) | grind
theorem laws_szLeafS.rel_l (k : Nat) : (∀ x0 x1 x5 r,PK.laws_szLeafS.l0 k x0 x1 x5 = some r → ∀ m,k ≤ m → laws_szLeafS.c5 m x0 x1 x5 = some r):=by
 induction k using Nat.strongRecOn with
 | _ k ih =>
 have il0:=fun k' hk'=>(ih k' hk');clear ih;intro x0 x1 x5 r h m hm;cases k with
 | zero=>simp only [PK.laws_szLeafS.l0] at h;cases h
 | succ k =>
  obtain ⟨m,rfl⟩ : ∃ m',m = m' + 1:=⟨m - 1,by omega⟩;rw [PK.laws_szLeafS.l0] at h;rw [laws_szLeafS.c5]
  try simp only [w64_eq,wu8_eq,gt_iff_lt,ge_iff_le,int_beq,fdiv33,fdiv45,bt_eq,tmodN,rdOfB,rdOfL] at h
  try simp only [shlR]
  try simp only [w64_eq,wu8_eq,gt_iff_lt,ge_iff_le,int_beq,fdiv33,fdiv45,bt_eq,tmodN,rdOfB,rdOfL,rdT3_eq,rdT5_eq,seq,maxI,minI,emp_eq,rdn139,rdn91,rdn104,rdn3,rdn119,rdn80,rdn128,rdn71,rdn75,rdn133,rdn5,rdn96,rdn68]
  refine (itE h (fun q h=>(itE h (fun q h=>(bnE h (fun _ g h=>(fun g=>(itE h (fun q h=>?_) (fun q h=>((fun h=>?_) (il0 _ (by omega) _ _ _ _ h m (by omega)))))) (laws_szLeaf.rel m _ _ _ _ g m (by omega))))) (fun q h=>(noE h)))) (fun q h=>?_))
  all_goals clear il0
  all_goals (try cases h)
  all_goals (try simp only [*,if_true,if_false,↓reduceIte,Option.bind_some,List.length_cons,List.length_nil,List.length_append,Bool.not_true,Bool.not_false,Bool.true_eq_false,Bool.false_eq_true])
  all_goals (repeat first | rw [if_pos (by omega)] | rw [if_neg (by omega)])
  all_goals first | exact h | apply h | rfl | (simp_all [-Bool.forall_bool];done) | (simp_all [-Bool.forall_bool];first | exact h | apply h) | (simp_all [-Bool.forall_bool,emp_eq,int_beq];done) | (simp_all [-Bool.forall_bool];(intros;simp_all;done)) | (simp_all [-Bool.forall_bool,rdset139,rdset91,rdset104,rdset3,rdset119,rdset80,rdset128,rdset71,rdset75,rdset133,rdset5,rdset96,rdset68];done) | grind
theorem laws_szLeafS.rel (k : Nat) (l0 : List (S139)) (a1 : Int) (r) (h : PK.laws_szLeafS.f k l0 a1 = some r) (m : Nat) (hm : k ≤ m) : laws_szLeafS.f m l0 a1 = some r:=by
 have il0:=fun k' (_ : k' < k + 1)=>(laws_szLeafS.rel_l k');rw [PK.laws_szLeafS.f] at h;rw [laws_szLeafS.f]
 try simp only [w64_eq,wu8_eq,gt_iff_lt,ge_iff_le,int_beq,fdiv33,fdiv45,bt_eq,tmodN,rdOfB,rdOfL] at h
 try simp only [shlR]
 try simp only [w64_eq,wu8_eq,gt_iff_lt,ge_iff_le,int_beq,fdiv33,fdiv45,bt_eq,tmodN,rdOfB,rdOfL,rdT3_eq,rdT5_eq,seq,maxI,minI,emp_eq,rdn139,rdn91,rdn104,rdn3,rdn119,rdn80,rdn128,rdn71,rdn75,rdn133,rdn5,rdn96,rdn68]
 refine (itE h (fun q h=>?_) (fun q h=>((fun h=>?_) (il0 _ (by omega) _ _ _ _ h m (by omega)))))
 all_goals clear il0
 all_goals (try cases h)
 all_goals (try simp only [*,if_true,if_false,↓reduceIte,Option.bind_some,List.length_cons,List.length_nil,List.length_append,Bool.not_true,Bool.not_false,Bool.true_eq_false,Bool.false_eq_true])
 all_goals (repeat first | rw [if_pos (by omega)] | rw [if_neg (by omega)])
 all_goals first | exact h | apply h | rfl | (simp_all [-Bool.forall_bool];done) | (simp_all [-Bool.forall_bool];first | exact h | apply h) | (simp_all [-Bool.forall_bool,emp_eq,int_beq];done) | (simp_all [-Bool.forall_bool];(intros;simp_all;done)) | (simp_all [-Bool.forall_bool,rdset139,rdset91,rdset104,rdset3,rdset119,rdset80,rdset128,rdset71,rdset75,rdset133,rdset5,rdset96,rdset68];done) | grind
theorem laws_szBlock.rel (k : Nat) (a0_0 : Bool) (a0_1 : Int) (l0_2 : List (S139)) (a1 : Int) (r) (h : PK.laws_szBlock.f k a0_0 a0_1 l0_2 a1 = some r) (m : Nat) (hm : k ≤ m) : laws_szBlock.f m a0_0 a0_1 l0_2 a1 = some r:=by
 rw [PK.laws_szBlock.f] at h;rw [laws_szBlock.f]
 try simp only [w64_eq,wu8_eq,gt_iff_lt,ge_iff_le,int_beq,fdiv33,fdiv45,bt_eq,tmodN,rdOfB,rdOfL] at h
 try simp only [shlR]
 try simp only [w64_eq,wu8_eq,gt_iff_lt,ge_iff_le,int_beq,fdiv33,fdiv45,bt_eq,tmodN,rdOfB,rdOfL,rdT3_eq,rdT5_eq,seq,maxI,minI,emp_eq,rdn139,rdn91,rdn104,rdn3,rdn119,rdn80,rdn128,rdn71,rdn75,rdn133,rdn5,rdn96,rdn68]
 refine (bnE h (fun _ g h=>(fun g=>(itE h (fun q h=>?_) (fun q h=>?_))) (laws_szLeafS.rel _ _ _ _ g m (by omega))))
 all_goals (try cases h)
 all_goals (try simp only [*,if_true,if_false,↓reduceIte,Option.bind_some,List.length_cons,List.length_nil,List.length_append,Bool.not_true,Bool.not_false,Bool.true_eq_false,Bool.false_eq_true])
 all_goals (repeat first | rw [if_pos (by omega)] | rw [if_neg (by omega)])
 all_goals first | exact h | apply h | rfl | (simp_all [-Bool.forall_bool];done) | (simp_all [-Bool.forall_bool];first | exact h | apply h) | (simp_all [-Bool.forall_bool,emp_eq,int_beq];done) | (simp_all [-Bool.forall_bool];(intros;simp_all;done)) | (simp_all [-Bool.forall_bool,rdset139,rdset91,rdset104,rdset3,rdset119,rdset80,rdset128,rdset71,rdset75,rdset133,rdset5,rdset96,rdset68];done) | grind
end Go.Proofs.YtbbfkodckpfjcaaGreat.M2

namespace Go.Proofs.YtbbfkodckpfjcaaGreat.M2
open Go Go.RowKit Go.Proofs.YtbbfkodckpfjcaaGreatW.PrintWords Go.Proofs.YtbbfkodckpfjcaaGreat.PK
set_option linter.unusedVariables false
set_option linter.unusedSimpArgs false
set_option maxHeartbeats 1600000
theorem laws_szBlockS.rel_l (k : Nat) : (∀ x0 x1 x5 r,PK.laws_szBlockS.l0 k x0 x1 x5 = some r → ∀ m,k ≤ m → laws_szBlockS.c5 m x0 x1 x5 = some r):=by
 induction k using Nat.strongRecOn with
 | _ k ih =>
 have il0:=fun k' hk'=>(ih k' hk');clear ih;intro x0 x1 x5 r h m hm;cases k with
 | zero=>simp only [PK.laws_szBlockS.l0] at h;cases h
 | succ k =>
  obtain ⟨m,rfl⟩ : ∃ m',m = m' + 1:=⟨m - 1,by omega⟩;rw [PK.laws_szBlockS.l0] at h;rw [laws_szBlockS.c5]
  try simp only [w64_eq,wu8_eq,gt_iff_lt,ge_iff_le,int_beq,fdiv33,fdiv45,bt_eq,tmodN,rdOfB,rdOfL] at h
  try simp only [shlR]
  try simp only [w64_eq,wu8_eq,gt_iff_lt,ge_iff_le,int_beq,fdiv33,fdiv45,bt_eq,tmodN,rdOfB,rdOfL,rdT3_eq,rdT5_eq,seq,maxI,minI,emp_eq,rdn139,rdn91,rdn104,rdn3,rdn119,rdn80,rdn128,rdn71,rdn75,rdn133,rdn5,rdn96,rdn68]
  refine (itE h (fun q h=>(itE h (fun q h=>(bnE h (fun _ g h=>(fun g=>(itE h (fun q h=>?_) (fun q h=>((fun h=>?_) (il0 _ (by omega) _ _ _ _ h m (by omega)))))) (laws_szBlock.rel _ _ _ _ _ _ g m (by omega))))) (fun q h=>(noE h)))) (fun q h=>?_))
  all_goals clear il0
  all_goals (try cases h)
  all_goals (try simp only [*,if_true,if_false,↓reduceIte,Option.bind_some,List.length_cons,List.length_nil,List.length_append,Bool.not_true,Bool.not_false,Bool.true_eq_false,Bool.false_eq_true])
  all_goals (repeat first | rw [if_pos (by omega)] | rw [if_neg (by omega)])
  all_goals first | exact h | apply h | rfl | (simp_all [-Bool.forall_bool];done) | (simp_all [-Bool.forall_bool];first | exact h | apply h) | (simp_all [-Bool.forall_bool,emp_eq,int_beq];done) | (simp_all [-Bool.forall_bool];(intros;simp_all;done)) | (simp_all [-Bool.forall_bool,rdset139,rdset91,rdset104,rdset3,rdset119,rdset80,rdset128,rdset71,rdset75,rdset133,rdset5,rdset96,rdset68];done) | grind
theorem laws_szBlockS.rel (k : Nat) (l0 : List (S91)) (a1 : Int) (r) (h : PK.laws_szBlockS.f k l0 a1 = some r) (m : Nat) (hm : k ≤ m) : laws_szBlockS.f m l0 a1 = some r:=by
 have il0:=fun k' (_ : k' < k + 1)=>(laws_szBlockS.rel_l k');rw [PK.laws_szBlockS.f] at h;rw [laws_szBlockS.f]
 try simp only [w64_eq,wu8_eq,gt_iff_lt,ge_iff_le,int_beq,fdiv33,fdiv45,bt_eq,tmodN,rdOfB,rdOfL] at h
 try simp only [shlR]
 try simp only [w64_eq,wu8_eq,gt_iff_lt,ge_iff_le,int_beq,fdiv33,fdiv45,bt_eq,tmodN,rdOfB,rdOfL,rdT3_eq,rdT5_eq,seq,maxI,minI,emp_eq,rdn139,rdn91,rdn104,rdn3,rdn119,rdn80,rdn128,rdn71,rdn75,rdn133,rdn5,rdn96,rdn68]
 refine (itE h (fun q h=>?_) (fun q h=>((fun h=>?_) (il0 _ (by omega) _ _ _ _ h m (by omega)))))
 all_goals clear il0
 all_goals (try cases h)
 all_goals (try simp only [*,if_true,if_false,↓reduceIte,Option.bind_some,List.length_cons,List.length_nil,List.length_append,Bool.not_true,Bool.not_false,Bool.true_eq_false,Bool.false_eq_true])
 all_goals (repeat first | rw [if_pos (by omega)] | rw [if_neg (by omega)])
 all_goals first | exact h | apply h | rfl | (simp_all [-Bool.forall_bool];done) | (simp_all [-Bool.forall_bool];first | exact h | apply h) | (simp_all [-Bool.forall_bool,emp_eq,int_beq];done) | (simp_all [-Bool.forall_bool];(intros;simp_all;done)) | (simp_all [-Bool.forall_bool,rdset139,rdset91,rdset104,rdset3,rdset119,rdset80,rdset128,rdset71,rdset75,rdset133,rdset5,rdset96,rdset68];done) | grind
theorem laws_szFlash.rel (k : Nat) (l0_0 : List (S91)) (a1 : Int) (r) (h : PK.laws_szFlash.f k l0_0 a1 = some r) (m : Nat) (hm : k ≤ m) : laws_szFlash.f m l0_0 a1 = some r:=by
 rw [PK.laws_szFlash.f] at h;rw [laws_szFlash.f]
 try simp only [w64_eq,wu8_eq,gt_iff_lt,ge_iff_le,int_beq,fdiv33,fdiv45,bt_eq,tmodN,rdOfB,rdOfL] at h
 try simp only [shlR]
 try simp only [w64_eq,wu8_eq,gt_iff_lt,ge_iff_le,int_beq,fdiv33,fdiv45,bt_eq,tmodN,rdOfB,rdOfL,rdT3_eq,rdT5_eq,seq,maxI,minI,emp_eq,rdn139,rdn91,rdn104,rdn3,rdn119,rdn80,rdn128,rdn71,rdn75,rdn133,rdn5,rdn96,rdn68]
 refine (bnE h (fun _ g h=>(fun g=>(itE h (fun q h=>?_) (fun q h=>?_))) (laws_szBlockS.rel _ _ _ _ g m (by omega))))
 all_goals (try cases h)
 all_goals (try simp only [*,if_true,if_false,↓reduceIte,Option.bind_some,List.length_cons,List.length_nil,List.length_append,Bool.not_true,Bool.not_false,Bool.true_eq_false,Bool.false_eq_true])
 all_goals (repeat first | rw [if_pos (by omega)] | rw [if_neg (by omega)])
 all_goals first | exact h | apply h | rfl | (simp_all [-Bool.forall_bool];done) | (simp_all [-Bool.forall_bool];first | exact h | apply h) | (simp_all [-Bool.forall_bool,emp_eq,int_beq];done) | (simp_all [-Bool.forall_bool];(intros;simp_all;done)) | (simp_all [-Bool.forall_bool,rdset139,rdset91,rdset104,rdset3,rdset119,rdset80,rdset128,rdset71,rdset75,rdset133,rdset5,rdset96,rdset68];done) | grind
theorem laws_toLeaf.rel (k : Nat) (a0_0 : Int) (a0_1 : ByteArray) (r) (h : PK.laws_toLeaf.f a0_0 a0_1 = some r) (m : Nat) (hm : k ≤ m) : laws_toLeaf.f m a0_0 a0_1 = some (r.1,r.2):=by
 rw [PK.laws_toLeaf.f] at h;rw [laws_toLeaf.f]
 try simp only [w64_eq,wu8_eq,gt_iff_lt,ge_iff_le,int_beq,fdiv33,fdiv45,bt_eq,tmodN,rdOfB,rdOfL] at h
 try simp only [shlR]
 try simp only [w64_eq,wu8_eq,gt_iff_lt,ge_iff_le,int_beq,fdiv33,fdiv45,bt_eq,tmodN,rdOfB,rdOfL,rdT3_eq,rdT5_eq,seq,maxI,minI,emp_eq,rdn139,rdn91,rdn104,rdn3,rdn119,rdn80,rdn128,rdn71,rdn75,rdn133,rdn5,rdn96,rdn68]
 refine ?_
 all_goals (try cases h)
 all_goals (try simp only [*,if_true,if_false,↓reduceIte,Option.bind_some,List.length_cons,List.length_nil,List.length_append,Bool.not_true,Bool.not_false,Bool.true_eq_false,Bool.false_eq_true])
 all_goals (repeat first | rw [if_pos (by omega)] | rw [if_neg (by omega)])
 all_goals first | exact h | apply h | rfl | (simp_all [-Bool.forall_bool];done) | (simp_all [-Bool.forall_bool];first | exact h | apply h) | (simp_all [-Bool.forall_bool,emp_eq,int_beq];done) | (simp_all [-Bool.forall_bool];(intros;simp_all;done)) | (simp_all [-Bool.forall_bool,rdset139,rdset91,rdset104,rdset3,rdset119,rdset80,rdset128,rdset71,rdset75,rdset133,rdset5,rdset96,rdset68];done) | grind
end Go.Proofs.YtbbfkodckpfjcaaGreat.M2

namespace Go.Proofs.YtbbfkodckpfjcaaGreat.M2
open Go Go.RowKit Go.Proofs.YtbbfkodckpfjcaaGreatW.PrintWords Go.Proofs.YtbbfkodckpfjcaaGreat.PK
set_option linter.unusedVariables false
set_option linter.unusedSimpArgs false
set_option maxHeartbeats 1600000
theorem laws_toLeafS.rel_l (k : Nat) : (∀ x0 x3 x4 r,PK.laws_toLeafS.l0 k x0 x3 x4 = some r → ∀ m,k ≤ m → laws_toLeafS.c3 m x0 x4 x3 = some r):=by
 induction k using Nat.strongRecOn with
 | _ k ih =>
 have il0:=fun k' hk'=>(ih k' hk');clear ih;intro x0 x3 x4 r h m hm;cases k with
 | zero=>simp only [PK.laws_toLeafS.l0] at h;cases h
 | succ k =>
  obtain ⟨m,rfl⟩ : ∃ m',m = m' + 1:=⟨m - 1,by omega⟩;rw [PK.laws_toLeafS.l0] at h;rw [laws_toLeafS.c3]
  try simp only [w64_eq,wu8_eq,gt_iff_lt,ge_iff_le,int_beq,fdiv33,fdiv45,bt_eq,tmodN,rdOfB,rdOfL] at h
  try simp only [shlR]
  try simp only [w64_eq,wu8_eq,gt_iff_lt,ge_iff_le,int_beq,fdiv33,fdiv45,bt_eq,tmodN,rdOfB,rdOfL,rdT3_eq,rdT5_eq,seq,maxI,minI,emp_eq,rdn139,rdn91,rdn104,rdn3,rdn119,rdn80,rdn128,rdn71,rdn75,rdn133,rdn5,rdn96,rdn68]
  refine (itE h (fun q h=>(itE h (fun q h=>(bnE h (fun _ g h=>(fun g=>(itE h (fun q h=>((fun h=>?_) (il0 _ (by omega) _ _ _ _ h m (by omega)))) (fun q h=>(noE h)))) (laws_toLeaf.rel m _ _ _ g m (by omega))))) (fun q h=>(noE h)))) (fun q h=>?_))
  all_goals clear il0
  all_goals (try cases h)
  all_goals (try simp only [*,if_true,if_false,↓reduceIte,Option.bind_some,List.length_cons,List.length_nil,List.length_append,Bool.not_true,Bool.not_false,Bool.true_eq_false,Bool.false_eq_true])
  all_goals (repeat first | rw [if_pos (by omega)] | rw [if_neg (by omega)])
  all_goals first | exact h | apply h | rfl | (simp_all [-Bool.forall_bool];done) | (simp_all [-Bool.forall_bool];first | exact h | apply h) | (simp_all [-Bool.forall_bool,emp_eq,int_beq];done) | (simp_all [-Bool.forall_bool];(intros;simp_all;done)) | (simp_all [-Bool.forall_bool,rdset139,rdset91,rdset104,rdset3,rdset119,rdset80,rdset128,rdset71,rdset75,rdset133,rdset5,rdset96,rdset68];done) | grind
theorem laws_toLeafS.rel (k : Nat) (l0 : List (S139)) (r) (h : PK.laws_toLeafS.f k l0 = some r) (m : Nat) (hm : k ≤ m) : laws_toLeafS.f m l0 = some r:=by
 have il0:=fun k' (_ : k' < k + 1)=>(laws_toLeafS.rel_l k');rw [PK.laws_toLeafS.f] at h;rw [laws_toLeafS.f]
 try simp only [w64_eq,wu8_eq,gt_iff_lt,ge_iff_le,int_beq,fdiv33,fdiv45,bt_eq,tmodN,rdOfB,rdOfL] at h
 try simp only [shlR]
 try simp only [w64_eq,wu8_eq,gt_iff_lt,ge_iff_le,int_beq,fdiv33,fdiv45,bt_eq,tmodN,rdOfB,rdOfL,rdT3_eq,rdT5_eq,seq,maxI,minI,emp_eq,rdn139,rdn91,rdn104,rdn3,rdn119,rdn80,rdn128,rdn71,rdn75,rdn133,rdn5,rdn96,rdn68]
 refine (itE h (fun q h=>(itE h (fun q h=>((fun h=>?_) (il0 _ (by omega) _ _ _ _ h m (by omega)))) (fun q h=>(noE h)))) (fun q h=>(noE h)))
 all_goals clear il0
 all_goals (try cases h)
 all_goals (try simp only [*,if_true,if_false,↓reduceIte,Option.bind_some,List.length_cons,List.length_nil,List.length_append,Bool.not_true,Bool.not_false,Bool.true_eq_false,Bool.false_eq_true])
 all_goals (repeat first | rw [if_pos (by omega)] | rw [if_neg (by omega)])
 all_goals first | exact h | apply h | rfl | (simp_all [-Bool.forall_bool];done) | (simp_all [-Bool.forall_bool];first | exact h | apply h) | (simp_all [-Bool.forall_bool,emp_eq,int_beq];done) | (simp_all [-Bool.forall_bool];(intros;simp_all;done)) | (simp_all [-Bool.forall_bool,rdset139,rdset91,rdset104,rdset3,rdset119,rdset80,rdset128,rdset71,rdset75,rdset133,rdset5,rdset96,rdset68];done) | grind
theorem laws_toBlock.rel (k : Nat) (a0_0 : Bool) (a0_1 : Int) (l0_2 : List (S139)) (r) (h : PK.laws_toBlock.f k a0_0 a0_1 l0_2 = some r) (m : Nat) (hm : k ≤ m) : laws_toBlock.f m a0_0 a0_1 l0_2 = some (r.1,r.2.1,r.2.2):=by
 rw [PK.laws_toBlock.f] at h;rw [laws_toBlock.f]
 try simp only [w64_eq,wu8_eq,gt_iff_lt,ge_iff_le,int_beq,fdiv33,fdiv45,bt_eq,tmodN,rdOfB,rdOfL] at h
 try simp only [shlR]
 try simp only [w64_eq,wu8_eq,gt_iff_lt,ge_iff_le,int_beq,fdiv33,fdiv45,bt_eq,tmodN,rdOfB,rdOfL,rdT3_eq,rdT5_eq,seq,maxI,minI,emp_eq,rdn139,rdn91,rdn104,rdn3,rdn119,rdn80,rdn128,rdn71,rdn75,rdn133,rdn5,rdn96,rdn68]
 refine (bnE h (fun _ g h=>(fun g=>?_) (laws_toLeafS.rel _ _ _ g m (by omega))))
 all_goals (try cases h)
 all_goals (try simp only [*,if_true,if_false,↓reduceIte,Option.bind_some,List.length_cons,List.length_nil,List.length_append,Bool.not_true,Bool.not_false,Bool.true_eq_false,Bool.false_eq_true])
 all_goals (repeat first | rw [if_pos (by omega)] | rw [if_neg (by omega)])
 all_goals first | exact h | apply h | rfl | (simp_all [-Bool.forall_bool];done) | (simp_all [-Bool.forall_bool];first | exact h | apply h) | (simp_all [-Bool.forall_bool,emp_eq,int_beq];done) | (simp_all [-Bool.forall_bool];(intros;simp_all;done)) | (simp_all [-Bool.forall_bool,rdset139,rdset91,rdset104,rdset3,rdset119,rdset80,rdset128,rdset71,rdset75,rdset133,rdset5,rdset96,rdset68];done) | grind
theorem laws_toBlockS.rel_l (k : Nat) : (∀ x0 x3 x4 r,PK.laws_toBlockS.l0 k x0 x3 x4 = some r → ∀ m,k ≤ m → laws_toBlockS.c3 m x0 x4 x3 = some r):=by
 induction k using Nat.strongRecOn with
 | _ k ih =>
 have il0:=fun k' hk'=>(ih k' hk');clear ih;intro x0 x3 x4 r h m hm;cases k with
 | zero=>simp only [PK.laws_toBlockS.l0] at h;cases h
 | succ k =>
  obtain ⟨m,rfl⟩ : ∃ m',m = m' + 1:=⟨m - 1,by omega⟩;rw [PK.laws_toBlockS.l0] at h;rw [laws_toBlockS.c3]
  try simp only [w64_eq,wu8_eq,gt_iff_lt,ge_iff_le,int_beq,fdiv33,fdiv45,bt_eq,tmodN,rdOfB,rdOfL] at h
  try simp only [shlR]
  try simp only [w64_eq,wu8_eq,gt_iff_lt,ge_iff_le,int_beq,fdiv33,fdiv45,bt_eq,tmodN,rdOfB,rdOfL,rdT3_eq,rdT5_eq,seq,maxI,minI,emp_eq,rdn139,rdn91,rdn104,rdn3,rdn119,rdn80,rdn128,rdn71,rdn75,rdn133,rdn5,rdn96,rdn68]
  refine (itE h (fun q h=>(itE h (fun q h=>(bnE h (fun _ g h=>(fun g=>(itE h (fun q h=>((fun h=>?_) (il0 _ (by omega) _ _ _ _ h m (by omega)))) (fun q h=>(noE h)))) (laws_toBlock.rel _ _ _ _ _ g m (by omega))))) (fun q h=>(noE h)))) (fun q h=>?_))
  all_goals clear il0
  all_goals (try cases h)
  all_goals (try simp only [*,if_true,if_false,↓reduceIte,Option.bind_some,List.length_cons,List.length_nil,List.length_append,Bool.not_true,Bool.not_false,Bool.true_eq_false,Bool.false_eq_true])
  all_goals (repeat first | rw [if_pos (by omega)] | rw [if_neg (by omega)])
  all_goals first | exact h | apply h | rfl | (simp_all [-Bool.forall_bool];done) | (simp_all [-Bool.forall_bool];first | exact h | apply h) | (simp_all [-Bool.forall_bool,emp_eq,int_beq];done) | (simp_all [-Bool.forall_bool];(intros;simp_all;done)) | (simp_all [-Bool.forall_bool,rdset139,rdset91,rdset104,rdset3,rdset119,rdset80,rdset128,rdset71,rdset75,rdset133,rdset5,rdset96,rdset68];done) | grind
theorem laws_toBlockS.rel (k : Nat) (l0 : List (S91)) (r) (h : PK.laws_toBlockS.f k l0 = some r) (m : Nat) (hm : k ≤ m) : laws_toBlockS.f m l0 = some r:=by
 have il0:=fun k' (_ : k' < k + 1)=>(laws_toBlockS.rel_l k');rw [PK.laws_toBlockS.f] at h;rw [laws_toBlockS.f]
 try simp only [w64_eq,wu8_eq,gt_iff_lt,ge_iff_le,int_beq,fdiv33,fdiv45,bt_eq,tmodN,rdOfB,rdOfL] at h
 try simp only [shlR]
 try simp only [w64_eq,wu8_eq,gt_iff_lt,ge_iff_le,int_beq,fdiv33,fdiv45,bt_eq,tmodN,rdOfB,rdOfL,rdT3_eq,rdT5_eq,seq,maxI,minI,emp_eq,rdn139,rdn91,rdn104,rdn3,rdn119,rdn80,rdn128,rdn71,rdn75,rdn133,rdn5,rdn96,rdn68]
 refine (itE h (fun q h=>(itE h (fun q h=>((fun h=>?_) (il0 _ (by omega) _ _ _ _ h m (by omega)))) (fun q h=>(noE h)))) (fun q h=>(noE h)))
 all_goals clear il0
 all_goals (try cases h)
 all_goals (try simp only [*,if_true,if_false,↓reduceIte,Option.bind_some,List.length_cons,List.length_nil,List.length_append,Bool.not_true,Bool.not_false,Bool.true_eq_false,Bool.false_eq_true])
 all_goals (repeat first | rw [if_pos (by omega)] | rw [if_neg (by omega)])
 all_goals first | exact h | apply h | rfl | (simp_all [-Bool.forall_bool];done) | (simp_all [-Bool.forall_bool];first | exact h | apply h) | (simp_all [-Bool.forall_bool,emp_eq,int_beq];done) | (simp_all [-Bool.forall_bool];(intros;simp_all;done)) | (simp_all [-Bool.forall_bool,rdset139,rdset91,rdset104,rdset3,rdset119,rdset80,rdset128,rdset71,rdset75,rdset133,rdset5,rdset96,rdset68];done) | grind
end Go.Proofs.YtbbfkodckpfjcaaGreat.M2

namespace Go.Proofs.YtbbfkodckpfjcaaGreat.M2
open Go Go.RowKit Go.Proofs.YtbbfkodckpfjcaaGreatW.PrintWords Go.Proofs.YtbbfkodckpfjcaaGreat.PK
set_option linter.unusedVariables false
set_option linter.unusedSimpArgs false
set_option maxHeartbeats 1600000
theorem laws_toFlash.rel (k : Nat) (l0_0 : List (S91)) (r) (h : PK.laws_toFlash.f k l0_0 = some r) (m : Nat) (hm : k ≤ m) : laws_toFlash.f m l0_0 = some r:=by
 rw [PK.laws_toFlash.f] at h;rw [laws_toFlash.f]
 try simp only [w64_eq,wu8_eq,gt_iff_lt,ge_iff_le,int_beq,fdiv33,fdiv45,bt_eq,tmodN,rdOfB,rdOfL] at h
 try simp only [shlR]
 try simp only [w64_eq,wu8_eq,gt_iff_lt,ge_iff_le,int_beq,fdiv33,fdiv45,bt_eq,tmodN,rdOfB,rdOfL,rdT3_eq,rdT5_eq,seq,maxI,minI,emp_eq,rdn139,rdn91,rdn104,rdn3,rdn119,rdn80,rdn128,rdn71,rdn75,rdn133,rdn5,rdn96,rdn68]
 refine (bnE h (fun _ g h=>(fun g=>?_) (laws_toBlockS.rel _ _ _ g m (by omega))))
 all_goals (try cases h)
 all_goals (try simp only [*,if_true,if_false,↓reduceIte,Option.bind_some,List.length_cons,List.length_nil,List.length_append,Bool.not_true,Bool.not_false,Bool.true_eq_false,Bool.false_eq_true])
 all_goals (repeat first | rw [if_pos (by omega)] | rw [if_neg (by omega)])
 all_goals first | exact h | apply h | rfl | (simp_all [-Bool.forall_bool];done) | (simp_all [-Bool.forall_bool];first | exact h | apply h) | (simp_all [-Bool.forall_bool,emp_eq,int_beq];done) | (simp_all [-Bool.forall_bool];(intros;simp_all;done)) | (simp_all [-Bool.forall_bool,rdset139,rdset91,rdset104,rdset3,rdset119,rdset80,rdset128,rdset71,rdset75,rdset133,rdset5,rdset96,rdset68];done) | grind
theorem laws_eqLeaf.rel (k : Nat) (a0_0 : Int) (a0_1 : ByteArray) (a1_0 : Int) (a1_1 : ByteArray) (r) (h : PK.laws_eqLeaf.f a0_0 a0_1 a1_0 a1_1 = some r) (m : Nat) (hm : k ≤ m) : laws_eqLeaf.f m a0_0 a0_1 a1_0 a1_1 = some r:=by
 rw [PK.laws_eqLeaf.f] at h;rw [laws_eqLeaf.f]
 try simp only [w64_eq,wu8_eq,gt_iff_lt,ge_iff_le,int_beq,fdiv33,fdiv45,bt_eq,tmodN,rdOfB,rdOfL] at h
 try simp only [shlR]
 try simp only [w64_eq,wu8_eq,gt_iff_lt,ge_iff_le,int_beq,fdiv33,fdiv45,bt_eq,tmodN,rdOfB,rdOfL,rdT3_eq,rdT5_eq,seq,maxI,minI,emp_eq,rdn139,rdn91,rdn104,rdn3,rdn119,rdn80,rdn128,rdn71,rdn75,rdn133,rdn5,rdn96,rdn68]
 refine (itE h (fun q h=>(itE h (fun q h=>?_) (fun q h=>?_))) (fun q h=>?_))
 all_goals (try cases h)
 all_goals (try simp only [*,if_true,if_false,↓reduceIte,Option.bind_some,List.length_cons,List.length_nil,List.length_append,Bool.not_true,Bool.not_false,Bool.true_eq_false,Bool.false_eq_true])
 all_goals (repeat first | rw [if_pos (by omega)] | rw [if_neg (by omega)])
 all_goals first | exact h | apply h | rfl | (simp_all [-Bool.forall_bool];done) | (simp_all [-Bool.forall_bool];first | exact h | apply h) | (simp_all [-Bool.forall_bool,emp_eq,int_beq];done) | (simp_all [-Bool.forall_bool];(intros;simp_all;done)) | (simp_all [-Bool.forall_bool,rdset139,rdset91,rdset104,rdset3,rdset119,rdset80,rdset128,rdset71,rdset75,rdset133,rdset5,rdset96,rdset68];done) | grind
theorem laws_eqLeafS.rel_l (k : Nat) : (∀ x0 x1 x5 r,PK.laws_eqLeafS.l0 k x0 x1 x5 = some r → ∀ m,k ≤ m → laws_eqLeafS.c4 m x0 x1 x5 = some r):=by
 induction k using Nat.strongRecOn with
 | _ k ih =>
 have il0:=fun k' hk'=>(ih k' hk');clear ih;intro x0 x1 x5 r h m hm;cases k with
 | zero=>simp only [PK.laws_eqLeafS.l0] at h;cases h
 | succ k =>
  obtain ⟨m,rfl⟩ : ∃ m',m = m' + 1:=⟨m - 1,by omega⟩;rw [PK.laws_eqLeafS.l0] at h;rw [laws_eqLeafS.c4]
  try simp only [w64_eq,wu8_eq,gt_iff_lt,ge_iff_le,int_beq,fdiv33,fdiv45,bt_eq,tmodN,rdOfB,rdOfL] at h
  try simp only [shlR]
  try simp only [w64_eq,wu8_eq,gt_iff_lt,ge_iff_le,int_beq,fdiv33,fdiv45,bt_eq,tmodN,rdOfB,rdOfL,rdT3_eq,rdT5_eq,seq,maxI,minI,emp_eq,rdn139,rdn91,rdn104,rdn3,rdn119,rdn80,rdn128,rdn71,rdn75,rdn133,rdn5,rdn96,rdn68]
  refine (itE h (fun q h=>(itE h (fun q h=>(itE h (fun q h=>(bnE h (fun _ g h=>(fun g=>(itE h (fun q h=>((fun h=>?_) (il0 _ (by omega) _ _ _ _ h m (by omega)))) (fun q h=>?_))) (laws_eqLeaf.rel m _ _ _ _ _ g m (by omega))))) (fun q h=>(noE h)))) (fun q h=>(noE h)))) (fun q h=>?_))
  all_goals clear il0
  all_goals (try cases h)
  all_goals (try simp only [*,if_true,if_false,↓reduceIte,Option.bind_some,List.length_cons,List.length_nil,List.length_append,Bool.not_true,Bool.not_false,Bool.true_eq_false,Bool.false_eq_true])
  all_goals (repeat first | rw [if_pos (by omega)] | rw [if_neg (by omega)])
  all_goals first | exact h | apply h | rfl | (simp_all [-Bool.forall_bool];done) | (simp_all [-Bool.forall_bool];first | exact h | apply h) | (simp_all [-Bool.forall_bool,emp_eq,int_beq];done) | (simp_all [-Bool.forall_bool];(intros;simp_all;done)) | (simp_all [-Bool.forall_bool,rdset139,rdset91,rdset104,rdset3,rdset119,rdset80,rdset128,rdset71,rdset75,rdset133,rdset5,rdset96,rdset68];done) | grind
theorem laws_eqLeafS.rel (k : Nat) (l0 : List (S96)) (l1 : List (S96)) (r) (h : PK.laws_eqLeafS.f k l0 l1 = some r) (m : Nat) (hm : k ≤ m) : laws_eqLeafS.f m l0 l1 = some r:=by
 have il0:=fun k' (_ : k' < k + 1)=>(laws_eqLeafS.rel_l k');rw [PK.laws_eqLeafS.f] at h;rw [laws_eqLeafS.f]
 try simp only [w64_eq,wu8_eq,gt_iff_lt,ge_iff_le,int_beq,fdiv33,fdiv45,bt_eq,tmodN,rdOfB,rdOfL] at h
 try simp only [shlR]
 try simp only [w64_eq,wu8_eq,gt_iff_lt,ge_iff_le,int_beq,fdiv33,fdiv45,bt_eq,tmodN,rdOfB,rdOfL,rdT3_eq,rdT5_eq,seq,maxI,minI,emp_eq,rdn139,rdn91,rdn104,rdn3,rdn119,rdn80,rdn128,rdn71,rdn75,rdn133,rdn5,rdn96,rdn68]
 refine (itE h (fun q h=>((fun h=>?_) (il0 _ (by omega) _ _ _ _ h m (by omega)))) (fun q h=>?_))
 all_goals clear il0
 all_goals (try cases h)
 all_goals (try simp only [*,if_true,if_false,↓reduceIte,Option.bind_some,List.length_cons,List.length_nil,List.length_append,Bool.not_true,Bool.not_false,Bool.true_eq_false,Bool.false_eq_true])
 all_goals (repeat first | rw [if_pos (by omega)] | rw [if_neg (by omega)])
 all_goals first | exact h | apply h | rfl | (simp_all [-Bool.forall_bool];done) | (simp_all [-Bool.forall_bool];first | exact h | apply h) | (simp_all [-Bool.forall_bool,emp_eq,int_beq];done) | (simp_all [-Bool.forall_bool];(intros;simp_all;done)) | (simp_all [-Bool.forall_bool,rdset139,rdset91,rdset104,rdset3,rdset119,rdset80,rdset128,rdset71,rdset75,rdset133,rdset5,rdset96,rdset68];done) | grind
end Go.Proofs.YtbbfkodckpfjcaaGreat.M2

namespace Go.Proofs.YtbbfkodckpfjcaaGreat.M2
open Go Go.RowKit Go.Proofs.YtbbfkodckpfjcaaGreatW.PrintWords Go.Proofs.YtbbfkodckpfjcaaGreat.PK
set_option linter.unusedVariables false
set_option linter.unusedSimpArgs false
set_option maxHeartbeats 1600000
theorem laws_eqBlock.rel (k : Nat) (a0_0 : Bool) (a0_1 : Int) (l0_2 : List (S96)) (a1_0 : Bool) (a1_1 : Int) (l1_2 : List (S96)) (r) (h : PK.laws_eqBlock.f k a0_0 a0_1 l0_2 a1_0 a1_1 l1_2 = some r) (m : Nat) (hm : k ≤ m) : laws_eqBlock.f m a0_0 a0_1 l0_2 a1_0 a1_1 l1_2 = some r:=by
 rw [PK.laws_eqBlock.f] at h;rw [laws_eqBlock.f]
 try simp only [w64_eq,wu8_eq,gt_iff_lt,ge_iff_le,int_beq,fdiv33,fdiv45,bt_eq,tmodN,rdOfB,rdOfL] at h
 try simp only [shlR]
 try simp only [w64_eq,wu8_eq,gt_iff_lt,ge_iff_le,int_beq,fdiv33,fdiv45,bt_eq,tmodN,rdOfB,rdOfL,rdT3_eq,rdT5_eq,seq,maxI,minI,emp_eq,rdn139,rdn91,rdn104,rdn3,rdn119,rdn80,rdn128,rdn71,rdn75,rdn133,rdn5,rdn96,rdn68]
 refine (itE h (fun q h=>?_) (fun q h=>(itE h (fun q h=>(bnE h (fun _ g h=>(fun g=>(itE h (fun q h=>?_) (fun q h=>?_))) (laws_eqLeafS.rel _ _ _ _ g m (by omega))))) (fun q h=>?_))))
 all_goals (try cases h)
 all_goals (try simp only [*,if_true,if_false,↓reduceIte,Option.bind_some,List.length_cons,List.length_nil,List.length_append,Bool.not_true,Bool.not_false,Bool.true_eq_false,Bool.false_eq_true])
 all_goals (repeat first | rw [if_pos (by omega)] | rw [if_neg (by omega)])
 all_goals first | exact h | apply h | rfl | (simp_all [-Bool.forall_bool];done) | (simp_all [-Bool.forall_bool];first | exact h | apply h) | (simp_all [-Bool.forall_bool,emp_eq,int_beq];done) | (simp_all [-Bool.forall_bool];(intros;simp_all;done)) | (simp_all [-Bool.forall_bool,rdset139,rdset91,rdset104,rdset3,rdset119,rdset80,rdset128,rdset71,rdset75,rdset133,rdset5,rdset96,rdset68];done) | grind
theorem laws_eqBlockS.rel_l (k : Nat) : (∀ x0 x1 x5 r,PK.laws_eqBlockS.l0 k x0 x1 x5 = some r → ∀ m,k ≤ m → laws_eqBlockS.c4 m x0 x1 x5 = some r):=by
 induction k using Nat.strongRecOn with
 | _ k ih =>
 have il0:=fun k' hk'=>(ih k' hk');clear ih;intro x0 x1 x5 r h m hm;cases k with
 | zero=>simp only [PK.laws_eqBlockS.l0] at h;cases h
 | succ k =>
  obtain ⟨m,rfl⟩ : ∃ m',m = m' + 1:=⟨m - 1,by omega⟩;rw [PK.laws_eqBlockS.l0] at h;rw [laws_eqBlockS.c4]
  try simp only [w64_eq,wu8_eq,gt_iff_lt,ge_iff_le,int_beq,fdiv33,fdiv45,bt_eq,tmodN,rdOfB,rdOfL] at h
  try simp only [shlR]
  try simp only [w64_eq,wu8_eq,gt_iff_lt,ge_iff_le,int_beq,fdiv33,fdiv45,bt_eq,tmodN,rdOfB,rdOfL,rdT3_eq,rdT5_eq,seq,maxI,minI,emp_eq,rdn139,rdn91,rdn104,rdn3,rdn119,rdn80,rdn128,rdn71,rdn75,rdn133,rdn5,rdn96,rdn68]
  refine (itE h (fun q h=>(itE h (fun q h=>(itE h (fun q h=>(bnE h (fun _ g h=>(fun g=>(itE h (fun q h=>((fun h=>?_) (il0 _ (by omega) _ _ _ _ h m (by omega)))) (fun q h=>?_))) (laws_eqBlock.rel _ _ _ _ _ _ _ _ g m (by omega))))) (fun q h=>(noE h)))) (fun q h=>(noE h)))) (fun q h=>?_))
  all_goals clear il0
  all_goals (try cases h)
  all_goals (try simp only [*,if_true,if_false,↓reduceIte,Option.bind_some,List.length_cons,List.length_nil,List.length_append,Bool.not_true,Bool.not_false,Bool.true_eq_false,Bool.false_eq_true])
  all_goals (repeat first | rw [if_pos (by omega)] | rw [if_neg (by omega)])
  all_goals first | exact h | apply h | rfl | (simp_all [-Bool.forall_bool];done) | (simp_all [-Bool.forall_bool];first | exact h | apply h) | (simp_all [-Bool.forall_bool,emp_eq,int_beq];done) | (simp_all [-Bool.forall_bool];(intros;simp_all;done)) | (simp_all [-Bool.forall_bool,rdset139,rdset91,rdset104,rdset3,rdset119,rdset80,rdset128,rdset71,rdset75,rdset133,rdset5,rdset96,rdset68];done) | grind
theorem laws_eqBlockS.rel (k : Nat) (l0 : List (S68)) (l1 : List (S68)) (r) (h : PK.laws_eqBlockS.f k l0 l1 = some r) (m : Nat) (hm : k ≤ m) : laws_eqBlockS.f m l0 l1 = some r:=by
 have il0:=fun k' (_ : k' < k + 1)=>(laws_eqBlockS.rel_l k');rw [PK.laws_eqBlockS.f] at h;rw [laws_eqBlockS.f]
 try simp only [w64_eq,wu8_eq,gt_iff_lt,ge_iff_le,int_beq,fdiv33,fdiv45,bt_eq,tmodN,rdOfB,rdOfL] at h
 try simp only [shlR]
 try simp only [w64_eq,wu8_eq,gt_iff_lt,ge_iff_le,int_beq,fdiv33,fdiv45,bt_eq,tmodN,rdOfB,rdOfL,rdT3_eq,rdT5_eq,seq,maxI,minI,emp_eq,rdn139,rdn91,rdn104,rdn3,rdn119,rdn80,rdn128,rdn71,rdn75,rdn133,rdn5,rdn96,rdn68]
 refine (itE h (fun q h=>((fun h=>?_) (il0 _ (by omega) _ _ _ _ h m (by omega)))) (fun q h=>?_))
 all_goals clear il0
 all_goals (try cases h)
 all_goals (try simp only [*,if_true,if_false,↓reduceIte,Option.bind_some,List.length_cons,List.length_nil,List.length_append,Bool.not_true,Bool.not_false,Bool.true_eq_false,Bool.false_eq_true])
 all_goals (repeat first | rw [if_pos (by omega)] | rw [if_neg (by omega)])
 all_goals first | exact h | apply h | rfl | (simp_all [-Bool.forall_bool];done) | (simp_all [-Bool.forall_bool];first | exact h | apply h) | (simp_all [-Bool.forall_bool,emp_eq,int_beq];done) | (simp_all [-Bool.forall_bool];(intros;simp_all;done)) | (simp_all [-Bool.forall_bool,rdset139,rdset91,rdset104,rdset3,rdset119,rdset80,rdset128,rdset71,rdset75,rdset133,rdset5,rdset96,rdset68];done) | grind
theorem laws_eqFlash.rel (k : Nat) (l0_0 : List (S68)) (l1_0 : List (S68)) (r) (h : PK.laws_eqFlash.f k l0_0 l1_0 = some r) (m : Nat) (hm : k ≤ m) : laws_eqFlash.f m l0_0 l1_0 = some r:=by
 rw [PK.laws_eqFlash.f] at h;rw [laws_eqFlash.f]
 try simp only [w64_eq,wu8_eq,gt_iff_lt,ge_iff_le,int_beq,fdiv33,fdiv45,bt_eq,tmodN,rdOfB,rdOfL] at h
 try simp only [shlR]
 try simp only [w64_eq,wu8_eq,gt_iff_lt,ge_iff_le,int_beq,fdiv33,fdiv45,bt_eq,tmodN,rdOfB,rdOfL,rdT3_eq,rdT5_eq,seq,maxI,minI,emp_eq,rdn139,rdn91,rdn104,rdn3,rdn119,rdn80,rdn128,rdn71,rdn75,rdn133,rdn5,rdn96,rdn68]
 refine (bnE h (fun _ g h=>(fun g=>(itE h (fun q h=>?_) (fun q h=>?_))) (laws_eqBlockS.rel _ _ _ _ g m (by omega))))
 all_goals (try cases h)
 all_goals (try simp only [*,if_true,if_false,↓reduceIte,Option.bind_some,List.length_cons,List.length_nil,List.length_append,Bool.not_true,Bool.not_false,Bool.true_eq_false,Bool.false_eq_true])
 all_goals (repeat first | rw [if_pos (by omega)] | rw [if_neg (by omega)])
 all_goals first | exact h | apply h | rfl | (simp_all [-Bool.forall_bool];done) | (simp_all [-Bool.forall_bool];first | exact h | apply h) | (simp_all [-Bool.forall_bool,emp_eq,int_beq];done) | (simp_all [-Bool.forall_bool];(intros;simp_all;done)) | (simp_all [-Bool.forall_bool,rdset139,rdset91,rdset104,rdset3,rdset119,rdset80,rdset128,rdset71,rdset75,rdset133,rdset5,rdset96,rdset68];done) | grind
end Go.Proofs.YtbbfkodckpfjcaaGreat.M2

namespace Go.Proofs.YtbbfkodckpfjcaaGreat.M2
open Go Go.RowKit Go.Proofs.YtbbfkodckpfjcaaGreatW.PrintWords Go.Proofs.YtbbfkodckpfjcaaGreat.PK
set_option linter.unusedVariables false
set_option linter.unusedSimpArgs false
set_option maxHeartbeats 1600000
theorem spec_l12At.rel_l (k : Nat) : (∀ x1 x5 x123000 x123001 x123002 r,PK.spec_l12At.l0 k x1 x5 x123000 x123001 x123002 = some r → ∀ m,k ≤ m → spec_l12At.c2 m x1 x5 x123000 x123001 x123002 = some r):=by
 induction k using Nat.strongRecOn with
 | _ k ih =>
 have il0:=fun k' hk'=>(ih k' hk');clear ih;intro x1 x5 x123000 x123001 x123002 r h m hm;cases k with
 | zero=>simp only [PK.spec_l12At.l0] at h;cases h
 | succ k =>
  obtain ⟨m,rfl⟩ : ∃ m',m = m' + 1:=⟨m - 1,by omega⟩;rw [PK.spec_l12At.l0] at h;rw [spec_l12At.c2]
  try simp only [w64_eq,wu8_eq,gt_iff_lt,ge_iff_le,int_beq,fdiv33,fdiv45,bt_eq,tmodN,rdOfB,rdOfL] at h
  try simp only [shlR]
  try simp only [w64_eq,wu8_eq,gt_iff_lt,ge_iff_le,int_beq,fdiv33,fdiv45,bt_eq,tmodN,rdOfB,rdOfL,rdT3_eq,rdT5_eq,seq,maxI,minI,emp_eq,rdn139,rdn91,rdn104,rdn3,rdn119,rdn80,rdn128,rdn71,rdn75,rdn133,rdn5,rdn96,rdn68]
  refine (itE h (fun q h=>(itE h (fun q h=>(itE h (fun q h=>?_) (fun q h=>((fun h=>?_) (il0 _ (by omega) _ _ _ _ _ _ h m (by omega)))))) (fun q h=>(noE h)))) (fun q h=>?_))
  all_goals clear il0
  all_goals (try cases h)
  all_goals (try simp only [*,if_true,if_false,↓reduceIte,Option.bind_some,List.length_cons,List.length_nil,List.length_append,Bool.not_true,Bool.not_false,Bool.true_eq_false,Bool.false_eq_true])
  all_goals (repeat first | rw [if_pos (by omega)] | rw [if_neg (by omega)])
  all_goals first | exact h | apply h | rfl | (simp_all [-Bool.forall_bool];done) | (simp_all [-Bool.forall_bool];first | exact h | apply h) | (simp_all [-Bool.forall_bool,emp_eq,int_beq];done) | (simp_all [-Bool.forall_bool];(intros;simp_all;done)) | (simp_all [-Bool.forall_bool,rdset139,rdset91,rdset104,rdset3,rdset119,rdset80,rdset128,rdset71,rdset75,rdset133,rdset5,rdset96,rdset68];done) | grind
theorem spec_l12At.rel (k : Nat) (l0_0 : List (S80)) (l0_1 : List (S128)) (a0_2 : Int) (a1 : Int) (r) (h : PK.spec_l12At.f k l0_0 l0_1 a0_2 a1 = some r) (m : Nat) (hm : k ≤ m) : spec_l12At.f m l0_0 l0_1 a0_2 a1 = some r:=by
 have il0:=fun k' (_ : k' < k + 1)=>(spec_l12At.rel_l k');rw [PK.spec_l12At.f] at h;rw [spec_l12At.f]
 try simp only [w64_eq,wu8_eq,gt_iff_lt,ge_iff_le,int_beq,fdiv33,fdiv45,bt_eq,tmodN,rdOfB,rdOfL] at h
 try simp only [shlR]
 try simp only [w64_eq,wu8_eq,gt_iff_lt,ge_iff_le,int_beq,fdiv33,fdiv45,bt_eq,tmodN,rdOfB,rdOfL,rdT3_eq,rdT5_eq,seq,maxI,minI,emp_eq,rdn139,rdn91,rdn104,rdn3,rdn119,rdn80,rdn128,rdn71,rdn75,rdn133,rdn5,rdn96,rdn68]
 refine ((fun h=>?_) (il0 _ (by omega) _ _ _ _ _ _ h m (by omega)))
 all_goals clear il0
 all_goals (try cases h)
 all_goals (try simp only [*,if_true,if_false,↓reduceIte,Option.bind_some,List.length_cons,List.length_nil,List.length_append,Bool.not_true,Bool.not_false,Bool.true_eq_false,Bool.false_eq_true])
 all_goals (repeat first | rw [if_pos (by omega)] | rw [if_neg (by omega)])
 all_goals first | exact h | apply h | rfl | (simp_all [-Bool.forall_bool];done) | (simp_all [-Bool.forall_bool];first | exact h | apply h) | (simp_all [-Bool.forall_bool,emp_eq,int_beq];done) | (simp_all [-Bool.forall_bool];(intros;simp_all;done)) | (simp_all [-Bool.forall_bool,rdset139,rdset91,rdset104,rdset3,rdset119,rdset80,rdset128,rdset71,rdset75,rdset133,rdset5,rdset96,rdset68];done) | grind
theorem spec_ArenaOk.rel_l (k : Nat) : (∀ x3 x125000 r,PK.spec_ArenaOk.l0 k x3 x125000 = some r → ∀ m,k ≤ m → spec_ArenaOk.c2 m x3 x125000 = some r) ∧ (∀ x3 x5 x125000 x127000 x127001 r,PK.spec_ArenaOk.l1 k x3 x5 x125000 x127000 x127001 = some r → ∀ m,k ≤ m → spec_ArenaOk.c8 m x3 x5 x125000 x127000 x127001 = some r):=by
 induction k using Nat.strongRecOn with
 | _ k ih =>
 have il0:=fun k' hk'=>(ih k' hk').1;have il1:=fun k' hk'=>(ih k' hk').2;clear ih;refine ⟨?_,?_⟩
 ·intro x3 x125000 r h m hm;cases k with
  | zero=>simp only [PK.spec_ArenaOk.l0] at h;cases h
  | succ k =>
   obtain ⟨m,rfl⟩ : ∃ m',m = m' + 1:=⟨m - 1,by omega⟩;rw [PK.spec_ArenaOk.l0] at h;rw [spec_ArenaOk.c2]
   try simp only [w64_eq,wu8_eq,gt_iff_lt,ge_iff_le,int_beq,fdiv33,fdiv45,bt_eq,tmodN,rdOfB,rdOfL] at h
   try simp only [shlR]
   try simp only [w64_eq,wu8_eq,gt_iff_lt,ge_iff_le,int_beq,fdiv33,fdiv45,bt_eq,tmodN,rdOfB,rdOfL,rdT3_eq,rdT5_eq,seq,maxI,minI,emp_eq,rdn139,rdn91,rdn104,rdn3,rdn119,rdn80,rdn128,rdn71,rdn75,rdn133,rdn5,rdn96,rdn68]
   refine (itE h (fun q h=>(itE h (fun q h=>(itE h (fun q h=>((fun h=>?_) (il1 _ (by omega) _ _ _ _ _ _ h m (by omega)))) (fun q h=>?_))) (fun q h=>(noE h)))) (fun q h=>?_))
   all_goals clear il0 il1
   all_goals (try cases h)
   all_goals (try simp only [*,if_true,if_false,↓reduceIte,Option.bind_some,List.length_cons,List.length_nil,List.length_append,Bool.not_true,Bool.not_false,Bool.true_eq_false,Bool.false_eq_true])
   all_goals (repeat first | rw [if_pos (by omega)] | rw [if_neg (by omega)])
   all_goals first | exact h | apply h | rfl | (simp_all [-Bool.forall_bool];done) | (simp_all [-Bool.forall_bool];first | exact h | apply h) | (simp_all [-Bool.forall_bool,emp_eq,int_beq];done) | (simp_all [-Bool.forall_bool];(intros;simp_all;done)) | (simp_all [-Bool.forall_bool,rdset139,rdset91,rdset104,rdset3,rdset119,rdset80,rdset128,rdset71,rdset75,rdset133,rdset5,rdset96,rdset68];done) | grind
 intro x3 x5 x125000 x127000 x127001 r h m hm;cases k with
 | zero=>simp only [PK.spec_ArenaOk.l1] at h;cases h
 | succ k =>
  obtain ⟨m,rfl⟩ : ∃ m',m = m' + 1:=⟨m - 1,by omega⟩;rw [PK.spec_ArenaOk.l1] at h;rw [spec_ArenaOk.c8]
  try simp only [w64_eq,wu8_eq,gt_iff_lt,ge_iff_le,int_beq,fdiv33,fdiv45,bt_eq,tmodN,rdOfB,rdOfL] at h
  try simp only [shlR]
  try simp only [w64_eq,wu8_eq,gt_iff_lt,ge_iff_le,int_beq,fdiv33,fdiv45,bt_eq,tmodN,rdOfB,rdOfL,rdT3_eq,rdT5_eq,seq,maxI,minI,emp_eq,rdn139,rdn91,rdn104,rdn3,rdn119,rdn80,rdn128,rdn71,rdn75,rdn133,rdn5,rdn96,rdn68]
  refine (itE h (fun q h=>(itE h (fun q h=>(itE h (fun q h=>(itE h (fun q h=>(itE h (fun q h=>?_) (fun q h=>((fun h=>?_) (il1 _ (by omega) _ _ _ _ _ _ h m (by omega)))))) (fun q h=>(itE h (fun q h=>((fun h=>?_) (il1 _ (by omega) _ _ _ _ _ _ h m (by omega)))) (fun q h=>(bnE h (fun _ g h=>(fun g=>(itE h (fun q h=>(itE h (fun q h=>(itE h (fun q h=>(itE h (fun q h=>((fun h=>?_) (il1 _ (by omega) _ _ _ _ _ _ h m (by omega)))) (fun q h=>?_))) (fun q h=>(noE h)))) (fun q h=>(noE h)))) (fun q h=>?_))) (spec_l01In.rel m _ _ _ _ g m (by omega))))))))) (fun q h=>(noE h)))) (fun q h=>(noE h)))) (fun q h=>((fun h=>?_) (il0 _ (by omega) _ _ _ h m (by omega)))))
  all_goals clear il0 il1
  all_goals (try cases h)
  all_goals (try simp only [*,if_true,if_false,↓reduceIte,Option.bind_some,List.length_cons,List.length_nil,List.length_append,Bool.not_true,Bool.not_false,Bool.true_eq_false,Bool.false_eq_true])
  all_goals (repeat first | rw [if_pos (by omega)] | rw [if_neg (by omega)])
  all_goals first | exact h | apply h | rfl | (simp_all [-Bool.forall_bool];done) | (simp_all [-Bool.forall_bool];first | exact h | apply h) | (simp_all [-Bool.forall_bool,emp_eq,int_beq];done) | (simp_all [-Bool.forall_bool];(intros;simp_all;done)) | (simp_all [-Bool.forall_bool,rdset139,rdset91,rdset104,rdset3,rdset119,rdset80,rdset128,rdset71,rdset75,rdset133,rdset5,rdset96,rdset68];done) | grind
theorem spec_ArenaOk.rel (k : Nat) (l0_0 : List (S128)) (r) (h : PK.spec_ArenaOk.f k l0_0 = some r) (m : Nat) (hm : k ≤ m) : spec_ArenaOk.f m l0_0 = some r:=by
 have il0:=fun k' (_ : k' < k + 1)=>(spec_ArenaOk.rel_l k').1;have il1:=fun k' (_ : k' < k + 1)=>(spec_ArenaOk.rel_l k').2;rw [PK.spec_ArenaOk.f] at h;rw [spec_ArenaOk.f]
 try simp only [w64_eq,wu8_eq,gt_iff_lt,ge_iff_le,int_beq,fdiv33,fdiv45,bt_eq,tmodN,rdOfB,rdOfL] at h
 try simp only [shlR]
 try simp only [w64_eq,wu8_eq,gt_iff_lt,ge_iff_le,int_beq,fdiv33,fdiv45,bt_eq,tmodN,rdOfB,rdOfL,rdT3_eq,rdT5_eq,seq,maxI,minI,emp_eq,rdn139,rdn91,rdn104,rdn3,rdn119,rdn80,rdn128,rdn71,rdn75,rdn133,rdn5,rdn96,rdn68]
 refine ((fun h=>?_) (il0 _ (by omega) _ _ _ h m (by omega)))
 all_goals clear il0 il1
 all_goals (try cases h)
 all_goals (try simp only [*,if_true,if_false,↓reduceIte,Option.bind_some,List.length_cons,List.length_nil,List.length_append,Bool.not_true,Bool.not_false,Bool.true_eq_false,Bool.false_eq_true])
 all_goals (repeat first | rw [if_pos (by omega)] | rw [if_neg (by omega)])
 all_goals first | exact h | apply h | rfl | (simp_all [-Bool.forall_bool];done) | (simp_all [-Bool.forall_bool];first | exact h | apply h) | (simp_all [-Bool.forall_bool,emp_eq,int_beq];done) | (simp_all [-Bool.forall_bool];(intros;simp_all;done)) | (simp_all [-Bool.forall_bool,rdset139,rdset91,rdset104,rdset3,rdset119,rdset80,rdset128,rdset71,rdset75,rdset133,rdset5,rdset96,rdset68];done) | grind
end Go.Proofs.YtbbfkodckpfjcaaGreat.M2

namespace Go.Proofs.YtbbfkodckpfjcaaGreat.M2
open Go Go.RowKit Go.Proofs.YtbbfkodckpfjcaaGreatW.PrintWords Go.Proofs.YtbbfkodckpfjcaaGreat.PK
set_option linter.unusedVariables false
set_option linter.unusedSimpArgs false
set_option maxHeartbeats 1600000
theorem spec_l11Root.rel (k : Nat) (l0_0 : List (S128)) (a1 : Int) (r) (h : PK.spec_l11Root.f l0_0 a1 = some r) (m : Nat) (hm : k ≤ m) : spec_l11Root.f m l0_0 a1 = some r:=by
 rw [PK.spec_l11Root.f] at h;rw [spec_l11Root.f]
 try simp only [w64_eq,wu8_eq,gt_iff_lt,ge_iff_le,int_beq,fdiv33,fdiv45,bt_eq,tmodN,rdOfB,rdOfL] at h
 try simp only [shlR]
 try simp only [w64_eq,wu8_eq,gt_iff_lt,ge_iff_le,int_beq,fdiv33,fdiv45,bt_eq,tmodN,rdOfB,rdOfL,rdT3_eq,rdT5_eq,seq,maxI,minI,emp_eq,rdn139,rdn91,rdn104,rdn3,rdn119,rdn80,rdn128,rdn71,rdn75,rdn133,rdn5,rdn96,rdn68]
 refine (itE h (fun q h=>?_) (fun q h=>(bnE h (fun _ g h=>(fun g=>(itE h (fun q h=>(itE h (fun q h=>(itE h (fun q h=>?_) (fun q h=>(noE h)))) (fun q h=>(noE h)))) (fun q h=>?_))) (spec_l01In.rel m _ _ _ _ g m (by omega))))))
 all_goals (try cases h)
 all_goals (try simp only [*,if_true,if_false,↓reduceIte,Option.bind_some,List.length_cons,List.length_nil,List.length_append,Bool.not_true,Bool.not_false,Bool.true_eq_false,Bool.false_eq_true])
 all_goals (repeat first | rw [if_pos (by omega)] | rw [if_neg (by omega)])
 all_goals first | exact h | apply h | rfl | (simp_all [-Bool.forall_bool];done) | (simp_all [-Bool.forall_bool];first | exact h | apply h) | (simp_all [-Bool.forall_bool,emp_eq,int_beq];done) | (simp_all [-Bool.forall_bool];(intros;simp_all;done)) | (simp_all [-Bool.forall_bool,rdset139,rdset91,rdset104,rdset3,rdset119,rdset80,rdset128,rdset71,rdset75,rdset133,rdset5,rdset96,rdset68];done) | grind
theorem spec_l11Get.rel (k : Nat) (l0_0 : List (S128)) (a1 : Int) (a2 : Int) (r) (h : PK.spec_l11Get.f l0_0 a1 a2 = some r) (m : Nat) (hm : k ≤ m) : spec_l11Get.f m l0_0 a1 a2 = some r:=by
 rw [PK.spec_l11Get.f] at h;rw [spec_l11Get.f]
 try simp only [w64_eq,wu8_eq,gt_iff_lt,ge_iff_le,int_beq,fdiv33,fdiv45,bt_eq,tmodN,rdOfB,rdOfL] at h
 try simp only [shlR]
 try simp only [w64_eq,wu8_eq,gt_iff_lt,ge_iff_le,int_beq,fdiv33,fdiv45,bt_eq,tmodN,rdOfB,rdOfL,rdT3_eq,rdT5_eq,seq,maxI,minI,emp_eq,rdn139,rdn91,rdn104,rdn3,rdn119,rdn80,rdn128,rdn71,rdn75,rdn133,rdn5,rdn96,rdn68]
 refine (itE h (fun q h=>?_) (fun q h=>(itE h (fun q h=>(itE h (fun q h=>(itE h (fun q h=>(itE h (fun q h=>(itE h (fun q h=>?_) (fun q h=>(itE h (fun q h=>(itE h (fun q h=>(itE h (fun q h=>(itE h (fun q h=>?_) (fun q h=>(noE h)))) (fun q h=>(noE h)))) (fun q h=>(noE h)))) (fun q h=>(noE h)))))) (fun q h=>(noE h)))) (fun q h=>(noE h)))) (fun q h=>(noE h)))) (fun q h=>(noE h)))))
 all_goals (try cases h)
 all_goals (try simp only [*,if_true,if_false,↓reduceIte,Option.bind_some,List.length_cons,List.length_nil,List.length_append,Bool.not_true,Bool.not_false,Bool.true_eq_false,Bool.false_eq_true])
 all_goals (repeat first | rw [if_pos (by omega)] | rw [if_neg (by omega)])
 all_goals first | exact h | apply h | rfl | (simp_all [-Bool.forall_bool];done) | (simp_all [-Bool.forall_bool];first | exact h | apply h) | (simp_all [-Bool.forall_bool,emp_eq,int_beq];done) | (simp_all [-Bool.forall_bool];(intros;simp_all;done)) | (simp_all [-Bool.forall_bool,rdset139,rdset91,rdset104,rdset3,rdset119,rdset80,rdset128,rdset71,rdset75,rdset133,rdset5,rdset96,rdset68];done) | grind
theorem spec_GetAt.rel (k : Nat) (l0_0 : List (S128)) (a1 : Int) (a2 : Int) (r) (h : PK.spec_GetAt.f k l0_0 a1 a2 = some r) (m : Nat) (hm : k ≤ m) : spec_GetAt.f m l0_0 a1 a2 = some r:=by
 rw [PK.spec_GetAt.f] at h;rw [spec_GetAt.f]
 try simp only [w64_eq,wu8_eq,gt_iff_lt,ge_iff_le,int_beq,fdiv33,fdiv45,bt_eq,tmodN,rdOfB,rdOfL] at h
 try simp only [shlR]
 try simp only [w64_eq,wu8_eq,gt_iff_lt,ge_iff_le,int_beq,fdiv33,fdiv45,bt_eq,tmodN,rdOfB,rdOfL,rdT3_eq,rdT5_eq,seq,maxI,minI,emp_eq,rdn139,rdn91,rdn104,rdn3,rdn119,rdn80,rdn128,rdn71,rdn75,rdn133,rdn5,rdn96,rdn68]
 refine (bnE h (fun _ g h=>(fun g=>(itE h (fun q h=>(bnE h (fun _ g h=>(fun g=>(itE h (fun q h=>(bnE h (fun _ g h=>(fun g=>(itE h (fun q h=>(bnE h (fun _ g h=>(fun g=>?_) (spec_l11Get.rel m _ _ _ _ g m (by omega))))) (fun q h=>?_))) (spec_l01In.rel m _ _ _ _ g m (by omega))))) (fun q h=>?_))) (spec_l11Root.rel m _ _ _ g m (by omega))))) (fun q h=>?_))) (spec_ArenaOk.rel _ _ _ g m (by omega))))
 all_goals (try cases h)
 all_goals (try simp only [*,if_true,if_false,↓reduceIte,Option.bind_some,List.length_cons,List.length_nil,List.length_append,Bool.not_true,Bool.not_false,Bool.true_eq_false,Bool.false_eq_true])
 all_goals (repeat first | rw [if_pos (by omega)] | rw [if_neg (by omega)])
 all_goals first | exact h | apply h | rfl | (simp_all [-Bool.forall_bool];done) | (simp_all [-Bool.forall_bool];first | exact h | apply h) | (simp_all [-Bool.forall_bool,emp_eq,int_beq];done) | (simp_all [-Bool.forall_bool];(intros;simp_all;done)) | (simp_all [-Bool.forall_bool,rdset139,rdset91,rdset104,rdset3,rdset119,rdset80,rdset128,rdset71,rdset75,rdset133,rdset5,rdset96,rdset68];done) | grind
theorem spec_ChunkOf.rel (k : Nat) (l0_0 : List (S80)) (l0_1 : List (S128)) (a0_2 : Int) (a1 : Int) (a2 : Int) (r) (h : PK.spec_ChunkOf.f k l0_0 l0_1 a0_2 a1 a2 = some r) (m : Nat) (hm : k ≤ m) : spec_ChunkOf.f m l0_0 l0_1 a0_2 a1 a2 = some r:=by
 rw [PK.spec_ChunkOf.f] at h;rw [spec_ChunkOf.f]
 try simp only [w64_eq,wu8_eq,gt_iff_lt,ge_iff_le,int_beq,fdiv33,fdiv45,bt_eq,tmodN,rdOfB,rdOfL] at h
 try simp only [shlR]
 try simp only [w64_eq,wu8_eq,gt_iff_lt,ge_iff_le,int_beq,fdiv33,fdiv45,bt_eq,tmodN,rdOfB,rdOfL,rdT3_eq,rdT5_eq,seq,maxI,minI,emp_eq,rdn139,rdn91,rdn104,rdn3,rdn119,rdn80,rdn128,rdn71,rdn75,rdn133,rdn5,rdn96,rdn68]
 refine (bnE h (fun _ g h=>(fun g=>(itE h (fun q h=>?_) (fun q h=>(itE h (fun q h=>(itE h (fun q h=>(bnE h (fun _ g h=>(fun g=>?_) (spec_GetAt.rel _ _ _ _ _ g m (by omega))))) (fun q h=>(noE h)))) (fun q h=>(noE h)))))) (spec_l12At.rel _ _ _ _ _ _ g m (by omega))))
 all_goals (try cases h)
 all_goals (try simp only [*,if_true,if_false,↓reduceIte,Option.bind_some,List.length_cons,List.length_nil,List.length_append,Bool.not_true,Bool.not_false,Bool.true_eq_false,Bool.false_eq_true])
 all_goals (repeat first | rw [if_pos (by omega)] | rw [if_neg (by omega)])
 all_goals first | exact h | apply h | rfl | (simp_all [-Bool.forall_bool];done) | (simp_all [-Bool.forall_bool];first | exact h | apply h) | (simp_all [-Bool.forall_bool,emp_eq,int_beq];done) | (simp_all [-Bool.forall_bool];(intros;simp_all;done)) | (simp_all [-Bool.forall_bool,rdset139,rdset91,rdset104,rdset3,rdset119,rdset80,rdset128,rdset71,rdset75,rdset133,rdset5,rdset96,rdset68];done) | grind
end Go.Proofs.YtbbfkodckpfjcaaGreat.M2



namespace Go.Proofs.YtbbfkodckpfjcaaGreat.Pu
set_option linter.unusedVariables false
set_option linter.unusedSimpArgs false
open Go.RowKit Go.Proofs.YtbbfkodckpfjcaaGreatW.PrintWords
theorem w64 {x : Int} (h1 : -9223372036854775808 ≤ x) (h2 : x ≤ 9223372036854775807) : wrap64 x = x:=by
 unfold wrap64;omega
theorem wsucc {i n : Nat} (h : i < n) (hn : n ≤ 9223372036854775807) : wrap64 ((i : Int) + 1) = ((i + 1 : Nat) : Int):=by
 rw [w64 (by omega) (by omega)];rfl
theorem ev_some {α : Type} {g : Nat → Option α} {r : α} (h : ∀ k,g (k + 1) = some r) : Ev g r:=Ev.step h (Ev.now r)
theorem ev_const {α : Type} {o : Option α} {r : α} (h : o = some r) : Ev (fun _=>o) r:=⟨0,fun _ _=>h⟩
theorem ev_bind {α β : Type} {g : Nat → Option α} {f : Nat → α → Option β} {a : α} {r : β} (h : Ev g a) (k : Ev (fun n=>f n a) r) : Ev (fun n=>(g n).bind (f n)) r:=Ev.bind h k
theorem ev_uniq {α : Type} {g : Nat → Option α} {a b : α} (h : Ev g a) (k : Ev g b) : a = b:=by
 obtain ⟨K,hK⟩:=h;obtain ⟨M,hM⟩:=k;have h1:=hK (max K M) (Nat.le_max_left _ _);rw [hM (max K M) (Nat.le_max_right _ _)] at h1;injection h1 with h1;exact h1.symm
theorem ev_ext {α : Type} {g f : Nat → Option α} {r : α} (h : ∀ k,g k = f k) (k : Ev f r) : Ev g r:=Ev.congr h k
theorem ev_fill {β : Type} {L : Nat → List β → Int → Option (List β)} {E : Nat → Int → Option β} {n : Nat} {e : Nat → β} (hn : n ≤ 9223372036854775807)
  (hs : ∀ k xs i,L (k + 1) xs i = if i < (n : Int) then (if 0 ≤ i then ((E k i).bind fun b=>if i < (xs.length : Int) then L k (xs.set i.toNat b) (wrap64 (i + 1)) else none) else none) else some xs)
  (hE : ∀ i,i < n → Ev (fun k=>E k (i : Int)) (e i)) :
  ∀ (d i : Nat) (xs : List β),xs.length = n → i + d = n → Ev (fun k=>L k xs (i : Int)) (xs.take i ++ (List.range' i d).map e):=by
 intro d
 induction d with
 | zero =>
  intro i xs hl hi;refine ev_some fun k=>?_;rw [hs,if_neg (by omega)];simp [List.take_of_length_le (show xs.length ≤ i by omega)]
 | succ d ih =>
  intro i xs hl hi;refine Ev.step (f:=fun k=>(E k (i : Int)).bind fun b=>L k (xs.set i b) ((i + 1 : Nat) : Int)) (fun k=>?_) ?_
  ·rw [hs,if_pos (by omega),if_pos (by omega),wsucc (n:=n) (by omega) hn]
   congr 1
   funext b
   rw [if_pos (by omega)];rfl
  refine ev_bind (hE i (by omega)) ?_;have h:=ih (i + 1) (xs.set i (e i)) (by rw [List.length_set];exact hl) (by omega)
  have e1 : (xs.set i (e i)).take (i + 1) ++ (List.range' (i + 1) d).map e = xs.take i ++ (List.range' i (d + 1)).map e:=by
   rw [List.range'_succ,List.map_cons,List.take_succ_eq_append_getElem (by rw [List.length_set];omega),List.getElem_set_self,List.take_set_of_le (Nat.le_refl _)];simp
  rw [e1] at h;exact h
theorem map_range {α β : Type} (l : List α) (z : α) (g : α → β) : (List.range' 0 l.length).map (fun i=>g (l.getD i z)) = l.map g:=by
 apply List.ext_getElem
 ·simp
 intro i h1 h2;simp only [List.length_map] at h2;simp [List.getD_eq_getElem?_getD,List.getElem?_eq_getElem h2]
theorem ev_fill_all {α β : Type} {L : Nat → List β → Int → Option (List β)} {E : Nat → Int → Option β} {l : List α} {z : α} {g : α → β} {xs : List β} (hn : l.length ≤ 9223372036854775807)
  (hs : ∀ k xs i,L (k + 1) xs i = if i < (l.length : Int) then (if 0 ≤ i then ((E k i).bind fun b=>if i < (xs.length : Int) then L k (xs.set i.toNat b) (wrap64 (i + 1)) else none) else none) else some xs)
  (hE : ∀ i,i < l.length → Ev (fun k=>E k (i : Int)) (g (l.getD i z))) (hx : xs.length = l.length) : Ev (fun k=>L k xs 0) (l.map g):=by
 have h:=ev_fill (e:=fun i=>g (l.getD i z)) hn hs hE l.length 0 xs hx (by omega);rw [map_range] at h
 simpa using h
theorem ev_all {L E : Nat → Int → Option Bool} {n m : Nat} (hn : n ≤ 9223372036854775807) (hnm : n ≤ m)
  (hs : ∀ k i,L (k + 1) i = if i < (n : Int) then (if 0 ≤ i then (if i < (m : Int) then ((E k i).bind fun b=>if b = true then L k (wrap64 (i + 1)) else some false) else none) else none) else some true)
  (hE : ∀ i,i < n → Ev (fun k=>E k (i : Int)) true) : ∀ (d i : Nat),i + d = n → Ev (fun k=>L k (i : Int)) true:=by
 intro d
 induction d with
 | zero=>intro i hi;exact ev_some fun k=>by rw [hs,if_neg (by omega)]
 | succ d ih =>
  intro i hi;refine Ev.step (f:=fun k=>(E k (i : Int)).bind fun b=>if b = true then L k ((i + 1 : Nat) : Int) else some false) (fun k=>?_) (ev_bind (hE i (by omega)) (by simpa using ih (i + 1) (by omega)));rw [hs,if_pos (by omega),if_pos (by omega),if_pos (by omega),wsucc (n:=n) (by omega) hn]
theorem ev_size {L E : Nat → Int → Int → Option Int} {n : Nat} {P : Nat → Prop} (hn : n ≤ 9223372036854775807)
  (hs : ∀ k a i,L (k + 1) a i = if i < (n : Int) then (if 0 ≤ i then ((E k i a).bind fun t=>if t < 0 then some (-1) else L k t (wrap64 (i + 1))) else none) else some a)
  (hE : ∀ i a,i < n → 0 ≤ a → a ≤ 1048576 → ∃ t,Ev (fun k=>E k (i : Int) a) t ∧ t ≤ a ∧ (0 ≤ t → P i)) :
  ∀ (d i : Nat) (a : Int),i + d = n → 0 ≤ a → a ≤ 1048576 → ∃ r,Ev (fun k=>L k a (i : Int)) r ∧ r ≤ a ∧ (0 ≤ r → ∀ m,i ≤ m → m < n → P m):=by
 intro d
 induction d with
 | zero=>intro i a hi h0 h1;exact ⟨a,ev_some fun k=>by rw [hs,if_neg (by omega)],Int.le_refl _,fun _ m h2 h3=>by omega⟩
 | succ d ih =>
  intro i a hi h0 h1;obtain ⟨t,ht,hta,hp⟩:=hE i a (by omega) h0 h1
  have hst : ∀ k,L (k + 1) a (i : Int) = (E k (i : Int) a).bind fun t=>if t < 0 then some (-1) else L k t ((i + 1 : Nat) : Int):=fun k=>by
   rw [hs,if_pos (by omega),if_pos (by omega),wsucc (n:=n) (by omega) hn]
  by_cases hneg : t < 0
  ·exact ⟨-1,Ev.step hst (ev_bind ht (by simp only [if_pos hneg];exact Ev.now _)),by omega,fun h=>by omega⟩
  obtain ⟨r,hr,hra,hq⟩:=ih (i + 1) t (by omega) (by omega) (by omega);refine ⟨r,Ev.step hst (ev_bind ht (by simp only [if_neg hneg];exact hr)),by omega,fun h0r m h2 h3=>?_⟩
  by_cases e : m = i
  ·subst e;exact hp (by omega)
  exact hq h0r m (by omega) h3
end Go.Proofs.YtbbfkodckpfjcaaGreat.Pu

namespace Go.Proofs.YtbbfkodckpfjcaaGreat.Pu
set_option linter.unusedVariables false
set_option linter.unusedSimpArgs false
open Go.RowKit Go.Proofs.YtbbfkodckpfjcaaGreatW.PrintWords
def findI (T : Nat → Bool) : Nat → Nat → Int
 | _,0=>-1
 | i,d + 1=>if T i = true then (i : Int) else findI T (i + 1) d
theorem ev_find {L : Nat → Int → Option Int} {n : Nat} {T : Nat → Bool}
  (hy : ∀ i,i < n → T i = true → Ev (fun k=>L k (i : Int)) (i : Int)) (hn : ∀ i,i < n → T i = false → ∀ r,Ev (fun k=>L k ((i + 1 : Nat) : Int)) r → Ev (fun k=>L k (i : Int)) r)
  (he : Ev (fun k=>L k (n : Int)) (-1)) : ∀ (d i : Nat),i + d = n → Ev (fun k=>L k (i : Int)) (findI T i d):=by
 intro d
 induction d with
 | zero =>
  intro i hi;obtain rfl : i = n:=by omega
  exact he
 | succ d ih =>
  intro i hi;unfold findI
  by_cases h : T i = true
  ·rw [if_pos h];exact hy i (by omega) h
  rw [if_neg h];exact hn i (by omega) (Bool.eq_false_iff.mpr h) _ (ih (i + 1) (by omega))
theorem findI_range {T : Nat → Bool} : ∀ (d i : Nat),findI T i d = -1 ∨ ∃ j,i ≤ j ∧ j < i + d ∧ findI T i d = (j : Int) ∧ T j = true
 | 0,i=>.inl rfl
 | d + 1,i=>by
  unfold findI
  by_cases h : T i = true
  ·rw [if_pos h];exact .inr ⟨i,Nat.le_refl _,by omega,rfl,h⟩
  rw [if_neg h];rcases findI_range d (i + 1) with h1 | ⟨j,h1,h2,h3,h4⟩
  ·exact .inl h1
  exact .inr ⟨j,by omega,by omega,h3,h4⟩
theorem getD_mem' {α : Type} {l : List α} {i : Nat} {z : α} (hi : i < l.length) : l.getD i z ∈ l:=by
 rw [List.getD_eq_getElem?_getD,List.getElem?_eq_getElem hi];exact List.getElem_mem hi
end Go.Proofs.YtbbfkodckpfjcaaGreat.Pu

namespace Go.Proofs.YtbbfkodckpfjcaaGreat.Pu
set_option linter.unusedVariables false
set_option linter.unusedSimpArgs false
open Go.RowKit Go.Proofs.YtbbfkodckpfjcaaGreat.PK Go.Proofs.YtbbfkodckpfjcaaGreatW.PrintWords
end Go.Proofs.YtbbfkodckpfjcaaGreat.Pu

namespace Go.Proofs.YtbbfkodckpfjcaaGreat.Pu
set_option linter.unusedVariables false
set_option linter.unusedSimpArgs false
open Go.RowKit Go.Proofs.YtbbfkodckpfjcaaGreat.PK Go.Proofs.YtbbfkodckpfjcaaGreatW.PrintWords
end Go.Proofs.YtbbfkodckpfjcaaGreat.Pu

namespace Go.Proofs.YtbbfkodckpfjcaaGreat.M2.Mp
set_option linter.unusedVariables false
set_option linter.unusedSimpArgs false
open Go.RowKit Go.Proofs.YtbbfkodckpfjcaaGreat.PK Go.Proofs.YtbbfkodckpfjcaaGreatW.PrintWords Go.Proofs.YtbbfkodckpfjcaaGreat.Pu
def EvX {α : Type} (g : Nat → Option α) (P : α → Prop) : Prop:=∃ r,Ev g r ∧ P r
theorem ev_rel {α β : Type} {g : Nat → Option α} {f : Nat → Option β} {a : α} {c : α → β} (h : Ev g a) (hr : ∀ k r,g k = some r → ∀ m,k ≤ m → f m = some (c r)) : Ev f (c a):=by
 obtain ⟨K,hK⟩:=h;exact ⟨K,fun m hm=>hr K a (hK K (Nat.le_refl _)) m hm⟩
theorem evx_out {g : Nat → Option Bool} (h : EvX g (fun r=>r = true)) : ∃ k,g k = some true:=by
 obtain ⟨r,⟨K,hK⟩,rfl⟩:=h;exact ⟨K,hK K (Nat.le_refl _)⟩
def Cur (b : List Int) (i : Int) : Prop:=0 ≤ i ∧ i ≤ b.length
abbrev Cb (b : List Int) : Prop:=b.length ≤ 9223372036854775807
end Go.Proofs.YtbbfkodckpfjcaaGreat.M2.Mp

namespace Go.Proofs.YtbbfkodckpfjcaaGreat.Pu
set_option linter.unusedVariables false
set_option linter.unusedSimpArgs false
open Go.RowKit Go.Proofs.YtbbfkodckpfjcaaGreat.PK Go.Proofs.YtbbfkodckpfjcaaGreatW.PrintWords
def varL (n : Nat) : List Int:=if h : n > 127 then ((n % 128 + 128 : Nat) : Int) :: varL (n / 128) else [(n : Int)]
theorem varL_long {n : Nat} (h : n > 127) : varL n = ((n % 128 + 128 : Nat) : Int) :: varL (n / 128):=by rw [varL,dif_pos h]
theorem varL_short {n : Nat} (h : ¬ n > 127) : varL n = [(n : Int)]:=by rw [varL,dif_neg h]
theorem varL_len : ∀ (d n : Nat),n < 128 ^ (d + 1) → (varL n).length ≤ d + 1 ∧ 1 ≤ (varL n).length
 | 0,n,h=>by rw [varL_short (by omega)];simp
 | d + 1,n,h=>by
  by_cases hn : n > 127
  ·rw [varL_long hn];have:=varL_len d (n / 128) (by rw [Nat.pow_succ] at h;omega);simp only [List.length_cons];omega
  rw [varL_short hn];simp
theorem varL_len5 {n : Nat} (h : n ≤ 1000000000) : (varL n).length ≤ 5 ∧ 1 ≤ (varL n).length:=varL_len 4 n (by omega)
theorem wbyte {n : Nat} (h : n > 127) (hn : n ≤ 1000000000) : wrap64 (Int.tdiv (n : Int) 128) = ((n / 128 : Nat) : Int) ∧ wrap64 (Int.tmod (n : Int) 128 + 128) % 256 = ((n % 128 + 128 : Nat) : Int):=by
 rw [Int.tdiv_eq_ediv_of_nonneg (by omega),Int.tmod_eq_emod_of_nonneg (by omega),w64 (by omega) (by omega),w64 (by omega) (by omega)];omega
theorem sVar_ev : ∀ (d n : Nat) (acc : List Int),n < 128 ^ (d + 1) → n ≤ 1000000000 → acc.length + d ≤ 100 → Ev (fun k=>spec_l01Var.l0 k n acc) (strOfNums (acc ++ varL n))
 | 0,n,acc,h,hn,ha=>ev_some fun k=>by
  simp only [spec_l01Var.l0];rw [if_neg (by omega),if_pos (by omega),varL_short (by omega),show (n : Int) % 256 = n by omega]
 | d + 1,n,acc,h,hn,ha=>by
  by_cases h1 : n > 127
  ·have:=sVar_ev d (n / 128) (acc ++ [((n % 128 + 128 : Nat) : Int)]) (by rw [Nat.pow_succ] at h;omega) (by omega) (by simp;omega);rw [varL_long h1,show acc ++ ((n % 128 + 128 : Nat) : Int) :: varL (n / 128) = (acc ++ [((n % 128 + 128 : Nat) : Int)]) ++ varL (n / 128) by simp];refine Ev.step (fun k=>?_) this;simp only [spec_l01Var.l0];rw [if_pos (by omega),if_pos (by omega),(wbyte h1 hn).1,(wbyte h1 hn).2]
  refine ev_some fun k=>?_;simp only [spec_l01Var.l0];rw [if_neg (by omega),if_pos (by omega),varL_short h1,show (n : Int) % 256 = n by omega]
theorem l01Var_ev {n : Int} (h0 : 0 ≤ n) (h : n ≤ 1000000000) : Ev (fun k=>spec_l01Var.f k n) (strOfNums (varL n.toNat)):=by
 have:=sVar_ev 4 n.toNat [] (by omega) (by omega) (by simp);rw [List.nil_append,show ((n.toNat : Nat) : Int) = n by omega] at this;exact this
theorem strOf_size (l : List Int) : (strOfNums l).size = l.length:=by
 unfold strOfNums;simp [ByteArray.size]
end Go.Proofs.YtbbfkodckpfjcaaGreat.Pu

namespace Go.Proofs.YtbbfkodckpfjcaaGreat.Pu
set_option linter.unusedVariables false
set_option linter.unusedSimpArgs false
open Go.RowKit Go.Proofs.YtbbfkodckpfjcaaGreat.PK Go.Proofs.YtbbfkodckpfjcaaGreatW.PrintWords
def byt (t : ByteArray) : List Nat:=t.data.toList.map UInt8.toNat
theorem byt_len (t : ByteArray) : (byt t).length = t.size:=by unfold byt;rw [List.length_map,Array.length_toList];rfl
theorem bt_byt (t : ByteArray) (i : Nat) : bt t (i : Int) = (((byt t).getD i 0 : Nat) : Int):=by
 unfold bt
 by_cases h : i < t.size
 ·rw [dif_pos (show ((i : Int)).toNat < t.size from h)];rw [List.getD_eq_getElem?_getD,List.getElem?_eq_getElem (by rw [byt_len];exact h)];unfold byt;rw [List.getElem_map,Array.getElem_toList];rfl
 rw [dif_neg (show ¬ ((i : Int)).toNat < t.size from h),List.getD_eq_getElem?_getD,List.getElem?_eq_none (by rw [byt_len];omega)];rfl
theorem byt_lt (t : ByteArray) : ∀ b ∈ byt t,b < 256:=by
 intro b hb;obtain ⟨x,_,rfl⟩:=List.mem_map.1 hb;exact UInt8.toNat_lt x
theorem byt_get_lt (t : ByteArray) (i : Nat) : (byt t).getD i 0 < 256:=by
 by_cases h : i < (byt t).length
 ·exact byt_lt t _ (getD_mem' h)
 rw [List.getD_eq_getElem?_getD,List.getElem?_eq_none (by omega)];exact by decide
theorem byt_inj {s t : ByteArray} (h : byt s = byt t) : s = t:=by
 unfold byt at h;have h2:=(List.map_inj_right (fun a b e=>UInt8.toNat_inj.1 e)).1 h;have h3:=Array.toList_inj.1 h2;cases s;cases t;simp only at h3;rw [h3]
theorem byt_app (s t : ByteArray) : byt (s ++ t) = byt s ++ byt t:=by
 unfold byt;rw [show (s ++ t).data = s.data ++ t.data from ByteArray.data_append,Array.toList_append,List.map_append]
theorem byt_empty : byt ⟨#[]⟩ = []:=rfl
theorem byt_str (l : List Int) (h : ∀ x ∈ l,0 ≤ x ∧ x < 256) : byt (strOfNums l) = l.map Int.toNat:=by
 unfold byt strOfNums;rw [List.map_map];refine List.map_congr_left fun x hx=>?_;have:=h x hx;show (UInt8.ofNat x.toNat).toNat = x.toNat;rw [UInt8.toNat_ofNat'];omega
theorem byt_sub (t : ByteArray) (a b : Nat) : byt (t.extract a b) = ((byt t).drop a).take (b - a):=by
 unfold byt;rw [ByteArray.data_extract,Array.toList_extract,List.extract_eq_take_drop,List.map_take,List.map_drop]
theorem toList_iff (s t : ByteArray) : s.toList = t.toList ↔ byt s = byt t:=by
 rw [ByteArray.toList_eq,ByteArray.toList_eq];constructor
 ·intro h;unfold byt;rw [h]
 intro h;rw [byt_inj h]
theorem varL_byte (n : Nat) : ∀ y ∈ varL n,0 ≤ y ∧ y < 256:=by
 induction n using Nat.strongRecOn with
 | _ n ih =>
  intro y hy
  by_cases hn : n > 127
  ·rw [varL_long hn] at hy;rcases List.mem_cons.1 hy with hy | hy
   ·omega
   exact ih (n / 128) (by omega) y hy
  rw [varL_short hn] at hy;obtain rfl:=List.mem_singleton.1 hy;omega
def valB : List Nat → Nat
 | []=>0
 | b :: r=>b % 128 + 128 * valB r
theorem val_snoc : ∀ (l : List Nat) (x : Nat),valB (l ++ [x]) = valB l + x % 128 * 128 ^ l.length
 | [],x=>by simp [valB]
 | b :: r,x=>by
  show b % 128 + 128 * valB (r ++ [x]) = b % 128 + 128 * valB r + x % 128 * 128 ^ (r.length + 1);rw [val_snoc r x,Nat.mul_add,Nat.pow_succ,← Nat.add_assoc]
  congr 1
  rw [Nat.mul_comm 128,Nat.mul_assoc]
theorem val_lt : ∀ l : List Nat,valB l < 128 ^ l.length
 | []=>by decide
 | b :: r=>by
  have:=val_lt r;show b % 128 + 128 * valB r < 128 ^ (r.length + 1);rw [Nat.pow_succ];omega
theorem val_pos : ∀ (pre : List Nat) {x : Nat},x < 128 → x ≠ 0 → 1 ≤ valB (pre ++ [x])
 | [],x,h,h0=>by show 1 ≤ x % 128 + 128 * 0;omega
 | b :: r,x,h,h0=>by
  have:=val_pos r h h0;show 1 ≤ b % 128 + 128 * valB (r ++ [x]);omega
theorem canon1 : ∀ (pre : List Nat) {x : Nat},(∀ b ∈ pre,128 ≤ b ∧ b < 256) → x < 128 → (pre = [] ∨ x ≠ 0) → varL (valB (pre ++ [x])) = (pre ++ [x]).map fun b : Nat=>(b : Int)
 | [],x,_,hx,_=>by
  have e : valB ([] ++ [x]) = x:=by show x % 128 + 128 * 0 = x;omega
  rw [e,varL_short (by omega)];rfl
 | b :: r,x,h,hx,h0=>by
  have hx0 : x ≠ 0:=by
   rcases h0 with h0 | h0
   ·cases h0
   exact h0
  have hp:=val_pos r hx hx0;have hb:=h b List.mem_cons_self;have e : valB (b :: r ++ [x]) = b % 128 + 128 * valB (r ++ [x]):=rfl;rw [e,varL_long (by omega),show (b % 128 + 128 * valB (r ++ [x])) / 128 = valB (r ++ [x]) by omega,canon1 r (fun c hc=>h c (List.mem_cons_of_mem _ hc)) hx (.inr hx0)];have e3 : (((b % 128 + 128 * valB (r ++ [x])) % 128 + 128 : Nat) : Int) = (b : Int):=by omega
  rw [e3];rfl
theorem varL_zero {n : Nat} (h : varL n = [0]) : n = 0:=by
 by_cases hn : n > 127
 ·rw [varL_long hn] at h;have h1:=congrArg List.length h
  have h2:=(varL_len n (n / 128) (by
   have : n < 128 ^ n:=Nat.lt_pow_self (by decide)
   rw [Nat.pow_succ];omega)).2
  simp only [List.length_cons,List.length_nil] at h1;omega
 rw [varL_short hn] at h;injection h with h1;omega
theorem canon2 : ∀ (n : Nat) (l : List Int),varL n = l ++ [0] → l = []:=by
 intro n
 induction n using Nat.strongRecOn with
 | _ n ih =>
  intro l h
  by_cases hn : n > 127
  ·rw [varL_long hn] at h;cases l with
   | nil=>rfl
   | cons c l =>
    injection h with h1 h2;have:=ih (n / 128) (by omega) l h2;subst this;have:=varL_zero h2;omega
  rw [varL_short hn] at h;cases l with
  | nil=>rfl
  | cons c l =>
   injection h with h1 h2;have:=congrArg List.length h2;simp at this
def rvL : List Nat → Nat → Nat → Nat → Option (Nat × Nat)
 | _,0,_,_=>none
 | [],_ + 1,_,_=>none
 | x :: r,d + 1,k,n=>if x ≥ 128 then rvL r d (k + 1) (n + x % 128 * 128 ^ k) else if (x = 0 ∧ k > 0) ∨ n + x % 128 * 128 ^ k > 1000000000 then none else some (n + x % 128 * 128 ^ k,k + 1)
def rvRes (a : Int) : Option (Nat × Nat) → Int × Int × Bool
 | none=>(0,0,false)
 | some z=>((z.1 : Int),a + (z.2 : Int),true)
def rvB (t : ByteArray) (a : Int) : Int × Int × Bool:=if 0 ≤ a ∧ a ≤ (t.size : Int) then rvRes a (rvL ((byt t).drop a.toNat) 5 0 0) else (0,0,false)
theorem drop_byt {t : ByteArray} {i : Nat} (h : i < t.size) : (byt t).drop i = (byt t).getD i 0 :: (byt t).drop (i + 1):=by
 rw [List.drop_eq_getElem_cons (by rw [byt_len];exact h),List.getD_eq_getElem?_getD,List.getElem?_eq_getElem (by rw [byt_len];exact h)];rfl
theorem shl7 {x k : Nat} (hx : x < 128) (hk : k < 5) : shl .i64 (x : Int) (wrap64 (7 * (k : Int))) = ((x * 128 ^ k : Nat) : Int):=by
 have e : wrap64 (7 * (k : Int)) = 7 * (k : Int):=w64 (by omega) (by omega);rw [e];have h:=shl_small (k:=.i64) (x:=(x : Int)) (y:=7 * (k : Int)) rfl (by show (7 * (k : Int)) ≤ ((IntKind.bits .i64 : Nat) : Int);rw [show IntKind.bits .i64 = 64 from rfl];omega);rw [← h,show (7 * (k : Int)).toNat = 7 * k by omega];have p : (128 : Nat) ^ k = 2 ^ (7 * k):=by rw [Nat.pow_mul]
 have q : (128 : Nat) ^ k ≤ 128 ^ 4:=Nat.pow_le_pow_right (by decide) (by omega);have e2 : (x : Int) * 2 ^ (7 * k) = ((x * 128 ^ k : Nat) : Int):=by rw [p];push_cast;rfl
 rw [e2,Go.IntKind.wrap_i64];have : x * 128 ^ k ≤ 127 * 128 ^ 4:=Nat.mul_le_mul (by omega) q;omega
theorem tmod128' {x : Nat} (h : x < 256) : Int.tmod (wrap64 ((x : Nat) : Int)) 128 = ((x % 128 : Nat) : Int):=by
 rw [w64 (by omega) (by omega),Int.tmod_eq_emod_of_nonneg (by omega)];omega
theorem pow5 {k : Nat} (h : k ≤ 5) : (128 : Nat) ^ k ≤ 34359738368:=Nat.le_trans (Nat.pow_le_pow_right (by decide) h) (by decide)
theorem step_lt {n x k : Nat} (hn : n < 128 ^ k) : n + x % 128 * 128 ^ k < 128 ^ (k + 1):=by
 rw [Nat.pow_succ];have : x % 128 * 128 ^ k ≤ 127 * 128 ^ k:=Nat.mul_le_mul_right _ (by omega);omega
theorem rvL_zero (l : List Nat) (k n : Nat) : rvL l 0 k n = none:=by cases l <;> rfl
theorem rvL_nil (d k n : Nat) : rvL [] d k n = none:=by cases d <;> rfl
theorem rvL_cons (x : Nat) (r : List Nat) (d k n : Nat) : rvL (x :: r) (d + 1) k n = if x ≥ 128 then rvL r d (k + 1) (n + x % 128 * 128 ^ k) else if (x = 0 ∧ k > 0) ∨ n + x % 128 * 128 ^ k > 1000000000 then none else some (n + x % 128 * 128 ^ k,k + 1):=by rw [rvL]
theorem res_some {a : Int} {M k : Nat} {b : Int} (h : b = a + ((k + 1 : Nat) : Int)) : some ((M : Int),b,true) = some (rvRes a (some (M,k + 1))):=by subst h;rfl
theorem iRV_step (K : Nat) (t : ByteArray) (a k n x M : Nat) (hs : t.size ≤ 1099511627776) (hk : k < 5) (hlt : a + k < t.size) (hx : x < 256) (eb : bt t ((a + k : Nat) : Int) = (x : Int)) (hM : n + x % 128 * 128 ^ k = M) (hM2 : M ≤ 34359738368) :
  impl_ReadVar.j1 (K + 1) t (a : Int) (n : Int) (k : Int) true = if x ≥ 128 then impl_ReadVar.l0 K t (a : Int) (M : Int) ((k + 1 : Nat) : Int) else some (rvRes (a : Int) (if (x = 0 ∧ k > 0) ∨ M > 1000000000 then none else some (M,k + 1))):=by
 have en : wrap64 ((n : Int) + shl .i64 (Int.tmod (wrap64 ((x : Nat) : Int)) 128) (wrap64 (7 * (k : Int)))) = (M : Int):=by
  rw [tmod128' hx,shl7 (by omega) hk,w64 (by omega) (by omega)];omega
 have ea : wrap64 ((a : Int) + (k : Int)) = ((a + k : Nat) : Int):=by rw [w64 (by omega) (by omega)];omega
 have wx : wrap64 ((x : Nat) : Int) = (x : Int):=w64 (by omega) (by omega);have e7 : (0 : Int) ≤ wrap64 (7 * (k : Int)):=by rw [w64 (by omega) (by omega)];omega
 clear hM;rw [wx] at en;simp only [impl_ReadVar.j1,ea,eb,en,wx,if_true,if_pos (show (0 : Int) ≤ ((a + k : Nat) : Int) by omega),if_pos (show ((a + k : Nat) : Int) < (t.size : Int) by omega),if_pos e7,wsucc (n:=5) hk (by omega),wsucc (n:=t.size) hlt (by omega)]
 by_cases h1 : x ≥ 128
 ·rw [if_pos (by omega),if_pos h1]
 rw [if_neg (by omega),if_neg h1]
 by_cases h4 : M > 1000000000
 ·rw [if_pos (show (x = 0 ∧ k > 0) ∨ M > 1000000000 from .inr h4)]
  by_cases h2 : (x : Int) = 0
  ·rw [if_pos h2]
   by_cases h3 : (k : Int) > 0
   ·rw [if_pos h3];rfl
   rw [if_neg h3,if_pos (by omega)];rfl
  rw [if_neg h2,if_pos (by omega)];rfl
 by_cases h2 : (x : Int) = 0
 ·rw [if_pos h2]
  by_cases h3 : (k : Int) > 0
  ·rw [if_pos h3,if_pos (show (x = 0 ∧ k > 0) ∨ M > 1000000000 from .inl ⟨by omega,by omega⟩)];rfl
  rw [if_neg h3,if_neg (by omega),if_neg (by omega)];exact res_some (by omega)
 rw [if_neg h2,if_neg (by omega),if_neg (by omega)];exact res_some (by omega)
theorem iReadVar_ev (t : ByteArray) (a : Int) (hs : t.size ≤ 1099511627776) (ha : a ≤ (t.size : Int)) : Ev (fun k=>impl_ReadVar.f k t a) (rvB t a):=by
 unfold impl_ReadVar.f rvB
 by_cases h0 : 0 ≤ a
 ·rw [if_pos ⟨h0,ha⟩];obtain ⟨a,rfl⟩ : ∃ m : Nat,a = (m : Int):=⟨a.toNat,by omega⟩;rw [Int.toNat_natCast]
  have main : ∀ (d k n : Nat),k + d = 5 → n < 128 ^ k → Ev (fun K=>impl_ReadVar.l0 K t (a : Int) (n : Int) (k : Int)) (rvRes (a : Int) (rvL ((byt t).drop (a + k)) d k n)):=by
   intro d
   induction d with
   | zero =>
    intro k n hk hn;rw [rvL_zero];refine Ev.step (f:=fun K=>impl_ReadVar.j1 K t (a : Int) (n : Int) (k : Int) false) (fun K=>by simp only [impl_ReadVar.l0];rw [if_neg (by omega)]) (ev_some fun K=>?_);simp only [impl_ReadVar.j1];rfl
   | succ d ih =>
    intro k n hk hn;refine Ev.step (f:=fun K=>impl_ReadVar.j1 K t (a : Int) (n : Int) (k : Int) (decide ((a + k : Nat) < t.size))) (fun K=>?_) ?_
    ·simp only [impl_ReadVar.l0];rw [if_pos (by omega),if_pos (by omega),w64 (x:=(t.size : Int) - k) (by omega) (by omega)]
     congr 1
     exact decide_eq_decide.2 (by omega)
    by_cases hlt : a + k < t.size
    ·rw [decide_eq_true hlt,drop_byt hlt,rvL_cons];have hx:=byt_get_lt t (a + k);have eb:=bt_byt t (a + k);generalize (byt t).getD (a + k) 0 = x at hx eb ⊢;have sl:=step_lt (x:=x) hn;have p6:=pow5 (show k + 1 ≤ 5 by omega);have st:=fun K=>iRV_step K t a k n x _ hs (by omega) hlt hx eb rfl (by omega)
     by_cases h1 : x ≥ 128
     ·rw [if_pos h1];exact Ev.step (fun K=>by rw [st K,if_pos h1]) (ih (k + 1) _ (by omega) sl)
     rw [if_neg h1];exact ev_some fun K=>by rw [st K,if_neg h1]
    rw [decide_eq_false hlt,List.drop_eq_nil_of_le (by rw [byt_len];omega),rvL_nil];refine ev_some fun K=>?_;simp only [impl_ReadVar.j1];rfl
  exact main 5 0 0 rfl (by decide)
 rw [if_neg (fun h=>h0 h.1)];refine Ev.step (f:=fun K=>impl_ReadVar.j1 K t a 0 0 false) (fun K=>by simp only [impl_ReadVar.l0];rw [if_pos (by omega),if_neg (by omega)]) (ev_some fun K=>?_);simp only [impl_ReadVar.j1];rfl
theorem natcast_map {V : List Int} (h : ∀ y ∈ V,0 ≤ y) : (V.map Int.toNat).map (fun b : Nat=>(b : Int)) = V:=by
 induction V with
 | nil=>rfl
 | cons y V ih =>
  have:=h y List.mem_cons_self;show ((y.toNat : Nat) : Int) :: (V.map Int.toNat).map (fun b : Nat=>(b : Int)) = y :: V;rw [ih fun z hz=>h z (List.mem_cons_of_mem _ hz),show ((y.toNat : Nat) : Int) = y by omega]
theorem toNat_map : ∀ l : List Nat,(l.map fun b : Nat=>(b : Int)).map Int.toNat = l
 | []=>rfl
 | y :: l=>by
  show ((y : Nat) : Int).toNat :: (l.map fun b : Nat=>(b : Int)).map Int.toNat = y :: l;rw [toNat_map l,Int.toNat_natCast]
theorem sRV_key {t : ByteArray} {a k x : Nat} {pre : List Nat} (hl : pre.length = k) (es : (byt t).drop a = (pre ++ [x]) ++ (byt t).drop (a + (k + 1))) (hb : ∀ b ∈ pre,128 ≤ b ∧ b < 256) (hx : x < 128) :
  (strOfNums (varL (valB (pre ++ [x])))).toList = (t.extract a (a + k + 1)).toList ↔ (pre = [] ∨ x ≠ 0):=by
 have seg : byt (t.extract a (a + k + 1)) = pre ++ [x]:=by
  rw [byt_sub,es,show a + k + 1 - a = (pre ++ [x]).length by simp;omega,List.take_left]
 have vb:=varL_byte (valB (pre ++ [x]));rw [toList_iff,seg,byt_str _ vb];constructor
 ·intro h
  by_cases h0 : x = 0
  ·left
   subst h0;have e2:=congrArg (List.map fun b : Nat=>(b : Int)) h;rw [natcast_map fun y hy=>(vb y hy).1] at e2;rw [List.map_append] at e2;exact List.map_eq_nil_iff.1 (canon2 _ _ e2)
  exact .inr h0
 intro h;rw [canon1 pre hb hx h,toNat_map]
theorem sRV_step (K : Nat) (t : ByteArray) (a k n x M P : Nat) (hs : t.size ≤ 1099511627776) (hk : k < 5) (hlt : a + k < t.size) (hx : x < 256) (eb : bt t ((a + k : Nat) : Int) = (x : Int)) (hP : 128 ^ k = P) (hM : n + x % 128 * P = M) (hM2 : M ≤ 34359738368) (hP2 : P ≤ 268435456) :
  spec_ReadVar.j1 (K + 1) t (a : Int) (n : Int) (P : Int) ((a + k : Nat) : Int) true = if x ≥ 128 then spec_ReadVar.l0 K t (a : Int) (M : Int) ((P * 128 : Nat) : Int) ((a + (k + 1) : Nat) : Int) else if M > 1000000000 then some (0,0,false) else (spec_l01Var.f K (M : Int)).bind fun t116=>if t116.toList = (t.extract a (a + k + 1)).toList then some ((M : Int),((a + k + 1 : Nat) : Int),true) else some (0,0,false):=by
 have en : wrap64 ((n : Int) + wrap64 (Int.tmod (wrap64 ((x : Nat) : Int)) 128 * (P : Int))) = (M : Int):=by
  rw [tmod128' hx,← Int.natCast_mul,w64 (x:=((x % 128 * P : Nat) : Int)) (by omega) (by omega),w64 (by omega) (by omega)];omega
 have ep : wrap64 ((P : Int) * 128) = ((P * 128 : Nat) : Int):=by rw [w64 (by omega) (by omega)];omega
 clear hM hP;simp only [spec_ReadVar.j1,eb,en,ep,if_true,if_pos (show (0 : Int) ≤ ((a + k : Nat) : Int) by omega),if_pos (show ((a + k : Nat) : Int) < (t.size : Int) by omega),wsucc (n:=t.size) hlt (by omega),Int.toNat_natCast,if_pos (show (0 : Int) ≤ (a : Int) by omega),if_pos (show (a : Int) ≤ ((a + k + 1 : Nat) : Int) by omega),if_pos (show ((a + k + 1 : Nat) : Int) ≤ (t.size : Int) by omega)]
 by_cases h1 : x ≥ 128
 ·rw [if_neg (by omega),if_pos h1];rfl
 rw [if_pos (by omega),if_neg h1]
 by_cases h4 : M > 1000000000
 ·rw [if_pos (by omega),if_pos h4]
 rw [if_neg (by omega),if_neg h4]
theorem sReadVar_ev (t : ByteArray) (a : Int) (hs : t.size ≤ 1099511627776) : Ev (fun k=>spec_ReadVar.f k t a) (rvB t a):=by
 unfold spec_ReadVar.f rvB
 have hin : spec_l01In.f a 0 (t.size : Int) = some (decide (0 ≤ a ∧ a ≤ (t.size : Int))):=by
  unfold spec_l01In.f
  by_cases h1 : a ≥ 0
  ·rw [if_pos h1];congr 1;simp;omega
  rw [if_neg h1];congr 1;simp;omega
 simp only [hin,Option.bind_some,decide_eq_true_eq]
 by_cases h0 : 0 ≤ a ∧ a ≤ (t.size : Int)
 ·simp only [if_pos h0];obtain ⟨a,rfl⟩ : ∃ m : Nat,a = (m : Int):=⟨a.toNat,by omega⟩;rw [Int.toNat_natCast]
  have main : ∀ (d k : Nat) (pre : List Nat),k + d = 5 → pre.length = k → (byt t).drop a = pre ++ (byt t).drop (a + k) → (∀ b ∈ pre,128 ≤ b ∧ b < 256) → Ev (fun K=>spec_ReadVar.l0 K t (a : Int) (valB pre : Int) ((128 ^ k : Nat) : Int) ((a + k : Nat) : Int)) (rvRes (a : Int) (rvL ((byt t).drop (a + k)) d k (valB pre))):=by
   intro d
   induction d with
   | zero =>
    intro k pre hk hl hp hb;rw [rvL_zero];refine Ev.step (f:=fun K=>spec_ReadVar.j1 K t (a : Int) (valB pre : Int) ((128 ^ k : Nat) : Int) ((a + k : Nat) : Int) false) (fun K=>?_) (ev_some fun K=>?_)
    ·simp only [spec_ReadVar.l0]
     by_cases h : ((a + k : Nat) : Int) < (t.size : Int)
     ·rw [if_pos h,w64 (x:=(a : Int) + 5) (by omega) (by omega),decide_eq_false (by omega)]
     rw [if_neg h]
    simp only [spec_ReadVar.j1];rfl
   | succ d ih =>
    intro k pre hk hl hp hb;have hn : valB pre < 128 ^ k:=hl ▸ val_lt pre;refine Ev.step (f:=fun K=>spec_ReadVar.j1 K t (a : Int) (valB pre : Int) ((128 ^ k : Nat) : Int) ((a + k : Nat) : Int) (decide ((a + k : Nat) < t.size))) (fun K=>?_) ?_
    ·simp only [spec_ReadVar.l0]
     by_cases h : ((a + k : Nat) : Int) < (t.size : Int)
     ·rw [if_pos h,w64 (x:=(a : Int) + 5) (by omega) (by omega),decide_eq_true (show ((a + k : Nat) : Int) < (a : Int) + 5 by omega),decide_eq_true (show a + k < t.size by omega)]
     rw [if_neg h,decide_eq_false (show ¬ a + k < t.size by omega)]
    by_cases hlt : a + k < t.size
    ·rw [decide_eq_true hlt,drop_byt hlt,rvL_cons];have hx:=byt_get_lt t (a + k);have hd:=drop_byt hlt;have eb:=bt_byt t (a + k);generalize (byt t).getD (a + k) 0 = x at hx eb hd ⊢;have sl:=step_lt (x:=x) hn;have p6:=pow5 (show k + 1 ≤ 5 by omega);have q4 : (128 : Nat) ^ k ≤ 268435456:=Nat.le_trans (Nat.pow_le_pow_right (by decide) (show k ≤ 4 by omega)) (by decide);have vs : valB (pre ++ [x]) = valB pre + x % 128 * 128 ^ k:=by rw [val_snoc,hl]
     have es : (byt t).drop a = (pre ++ [x]) ++ (byt t).drop (a + (k + 1)):=by rw [hp,hd];simp [Nat.add_assoc]
     rw [← vs] at sl ⊢;have st:=fun K=>sRV_step K t a k (valB pre) x (valB (pre ++ [x])) _ hs (by omega) hlt hx eb rfl vs.symm (by omega) q4
     by_cases h1 : x ≥ 128
     ·rw [if_pos h1]
      exact Ev.step (fun K=>by rw [st K,if_pos h1,← Nat.pow_succ]) (ih (k + 1) (pre ++ [x]) (by omega) (by simp;omega) es (fun b hb'=>by
       rcases List.mem_append.1 hb' with hb' | hb'
       ·exact hb b hb'
       obtain rfl:=List.mem_singleton.1 hb';exact ⟨h1,hx⟩))
     rw [if_neg h1];have key:=sRV_key hl es hb (by omega);have hv:=fun h=>l01Var_ev (n:=(valB (pre ++ [x]) : Int)) (by omega) h;rw [Int.toNat_natCast] at hv;clear vs;generalize valB (pre ++ [x]) = M at st key hv sl ⊢
     by_cases h4 : M > 1000000000
     ·rw [if_pos (.inr h4)];exact ev_some fun K=>by rw [st K,if_neg h1,if_pos h4];rfl
     refine Ev.step (fun K=>by rw [st K,if_neg h1,if_neg h4]) (ev_bind (hv (by omega)) ?_)
     by_cases h2 : pre = [] ∨ x ≠ 0
     ·rw [if_pos (key.2 h2),if_neg (fun h=>by
       rcases h with ⟨h5,h6⟩ | h
       ·rcases h2 with h2 | h2
        ·rw [h2] at hl;simp at hl;omega
        exact h2 h5
       exact h4 h)]
      exact ev_const (res_some (by omega))
     rw [if_neg (fun h=>h2 (key.1 h)),if_pos (.inl ⟨by
      by_cases h5 : x = 0
      ·exact h5
      ·exact absurd (.inr h5) h2,by
      cases pre with
      | nil=>exact absurd (.inl rfl) h2
      | cons b r=>simp at hl;omega⟩)]
     exact Ev.now _
    rw [decide_eq_false hlt,List.drop_eq_nil_of_le (by rw [byt_len];omega),rvL_nil];refine ev_some fun K=>?_;simp only [spec_ReadVar.j1];rfl
  exact main 5 0 [] rfl rfl rfl (fun b hb=>by cases hb)
 simp only [if_neg h0];exact Ev.now _
end Go.Proofs.YtbbfkodckpfjcaaGreat.Pu

namespace Go.Proofs.YtbbfkodckpfjcaaGreat.M2.Mp
set_option linter.unusedVariables false
set_option linter.unusedSimpArgs false
open Go.RowKit Go.Proofs.YtbbfkodckpfjcaaGreat.PK Go.Proofs.YtbbfkodckpfjcaaGreatW.PrintWords Go.Proofs.YtbbfkodckpfjcaaGreat.Pu
theorem m64 {i : Nat} {n : Nat} (h : i < n) (hn : n ≤ 9223372036854775807) : M2.w64 ((i : Int) + 1) = ((i + 1 : Nat) : Int):=by
 rw [w64_eq];exact wsucc h hn
theorem x64 {x : Int} (h1 : -9223372036854775808 ≤ x) (h2 : x ≤ 9223372036854775807) : M2.w64 x = x:=by
 rw [w64_eq];exact Pu.w64 h1 h2
theorem ev_pos {α : Type} {c : Prop} [Decidable c] {g f : Nat → Option α} {r : α} (h : c) (h1 : Ev g r) : Ev (fun n=>if c then g n else f n) r:=by
 simp only [if_pos h];exact h1
theorem ev_neg {α : Type} {c : Prop} [Decidable c] {g f : Nat → Option α} {r : α} (h : ¬ c) (h1 : Ev f r) : Ev (fun n=>if c then g n else f n) r:=by
 simp only [if_neg h];exact h1
theorem seq_iff (a b : ByteArray) : M2.seq a b = true ↔ a = b:=by
 unfold M2.seq;rw [beq_iff_eq,toList_iff];exact ⟨byt_inj,fun h=>by rw [h]⟩
def rng (x : Int) : Prop:=0 ≤ x ∧ x < 4294967296
theorem xor_rng (a b : Int) : rng (Go.bits .xor .u32 a b):=by
 unfold Go.bits rng;rw [IntKind.wrap_u32];omega
theorem wraps_u32 (n : Int) (h₀ : 0 ≤ n) (h₁ : n < 2 ^ 32) : IntKind.u32.wrap n = n:=by rw [IntKind.wrap_u32];omega
theorem and_one {x : Int} (h : rng x) : Go.bits .and .u32 x 1 = x % 2:=bits_mask .u32 32 (by decide) wraps_u32 1 (by decide) x h.1 h.2
theorem half_s {x : Int} (h : rng x) : Go.IntKind.wrap .u32 (Int.tdiv x 2) = x / 2:=by
 rw [IntKind.wrap_u32,Int.tdiv_eq_ediv_of_nonneg h.1];have:=h.2;have:=h.1;omega
theorem half_i (x : Int) : Int.fdiv x 2 = x / 2:=Int.fdiv_eq_ediv_of_nonneg _ (by decide)
theorem half_rng {x : Int} (h : rng x) : rng (x / 2):=by
 have:=h.2;have:=h.1;exact ⟨by omega,by omega⟩
noncomputable def c8 : Nat → Int → Int
 | 0,x=>x
 | n + 1,x=>c8 n (if x % 2 = 1 then Go.bits .xor .u32 (x / 2) 3558460437 else x / 2)
noncomputable def crc (t : ByteArray) : Nat → Nat → Int → Int
 | _,0,x=>x
 | i,d + 1,x=>crc t (i + 1) d (c8 8 (Go.bits .xor .u32 x (Go.IntKind.wrap .u32 (bt t (i : Int)))))
theorem sSum6 (t : ByteArray) (i : Nat) (hi : i < t.size) (hs : t.size ≤ 9223372036854775807) : ∀ (d j : Nat) (x r : Int),j + d = 8 → rng x → Ev (fun k=>spec_SumMore.c2 k (c8 d x) t ((i + 1 : Nat) : Int)) r → Ev (fun k=>spec_SumMore.c6 k x t (i : Int) (j : Int)) r
 | 0,j,x,r,hj,hx,h=>by
  refine Ev.step (fun k=>?_) h;rw [spec_SumMore.c6,if_neg (by omega),m64 hi hs];rfl
 | d + 1,j,x,r,hj,hx,h=>by
  have hx0:=hx.1;have e : Int.tmod x 2 = x % 2:=Int.tmod_eq_emod_of_nonneg hx0
  by_cases h1 : x % 2 = 1
  ·rw [c8,if_pos h1] at h;refine Ev.step (fun k=>?_) (sSum6 t i hi hs d (j + 1) _ r (by omega) (xor_rng _ _) h);rw [spec_SumMore.c6,if_pos (by omega),if_pos (by rw [e];exact h1),half_s hx,m64 (n:=9) (by omega) (by omega)]
  rw [c8,if_neg h1] at h;refine Ev.step (fun k=>?_) (sSum6 t i hi hs d (j + 1) _ r (by omega) (half_rng hx) h);rw [spec_SumMore.c6,if_pos (by omega),if_neg (by rw [e];exact h1),half_s hx,m64 (n:=9) (by omega) (by omega)]
theorem sSum2 (t : ByteArray) (hs : t.size ≤ 9223372036854775807) : ∀ (d i : Nat) (x : Int),i + d = t.size → Ev (fun k=>spec_SumMore.c2 k x t (i : Int)) (crc t i d x)
 | 0,i,x,hi=>by
  refine Ev.step (f:=fun _=>some x) (fun k=>?_) (Ev.now _);rw [spec_SumMore.c2,if_neg (by omega)]
 | d + 1,i,x,hi=>by
  refine Ev.step (fun k=>?_) (sSum6 t i (by omega) hs 8 0 _ _ rfl (xor_rng _ _) (sSum2 t hs d (i + 1) _ (by omega)));rw [spec_SumMore.c2,if_pos (by omega),if_pos (by omega),if_pos (by omega)];rfl
theorem iSum6 (t : ByteArray) (i : Nat) (hi : i < t.size) (hs : t.size ≤ 9223372036854775807) : ∀ (d j : Nat) (x r : Int),j + d = 8 → rng x → Ev (fun k=>impl_SumMore.c2 k (c8 d x) t ((i + 1 : Nat) : Int)) r → Ev (fun k=>impl_SumMore.c6 k x t (i : Int) (j : Int)) r
 | 0,j,x,r,hj,hx,h=>by
  refine Ev.step (fun k=>?_) h;rw [impl_SumMore.c6,if_neg (by omega),m64 hi hs];rfl
 | d + 1,j,x,r,hj,hx,h=>by
  by_cases h1 : x % 2 = 1
  ·rw [c8,if_pos h1] at h;refine Ev.step (fun k=>?_) (iSum6 t i hi hs d (j + 1) _ r (by omega) (xor_rng _ _) h);rw [impl_SumMore.c6,if_pos (by omega),if_pos (by rw [and_one hx];exact h1),half_i,m64 (n:=9) (by omega) (by omega)]
  rw [c8,if_neg h1] at h;refine Ev.step (fun k=>?_) (iSum6 t i hi hs d (j + 1) _ r (by omega) (half_rng hx) h);rw [impl_SumMore.c6,if_pos (by omega),if_neg (by rw [and_one hx];exact h1),half_i,m64 (n:=9) (by omega) (by omega)]
theorem iSum2 (t : ByteArray) (hs : t.size ≤ 9223372036854775807) : ∀ (d i : Nat) (x : Int),i + d = t.size → Ev (fun k=>impl_SumMore.c2 k x t (i : Int)) (crc t i d x)
 | 0,i,x,hi=>by
  refine Ev.step (f:=fun _=>some x) (fun k=>?_) (Ev.now _);rw [impl_SumMore.c2,if_neg (by omega)]
 | d + 1,i,x,hi=>by
  refine Ev.step (fun k=>?_) (iSum6 t i (by omega) hs 8 0 _ _ rfl (xor_rng _ _) (iSum2 t hs d (i + 1) _ (by omega)));rw [impl_SumMore.c2,if_pos (by omega),if_pos (by omega),if_pos (by omega)];rfl
noncomputable def sumT (t : ByteArray) : Int:=crc t 0 t.size 4294967295
theorem sSumOf (t : ByteArray) (hs : t.size ≤ 9223372036854775807) : Ev (fun k=>spec_SumOf.f k t) (sumT t):=by
 simp only [spec_SumOf.f,spec_SumMore.f];exact Ev.bind (sSum2 t hs t.size 0 _ (by omega)) (Ev.now _)
theorem iSumOf (t : ByteArray) (hs : t.size ≤ 9223372036854775807) : Ev (fun k=>impl_SumOf.f k t) (sumT t):=by
 simp only [impl_SumOf.f,impl_SumMore.f];exact Ev.bind (iSum2 t hs t.size 0 _ (by omega)) (Ev.now _)
noncomputable def four (v : Int) : ByteArray:=strOfNums [Go.IntKind.wrap .u8 (Int.fdiv v 16777216),Go.IntKind.wrap .u8 (Int.fdiv v 65536),Go.IntKind.wrap .u8 (Int.fdiv v 256),Go.IntKind.wrap .u8 v]
theorem four_size (v : Int) : (four v).size = 4:=strOf_size _
noncomputable def sealT (t : ByteArray) : ByteArray:=t ++ four (sumT t)
noncomputable def sealed (t : ByteArray) : ByteArray × Bool:=if t.size ≤ 20000 then (sealT t,true) else (⟨#[]⟩,false)
theorem sSealed (t : ByteArray) (hs : t.size ≤ 9223372036854775807) : Ev (fun k=>spec_Sealed.f k t) (sealed t):=by
 simp only [spec_Sealed.f]
 by_cases h : t.size ≤ 20000
 ·simp only [if_neg (show ¬ (t.size : Int) > 20000 by omega),sealed,if_pos h];refine Ev.bind (sSumOf t hs) (Ev.bind (Ev.now (four (sumT t))) ?_);rw [if_pos (by rw [four_size];omega)];exact Ev.now _
 simp only [if_pos (show (t.size : Int) > 20000 by omega),sealed,if_neg h];exact Ev.now _
theorem iSealed (t : ByteArray) (hs : t.size ≤ 9223372036854775807) : Ev (fun k=>impl_Sealed.f k t) (sealed t):=by
 simp only [impl_Sealed.f]
 by_cases h : t.size ≤ 20000
 ·simp only [if_neg (show ¬ (t.size : Int) > 20000 by omega),sealed,if_pos h];refine Ev.bind (iSumOf t hs) ?_;rw [if_pos (by rw [show (strOfNums _).size = 4 from strOf_size _];omega)];exact Ev.now _
 simp only [if_pos (show (t.size : Int) > 20000 by omega),sealed,if_neg h];exact Ev.now _
theorem split_at (t : ByteArray) {n : Nat} (h : n ≤ t.size) : t = t.extract 0 n ++ t.extract n t.size:=by
 refine byt_inj ?_;rw [byt_app,byt_sub,byt_sub,Nat.sub_zero,List.drop_zero];have : (byt t).length = t.size:=byt_len t
 conv=>lhs;rw [← List.take_append_drop n (byt t)]
 rw [List.take_of_length_le (l:=(byt t).drop n) (by rw [List.length_drop];omega)]
theorem app_cancel {a b c : ByteArray} (h : a ++ b = a ++ c) : b = c:=by
 refine byt_inj ?_;have:=congrArg byt h;rw [byt_app,byt_app] at this;exact List.append_cancel_left this
open Classical in
noncomputable def unsealed (t : ByteArray) : ByteArray × Bool:=if 4 ≤ t.size ∧ t.size - 4 ≤ 20000 ∧ sealT (t.extract 0 (t.size - 4)) = t then (t.extract 0 (t.size - 4),true) else (⟨#[]⟩,false)
theorem ext_size (t : ByteArray) {n : Nat} (h : n ≤ t.size) : (t.extract 0 n).size = n:=by
 rw [ByteArray.size_extract];omega
theorem sUnsealed (t : ByteArray) (hs : t.size ≤ 9223372036854775807) : Ev (fun k=>spec_Unsealed.f k t) (unsealed t):=by
 simp only [spec_Unsealed.f]
 by_cases h4 : 4 ≤ t.size
 ·obtain ⟨n,hn⟩ : ∃ n,t.size = n + 4:=⟨t.size - 4,by omega⟩;have e : M2.w64 ((t.size : Int) - 4) = (n : Int):=by rw [x64 (by omega) (by omega)];omega
  have en : t.size - 4 = n:=by omega
  simp only [e,if_neg (show ¬ (n : Int) < 0 by omega),if_pos (show 0 ≤ (n : Int) by omega),if_pos (show (n : Int) ≤ (t.size : Int) by omega),Int.toNat_natCast]
  by_cases hb : n ≤ 20000
  ·simp only [if_neg (show ¬ (n : Int) > 20000 by omega)];refine Ev.bind (sSumOf _ (by rw [ext_size t (by omega)];omega)) (Ev.bind (Ev.now (four (sumT (t.extract 0 n)))) ?_);have hsp:=split_at t (n:=n) (by omega)
   by_cases hq : sealT (t.extract 0 n) = t
   ·have hx : t.extract n t.size = four (sumT (t.extract 0 n)):=by
     refine (app_cancel (a:=t.extract 0 n) ?_).symm;exact hq.trans hsp
    rw [if_pos (by rw [seq_iff];exact hx),unsealed,if_pos ⟨h4,by omega,by rw [en];exact hq⟩,en];exact Ev.now _
   have hx : ¬ t.extract n t.size = four (sumT (t.extract 0 n)):=fun hx=>hq (by
    unfold sealT
    rw [← hx];exact hsp.symm)
   rw [if_neg (by rw [seq_iff];exact hx),unsealed,if_neg (by rw [en];exact fun h=>hq h.2.2)];exact Ev.now _
  simp only [if_pos (show (n : Int) > 20000 by omega)];rw [unsealed,if_neg (fun h=>absurd h.2.1 (by omega))];exact Ev.now _
 simp only [if_pos (show M2.w64 ((t.size : Int) - 4) < 0 by rw [x64 (by omega) (by omega)];omega)];rw [unsealed,if_neg (fun h=>absurd h.1 (by omega))];exact Ev.now _
theorem iUnsealed (t : ByteArray) (hs : t.size ≤ 9223372036854775807) : Ev (fun k=>impl_Unsealed.f k t) (unsealed t):=by
 simp only [impl_Unsealed.f]
 by_cases h4 : 4 ≤ t.size
 ·obtain ⟨n,hn⟩ : ∃ n,t.size = n + 4:=⟨t.size - 4,by omega⟩;have e : M2.w64 ((t.size : Int) - 4) = (n : Int):=by rw [x64 (by omega) (by omega)];omega
  have en : t.size - 4 = n:=by omega
  simp only [e,if_neg (show ¬ (t.size : Int) < 4 by omega),if_pos (show 0 ≤ (n : Int) by omega),if_pos (show (n : Int) ≤ (t.size : Int) by omega),Int.toNat_natCast];refine Ev.bind (iSealed _ (by rw [ext_size t (by omega)];omega)) ?_;rw [sealed,ext_size t (by omega)]
  by_cases hb : n ≤ 20000
  ·rw [if_pos hb]
   by_cases hq : sealT (t.extract 0 n) = t
   ·rw [if_pos rfl,if_pos (by rw [seq_iff];exact hq),unsealed,if_pos ⟨h4,by omega,by rw [en];exact hq⟩,en];exact Ev.now _
   rw [if_pos rfl,if_neg (by rw [seq_iff];exact hq),unsealed,if_neg (by rw [en];exact fun h=>hq h.2.2)];exact Ev.now _
  rw [if_neg hb];simp only [Bool.false_eq_true,if_false];rw [unsealed,if_neg (fun h=>absurd h.2.1 (by omega))];exact Ev.now _
 simp only [if_pos (show (t.size : Int) < 4 by omega)];rw [unsealed,if_neg (fun h=>absurd h.1 (by omega))];exact Ev.now _
end Go.Proofs.YtbbfkodckpfjcaaGreat.M2.Mp

namespace Go.Proofs.YtbbfkodckpfjcaaGreat.M2.Mp
set_option linter.unusedVariables false
set_option linter.unusedSimpArgs false
open Go.RowKit Go.Proofs.YtbbfkodckpfjcaaGreat.PK Go.Proofs.YtbbfkodckpfjcaaGreatW.PrintWords Go.Proofs.YtbbfkodckpfjcaaGreat.Pu
theorem rvL_spec : ∀ (d k : Nat) (pre r : List Nat) (M j : Nat),rvL r d k (valB pre) = some (M,j) → pre.length = k → (∀ b ∈ pre,128 ≤ b ∧ b < 256) → (∀ b ∈ r,b < 256) →
  ∃ mid x post,r = mid ++ x :: post ∧ j = k + mid.length + 1 ∧ M = valB ((pre ++ mid) ++ [x]) ∧ x < 128 ∧ (pre ++ mid = [] ∨ x ≠ 0) ∧ (∀ b ∈ mid,128 ≤ b ∧ b < 256) ∧ M ≤ 1000000000
 | 0,k,pre,r,M,j,h,_,_,_=>by rw [rvL_zero] at h;cases h
 | d + 1,k,pre,[],M,j,h,_,_,_=>by rw [rvL_nil] at h;cases h
 | d + 1,k,pre,x :: r,M,j,h,hl,hp,hr=>by
  rw [rvL_cons] at h;have hx:=hr x (by simp);have hv:=val_snoc pre x;rw [hl] at hv
  split at h
  ·rename_i h1;rw [← hv] at h;obtain ⟨mid,y,post,e1,e2,e3,e4,e5,e6,e7⟩:=rvL_spec d (k + 1) (pre ++ [x]) r M j h (by simp [hl]) (fun b hb=>by rcases List.mem_append.1 hb with hb | hb;exact hp b hb;simp at hb;subst hb;exact ⟨h1,hx⟩) (fun b hb=>hr b (by simp [hb]));exact ⟨x :: mid,y,post,by rw [e1];rfl,by rw [e2,List.length_cons];omega,by rw [e3];simp,e4,.inr (by rcases e5 with e5 | e5;simp at e5;exact e5),fun b hb=>by rcases List.mem_cons.1 hb with rfl | hb;exact ⟨h1,hx⟩;exact e6 b hb,e7⟩
  split at h
  ·cases h
  rename_i h1 h2;cases h;refine ⟨[],x,r,rfl,rfl,by rw [List.append_nil,hv],by omega,?_,by simp,by omega⟩;rw [List.append_nil];rcases Nat.eq_zero_or_pos k with h0 | h0
  ·left;exact List.length_eq_zero_iff.1 (by omega)
  right;intro hx0;exact h2 (.inl ⟨hx0,h0⟩)
theorem rv_cases (t : ByteArray) (a : Int) : rvB t a = (0,0,false) ∨ ∃ (i M j : Nat),a = (i : Int) ∧ rvB t a = ((M : Int),((i + j : Nat) : Int),true) ∧ 1 ≤ j ∧ i + j ≤ t.size ∧ M ≤ 1000000000 ∧ t.extract i (i + j) = strOfNums (varL M):=by
 unfold rvB
 by_cases h0 : 0 ≤ a ∧ a ≤ (t.size : Int)
 ·rw [if_pos h0];cases h : rvL ((byt t).drop a.toNat) 5 0 0 with
  | none=>left;rfl
  | some z =>
   obtain ⟨M,j⟩:=z;obtain ⟨mid,x,post,e1,e2,e3,e4,e5,e6,e7⟩:=rvL_spec 5 0 [] _ M j h rfl (by simp) (fun b hb=>byt_lt t b (List.mem_of_mem_drop hb));rw [List.nil_append] at e3 e5
   have hlen : mid.length + 1 ≤ t.size - a.toNat:=by
    have:=congrArg List.length e1;rw [List.length_drop,byt_len,List.length_append,List.length_cons] at this;omega
   refine .inr ⟨a.toNat,M,j,by omega,?_,by omega,by omega,e7,byt_inj ?_⟩
   ·show (((M : Int),a + (j : Int),true) : Int × Int × Bool) = _;rw [show a + (j : Int) = ((a.toNat + j : Nat) : Int) by omega]
   rw [byt_str _ (varL_byte M),byt_sub,e1,e3,canon1 mid e6 e4 e5,toNat_map,show a.toNat + j - a.toNat = (mid ++ [x]).length by rw [List.length_append];simp;omega,show mid ++ x :: post = (mid ++ [x]) ++ post by simp,List.take_left]
 rw [if_neg h0];left;rfl
theorem sRV (t : ByteArray) (a : Int) (hs : t.size ≤ 1099511627776) : Ev (fun k=>spec_ReadVar.f k t a) (rvB t a):=ev_rel (c:=id) (sReadVar_ev t a hs) (fun k r h m hm=>spec_ReadVar.rel k t a r h m hm)
theorem iRV (t : ByteArray) (a : Int) (hs : t.size ≤ 1099511627776) (ha : a ≤ (t.size : Int)) : Ev (fun k=>impl_ReadVar.f k t a) (rvB t a):=ev_rel (c:=id) (iReadVar_ev t a hs ha) (fun k r h m hm=>impl_ReadVar.rel k t a r h m hm)
theorem sVar {n : Int} (h0 : 0 ≤ n) (h : n ≤ 1000000000) : Ev (fun k=>spec_l01Var.f k n) (strOfNums (varL n.toNat)):=ev_rel (c:=id) (l01Var_ev h0 h) (fun k r h m hm=>spec_l01Var.rel k n r h m hm)
def okP (kind seq tx part count : Int) (text : ByteArray) : Bool:=decide ((1 ≤ kind ∧ kind ≤ 2) ∧ (1 ≤ seq ∧ seq ≤ 1000000000) ∧ (1 ≤ tx ∧ tx ≤ 1000000000) ∧ (1 ≤ count ∧ count ≤ 9) ∧ (0 ≤ part ∧ part ≤ count - 1) ∧ text.size ≤ 90 ∧ (kind = 2 ∨ count = 1))
theorem sIn (k : Nat) (n a b : Int) : spec_l01In.f k n a b = some (decide (a ≤ n ∧ n ≤ b)):=by
 simp only [spec_l01In.f]
 by_cases h : n ≥ a
 ·rw [if_pos h];congr 1;simp only [Bool.decide_and];rw [decide_eq_true (show a ≤ n from h)];simp
 rw [if_neg h];congr 1;rw [decide_eq_false (fun hh=>h hh.1)]
theorem iIn (k : Nat) (n a b : Int) : impl_in.f k n a b = some (decide (a ≤ n ∧ n ≤ b)):=by
 simp only [impl_in.f]
 by_cases h : n ≥ a
 ·rw [if_pos h];congr 1;simp only [Bool.decide_and];rw [decide_eq_true (show a ≤ n from h)];simp
 rw [if_neg h];congr 1;rw [decide_eq_false (fun hh=>h hh.1)]
theorem sPageOk (k : Nat) (kind seq tx part count : Int) (text : ByteArray) : spec_PageOk.f k kind seq tx part count text = some (okP kind seq tx part count text):=by
 simp only [spec_PageOk.f,sIn,Option.bind_some,decide_eq_true_eq];unfold okP
 by_cases h1 : 1 ≤ kind ∧ kind ≤ 2
 ·by_cases h2 : 1 ≤ seq ∧ seq ≤ 1000000000
  ·by_cases h3 : 1 ≤ tx ∧ tx ≤ 1000000000
   ·by_cases h4 : 1 ≤ count ∧ count ≤ 9
    ·have e : M2.w64 (count - 1) = count - 1:=x64 (by omega) (by omega)
     by_cases h5 : 0 ≤ part ∧ part ≤ count - 1
     ·by_cases h6 : (text.size : Int) > 90
      ·rw [if_pos h1,if_pos h2,if_pos h3,if_pos h4,e,if_pos h5,if_pos h6];congr 1;simp;omega
      by_cases h7 : kind = 2
      ·rw [if_pos h1,if_pos h2,if_pos h3,if_pos h4,e,if_pos h5,if_neg h6,if_pos h7];congr 1;simp;omega
      rw [if_pos h1,if_pos h2,if_pos h3,if_pos h4,e,if_pos h5,if_neg h6,if_neg h7];congr 1;rw [decide_eq_decide];omega
     rw [if_pos h1,if_pos h2,if_pos h3,if_pos h4,e,if_neg h5];congr 1;simp;omega
    rw [if_pos h1,if_pos h2,if_pos h3,if_neg h4];congr 1;simp;omega
   rw [if_pos h1,if_pos h2,if_neg h3];congr 1;simp;omega
  rw [if_pos h1,if_neg h2];congr 1;simp;omega
 rw [if_neg h1];congr 1;simp;omega
theorem iPageOk (k : Nat) (kind seq tx part count : Int) (text : ByteArray) : impl_PageOk.f k kind seq tx part count text = some (okP kind seq tx part count text):=by
 simp only [impl_PageOk.f,iIn,Option.bind_some,decide_eq_true_eq];unfold okP
 by_cases h2 : 1 ≤ seq ∧ seq ≤ 1000000000
 ·by_cases h3 : 1 ≤ tx ∧ tx ≤ 1000000000
  ·by_cases h4 : 1 ≤ count ∧ count ≤ 9
   ·have e : M2.w64 (count - 1) = count - 1:=x64 (by omega) (by omega)
    by_cases h5 : 0 ≤ part ∧ part ≤ count - 1
    ·by_cases h6 : (text.size : Int) > 90
     ·rw [if_pos h2,if_pos h3,if_pos h4,e,if_pos h5,if_pos h6];congr 1;simp;omega
     by_cases h7 : kind = 2
     ·rw [if_pos h2,if_pos h3,if_pos h4,e,if_pos h5,if_neg h6,if_pos h7];congr 1;simp;omega
     by_cases h8 : kind = 1
     ·rw [if_pos h2,if_pos h3,if_pos h4,e,if_pos h5,if_neg h6,if_neg h7,if_pos h8];congr 1;rw [decide_eq_decide];omega
     rw [if_pos h2,if_pos h3,if_pos h4,e,if_pos h5,if_neg h6,if_neg h7,if_neg h8];congr 1;simp;omega
    rw [if_pos h2,if_pos h3,if_pos h4,e,if_neg h5];congr 1;simp;omega
   rw [if_pos h2,if_pos h3,if_neg h4];congr 1;simp;omega
  rw [if_pos h2,if_neg h3];congr 1;simp;omega
 rw [if_neg h2];congr 1;simp;omega
abbrev PageV:=Int × Int × Int × Int × Int × ByteArray × Bool
def noPage : PageV:=(0,0,0,0,0,⟨#[]⟩,false)
noncomputable def pageIn (s : ByteArray) : PageV :=
 if (rvB s 1).2.2 = true then if (rvB s (rvB s 1).2.1).2.2 = true then if (rvB s (rvB s (rvB s 1).2.1).2.1).2.2 = true then if (rvB s (rvB s (rvB s (rvB s 1).2.1).2.1).2.1).2.2 = true then
  if okP (bt s 0) (rvB s 1).1 (rvB s (rvB s 1).2.1).1 (rvB s (rvB s (rvB s 1).2.1).2.1).1 (rvB s (rvB s (rvB s (rvB s 1).2.1).2.1).2.1).1 (s.extract (rvB s (rvB s (rvB s (rvB s 1).2.1).2.1).2.1).2.1.toNat s.size) = true then
   (bt s 0,(rvB s 1).1,(rvB s (rvB s 1).2.1).1,(rvB s (rvB s (rvB s 1).2.1).2.1).1,(rvB s (rvB s (rvB s (rvB s 1).2.1).2.1).2.1).1,s.extract (rvB s (rvB s (rvB s (rvB s 1).2.1).2.1).2.1).2.1.toNat s.size,true)
  else noPage else noPage else noPage else noPage else noPage
noncomputable def pageT (t : ByteArray) : PageV:=if (unsealed t).2 = true ∧ (unsealed t).1.size ≠ 0 then pageIn (unsealed t).1 else noPage
theorem bt_rng (s : ByteArray) (i : Nat) : 0 ≤ bt s (i : Int) ∧ bt s (i : Int) < 256:=by
 have h:=byt_get_lt s i;rw [M2.bt_eq,Pu.bt_byt];omega
theorem unsealed_size (t : ByteArray) : (unsealed t).1.size ≤ 20000 ∧ (unsealed t).1.size ≤ t.size:=by
 unfold unsealed
 split
 ·rename_i h;rw [ext_size t (by omega)];exact ⟨h.2.1,by omega⟩
 exact ⟨Nat.zero_le _,Nat.zero_le _⟩
theorem rv_le {s : ByteArray} {a : Int} (h : (rvB s a).2.2 = true) : 0 ≤ (rvB s a).2.1 ∧ (rvB s a).2.1 ≤ (s.size : Int):=by
 rcases rv_cases s a with h1 | ⟨i,M,j,e1,e2,e3,e4,e5,e6⟩
 ·rw [h1] at h;cases h
 rw [e2];exact ⟨by show (0 : Int) ≤ ((i + j : Nat) : Int);omega,by show ((i + j : Nat) : Int) ≤ _;omega⟩
theorem iPage7 (s : ByteArray) (hs : s.size ≤ 20000) (h0 : s.size ≠ 0) : Ev (fun k=>impl_ReadPage.c7 k s 1 0 0 0 0 0 0 (⟨#[]⟩ : ByteArray) (List.replicate 4 z3)) (pageIn s):=by
 have step : ∀ (p : Int) (j : Nat) (l : List Int) (r : PageV),p ≤ (s.size : Int) → j < 4 → l.length = 4 → ((rvB s p).2.2 = true → Ev (fun k=>impl_ReadPage.c7 k s (rvB s p).2.1 ((j + 1 : Nat) : Int) 0 0 0 0 0 (⟨#[]⟩ : ByteArray) (l.set j (rvB s p).1)) r) → ((rvB s p).2.2 ≠ true → r = noPage) →
   Ev (fun k=>impl_ReadPage.c7 k s p (j : Int) 0 0 0 0 0 (⟨#[]⟩ : ByteArray) l) r:=by
  intro p j l r hp hj hl h1 h2;refine Ev.step (f:=fun k=>(impl_ReadVar.f k s p).bind fun t2=>if t2.2.2 = true then impl_ReadPage.c7 k s t2.2.1 ((j + 1 : Nat) : Int) 0 0 0 0 0 (⟨#[]⟩ : ByteArray) (l.set j t2.1) else some noPage) (fun k=>?_) (Ev.bind (iRV s p (by omega) hp) ?_)
  ·rw [impl_ReadPage.c7,if_pos (by omega)]
   congr 1;funext t2
   rw [if_pos (show Nat.beq 4 l.length = true by rw [hl];rfl),if_pos (show (0 : Int) ≤ (j : Int) by omega),if_pos (show (j : Int) < (l.length : Int) by omega),m64 (n:=4) hj (by omega),Int.toNat_natCast];rfl
  by_cases h : (rvB s p).2.2 = true
  ·simp only [if_pos h];exact h1 h
  simp only [if_neg h];rw [h2 h];exact Ev.now _
 unfold pageIn;refine step 1 0 _ _ (by omega) (by omega) rfl (fun q1=>?_) (fun q=>by rw [if_neg q]);rw [if_pos q1];refine step _ 1 _ _ (rv_le q1).2 (by omega) rfl (fun q2=>?_) (fun q=>by rw [if_neg q]);rw [if_pos q2];refine step _ 2 _ _ (rv_le q2).2 (by omega) rfl (fun q3=>?_) (fun q=>by rw [if_neg q]);rw [if_pos q3];refine step _ 3 _ _ (rv_le q3).2 (by omega) rfl (fun q4=>?_) (fun q=>by rw [if_neg q]);rw [if_pos q4];have hb : 0 ≤ bt s 0 ∧ bt s 0 < 256:=bt_rng s 0;have eb : M2.w64 (bt s 0) = bt s 0:=x64 (by omega) (by omega);refine Ev.step (f:=fun _=>some _) (fun k=>?_) (Ev.now _);have q5:=(rv_le q4).1;have q6:=(rv_le q4).2;generalize (rvB s (rvB s (rvB s (rvB s 1).2.1).2.1).2.1).1 = E at *;generalize (rvB s (rvB s (rvB s (rvB s 1).2.1).2.1).2.1).2.1 = p at *;generalize (rvB s (rvB s (rvB s 1).2.1).2.1).1 = C;generalize (rvB s (rvB s 1).2.1).1 = B;generalize (rvB s 1).1 = A;rw [impl_ReadPage.c7,if_neg (by omega),if_pos (by omega),show ((((List.replicate 4 z3).set 0 A).set 1 B).set 2 C).set 3 E = [A,B,C,E] from rfl];have l4 : (([A,B,C,E] : List Int).length : Int) = 4:=rfl;have b4 : Nat.beq 4 ([A,B,C,E] : List Int).length = true:=rfl;simp only [eb,iPageOk,Option.bind_some,if_pos q5,if_pos q6,l4,b4,if_true,if_pos (show (0 : Int) < 4 by omega),if_pos (show (1 : Int) < 4 by omega),if_pos (show (2 : Int) < 4 by omega),if_pos (show (3 : Int) < 4 by omega)];show (if okP (bt s 0) A B C E (s.extract p.toNat s.size) = true then some ((bt s 0,A,B,C,E,s.extract p.toNat s.size,true) : PageV) else some noPage) = some (if okP (bt s 0) A B C E (s.extract p.toNat s.size) = true then (bt s 0,A,B,C,E,s.extract p.toNat s.size,true) else noPage)
 split <;> rfl
theorem iReadPage (t : ByteArray) (hs : t.size ≤ 1099511627776) : Ev (fun k=>impl_ReadPage.f k t) (pageT t):=by
 simp only [impl_ReadPage.f];refine Ev.bind (iUnsealed t (by omega)) ?_;have hz:=unsealed_size t;unfold pageT
 by_cases h1 : (unsealed t).2 = true
 ·simp only [if_pos h1]
  by_cases h2 : (unsealed t).1.size = 0
  ·rw [if_neg (fun h=>h.2 h2)]
   have e : M2.seq (unsealed t).1 (⟨#[]⟩ : ByteArray) = true:=by
    rw [seq_iff];refine byt_inj (List.length_eq_zero_iff.1 ?_);rw [byt_len];exact h2
   simp only [if_pos e];exact Ev.now _
  rw [if_pos ⟨h1,h2⟩]
  have e : ¬ M2.seq (unsealed t).1 (⟨#[]⟩ : ByteArray) = true:=by
   rw [seq_iff];intro e;exact h2 (by rw [e];rfl)
  simp only [if_neg e];exact iPage7 _ hz.1 h2
 rw [if_neg (fun h=>h1 h.1)];simp only [if_neg h1];exact Ev.now _
end Go.Proofs.YtbbfkodckpfjcaaGreat.M2.Mp

namespace Go.Proofs.YtbbfkodckpfjcaaGreat.M2.Mp
set_option linter.unusedVariables false
set_option linter.unusedSimpArgs false
open Go.RowKit Go.Proofs.YtbbfkodckpfjcaaGreat.PK Go.Proofs.YtbbfkodckpfjcaaGreatW.PrintWords Go.Proofs.YtbbfkodckpfjcaaGreat.Pu
theorem ext_app (s : ByteArray) {a b c : Nat} (h1 : a ≤ b) (h2 : b ≤ c) : s.extract a b ++ s.extract b c = s.extract a c:=by
 refine byt_inj ?_;rw [byt_app,byt_sub,byt_sub,byt_sub,show c - a = (b - a) + (c - b) by omega,List.take_add,List.drop_drop,show a + (b - a) = b by omega]
theorem ext_all (s : ByteArray) : s.extract 0 s.size = s:=by
 refine byt_inj ?_;rw [byt_sub,List.drop_zero,Nat.sub_zero,List.take_of_length_le (by rw [byt_len];exact Nat.le_refl _)]
theorem ext_one (s : ByteArray) (h : s.size ≠ 0) : s.extract 0 1 = strOfNums [Go.IntKind.wrap .u8 (bt s 0)]:=by
 have hb : 0 ≤ bt s 0 ∧ bt s 0 < 256:=bt_rng s 0;have hw : Go.IntKind.wrap .u8 (bt s 0) = bt s 0:=by rw [IntKind.wrap_u8];omega
 refine byt_inj ?_;rw [hw,byt_str _ (by simpa using hb),byt_sub,List.drop_zero];have e : bt s 0 = (((byt s).getD 0 0 : Nat) : Int):=Pu.bt_byt s 0;rw [e];cases hl : byt s with
 | nil=>exact absurd (by rw [← byt_len,hl];rfl) h
 | cons x l=>simp
noncomputable def pageBytes (kind seq tx part count : Int) (text : ByteArray) : ByteArray:=((((strOfNums [Go.IntKind.wrap .u8 kind] ++ strOfNums (varL seq.toNat)) ++ strOfNums (varL tx.toNat)) ++ strOfNums (varL part.toNat)) ++ strOfNums (varL count.toNat)) ++ text
theorem sPageText (kind seq tx part count : Int) (text : ByteArray) (ht : text.size ≤ 1099511627776) : Ev (fun k=>spec_PageText.f k kind seq tx part count text) (if okP kind seq tx part count text = true then sealed (pageBytes kind seq tx part count text) else (⟨#[]⟩,false)):=by
 simp only [spec_PageText.f,sPageOk,Option.bind_some,spec_l06Byte.f]
 by_cases h : okP kind seq tx part count text = true
 ·simp only [if_pos h];have ho:=h;unfold okP at ho;rw [decide_eq_true_eq] at ho;obtain ⟨h1,h2,h3,h4,h5,h6,h7⟩:=ho;have v2:=(varL_len5 (n:=seq.toNat) (by omega)).1;have v3:=(varL_len5 (n:=tx.toNat) (by omega)).1;have v5:=(varL_len5 (n:=part.toNat) (by omega)).1;have v4:=(varL_len5 (n:=count.toNat) (by omega)).1;have sz : ∀ l : List Int,(strOfNums l).size = l.length:=strOf_size;refine Ev.bind (sVar (by omega) (by omega)) (ev_pos (by rw [sz,sz];simp;omega) ?_);refine Ev.bind (sVar (by omega) (by omega)) (ev_pos (by rw [ByteArray.size_append,sz,sz,sz];simp;omega) ?_);refine Ev.bind (sVar (by omega) (by omega)) (ev_pos (by rw [ByteArray.size_append,ByteArray.size_append,sz,sz,sz,sz];simp;omega) ?_);refine Ev.bind (sVar (by omega) (by omega)) (ev_pos (by rw [ByteArray.size_append,ByteArray.size_append,ByteArray.size_append,sz,sz,sz,sz,sz];simp;omega) (ev_pos (by rw [ByteArray.size_append,ByteArray.size_append,ByteArray.size_append,ByteArray.size_append,sz,sz,sz,sz,sz];simp;omega) ?_));refine Ev.bind (sSealed _ (by rw [ByteArray.size_append,ByteArray.size_append,ByteArray.size_append,ByteArray.size_append,ByteArray.size_append,sz,sz,sz,sz,sz];simp;omega)) (Ev.now _)
 simp only [if_neg h];exact Ev.now _
noncomputable def l06V (s : ByteArray) (a : Int) (b : Bool) : Int × ByteArray × Int × Bool:=if b = true then (0,s,a,true) else if (rvB s a).2.2 = true then ((rvB s a).1,s,(rvB s a).2.1,b) else (0,s,a,true)
theorem s06 (s : ByteArray) (a : Int) (b : Bool) (hs : s.size ≤ 1099511627776) : Ev (fun k=>spec_l06Var.f k s a b) (l06V s a b):=by
 simp only [spec_l06Var.f];refine Ev.bind (sRV s a hs) ?_;unfold l06V
 by_cases h1 : b = true
 ·simp only [if_pos h1];exact Ev.now _
 by_cases h2 : (rvB s a).2.2 = true
 ·simp only [if_neg h1,if_pos h2];exact Ev.now _
 simp only [if_neg h1,if_neg h2];exact Ev.now _
theorem bad06 (s : ByteArray) (a : Int) : l06V s a true = (0,s,a,true):=by unfold l06V;rw [if_pos rfl]
theorem no06 {s : ByteArray} {a : Int} (h : (rvB s a).2.2 ≠ true) : l06V s a false = (0,s,a,true):=by
 unfold l06V;rw [if_neg (by simp),if_neg h]
theorem ok06 {s : ByteArray} {a : Int} (h : (rvB s a).2.2 = true) : l06V s a false = ((rvB s a).1,s,(rvB s a).2.1,false):=by
 unfold l06V;rw [if_neg (by simp),if_pos h]
theorem page_back {s : ByteArray} (h0 : s.size ≠ 0) (q1 : (rvB s 1).2.2 = true) (q2 : (rvB s (rvB s 1).2.1).2.2 = true) (q3 : (rvB s (rvB s (rvB s 1).2.1).2.1).2.2 = true) (q4 : (rvB s (rvB s (rvB s (rvB s 1).2.1).2.1).2.1).2.2 = true) :
  pageBytes (bt s 0) (rvB s 1).1 (rvB s (rvB s 1).2.1).1 (rvB s (rvB s (rvB s 1).2.1).2.1).1 (rvB s (rvB s (rvB s (rvB s 1).2.1).2.1).2.1).1 (s.extract (rvB s (rvB s (rvB s (rvB s 1).2.1).2.1).2.1).2.1.toNat s.size) = s:=by
 rcases rv_cases s 1 with h | ⟨i1,M1,j1,a1,e1,b1,c1,d1,f1⟩
 ·rw [h] at q1;cases q1
 rw [e1] at q2 q3 q4 ⊢;rcases rv_cases s ((i1 + j1 : Nat) : Int) with h | ⟨i2,M2,j2,a2,e2,b2,c2,d2,f2⟩
 ·rw [h] at q2;cases q2
 rw [e2] at q3 q4 ⊢;rcases rv_cases s ((i2 + j2 : Nat) : Int) with h | ⟨i3,M3,j3,a3,e3,b3,c3,d3,f3⟩
 ·rw [h] at q3;cases q3
 rw [e3] at q4 ⊢;rcases rv_cases s ((i3 + j3 : Nat) : Int) with h | ⟨i4,M4,j4,a4,e4,b4,c4,d4,f4⟩
 ·rw [h] at q4;cases q4
 rw [e4];have k1 : i1 = 1:=by omega
 have k2 : i2 = i1 + j1:=by omega
 have k3 : i3 = i2 + j2:=by omega
 have k4 : i4 = i3 + j3:=by omega
 simp only [Int.toNat_natCast];unfold pageBytes;simp only [Int.toNat_natCast];rw [← f1,← f2,← f3,← f4,← ext_one s h0,k1,ext_app s (by omega) (by omega),k2,k1,ext_app s (by omega) (by omega),k3,k2,k1,ext_app s (by omega) (by omega),k4,k3,k2,k1,ext_app s (by omega) (by omega),ext_app s (by omega) (by omega),ext_all]
theorem sReadPage (t : ByteArray) (hs : t.size ≤ 1099511627776) : Ev (fun k=>spec_ReadPage.f k t) (pageT t):=by
 simp only [spec_ReadPage.f];refine Ev.bind (sUnsealed t (by omega)) ?_;have hz:=unsealed_size t;have hz2 : (unsealed t).1.size ≤ 1099511627776:=by omega
 unfold pageT
 by_cases h1 : (unsealed t).2 = true
 ·simp only [if_pos h1]
  by_cases h2 : (unsealed t).1.size = 0
  ·rw [if_neg (fun h=>h.2 h2)];refine Ev.bind (s06 _ _ _ hz2) ?_;rw [show decide (((unsealed t).1.size : Int) < 1) = true by rw [h2];rfl,bad06];refine Ev.bind (s06 _ _ _ hz2) ?_;rw [bad06];refine Ev.bind (s06 _ _ _ hz2) ?_;rw [bad06];refine Ev.bind (s06 _ _ _ hz2) ?_;rw [bad06];exact Ev.now _
  rw [if_pos ⟨h1,h2⟩]
  have hq : sealT (unsealed t).1 = t:=by
   unfold unsealed at h1 ⊢
   split
   ·rename_i h;exact h.2.2
   rename_i h;rw [if_neg h] at h1;cases h1
  generalize (unsealed t).1 = s at *;have hb : 0 ≤ bt s 0 ∧ bt s 0 < 256:=bt_rng s 0;have eb : M2.w64 (bt s 0) = bt s 0:=x64 (by omega) (by omega);simp only [eb];refine Ev.bind (s06 _ _ _ hz2) ?_;rw [show decide ((s.size : Int) < 1) = false by rw [decide_eq_false];omega];unfold pageIn
  by_cases q1 : (rvB s 1).2.2 = true
  ·rw [ok06 q1,if_pos q1];refine Ev.bind (s06 _ _ _ hz2) ?_
   by_cases q2 : (rvB s (rvB s 1).2.1).2.2 = true
   ·rw [ok06 q2,if_pos q2];refine Ev.bind (s06 _ _ _ hz2) ?_
    by_cases q3 : (rvB s (rvB s (rvB s 1).2.1).2.1).2.2 = true
    ·rw [ok06 q3,if_pos q3];refine Ev.bind (s06 _ _ _ hz2) ?_
     by_cases q4 : (rvB s (rvB s (rvB s (rvB s 1).2.1).2.1).2.1).2.2 = true
     ·rw [ok06 q4,if_pos q4];have pb:=page_back h2 q1 q2 q3 q4;have p1:=(rv_le q4).1;have p2:=(rv_le q4).2;generalize (rvB s (rvB s (rvB s (rvB s 1).2.1).2.1).2.1).1 = E at *;generalize (rvB s (rvB s (rvB s (rvB s 1).2.1).2.1).2.1).2.1 = p at *;generalize (rvB s (rvB s (rvB s 1).2.1).2.1).1 = C at *;generalize (rvB s (rvB s 1).2.1).1 = B at *;generalize (rvB s 1).1 = A at *;simp only [Bool.false_eq_true,if_false,if_pos (show (0 : Int) < (s.size : Int) by omega),if_pos p1,if_pos p2];refine Ev.bind (sPageText _ _ _ _ _ _ (by rw [ByteArray.size_extract];omega)) ?_
      by_cases ho : okP (bt s 0) A B C E (s.extract p.toNat s.size) = true
      ·rw [if_pos ho,if_pos ho,pb,sealed,if_pos hz.1];simp only [if_true,if_pos (show M2.seq (sealT s) t = true by rw [seq_iff];exact hq)];exact Ev.now _
      rw [if_neg ho,if_neg ho];exact Ev.now _
     rw [no06 q4,if_neg q4];exact Ev.now _
    rw [no06 q3,if_neg q3];refine Ev.bind (s06 _ _ _ hz2) ?_;rw [bad06];exact Ev.now _
   rw [no06 q2,if_neg q2];refine Ev.bind (s06 _ _ _ hz2) ?_;rw [bad06];refine Ev.bind (s06 _ _ _ hz2) ?_;rw [bad06];exact Ev.now _
  rw [no06 q1,if_neg q1];refine Ev.bind (s06 _ _ _ hz2) ?_;rw [bad06];refine Ev.bind (s06 _ _ _ hz2) ?_;rw [bad06];refine Ev.bind (s06 _ _ _ hz2) ?_;rw [bad06];exact Ev.now _
 rw [if_neg (fun h=>h1 h.1)];simp only [if_neg h1];refine Ev.bind (s06 _ _ _ hz2) ?_;rw [bad06];refine Ev.bind (s06 _ _ _ hz2) ?_;rw [bad06];refine Ev.bind (s06 _ _ _ hz2) ?_;rw [bad06];refine Ev.bind (s06 _ _ _ hz2) ?_;rw [bad06];exact Ev.now _
end Go.Proofs.YtbbfkodckpfjcaaGreat.M2.Mp

namespace Go.Proofs.YtbbfkodckpfjcaaGreat.Pu
set_option linter.unusedVariables false
set_option linter.unusedSimpArgs false
open Go.RowKit Go.Proofs.YtbbfkodckpfjcaaGreat.PK Go.Proofs.YtbbfkodckpfjcaaGreatW.PrintWords
theorem rdLB_nat (l : List S91) (i : Nat) : rd_T91 l (i : Int) = l.getD i z91:=rfl
theorem rdIB_nat (l : List S68) (i : Nat) : rd_T68 l (i : Int) = l.getD i z68:=rfl
theorem rdLL_nat (l : List S139) (i : Nat) : rd_T139 l (i : Int) = l.getD i z139:=rfl
def toLf (x : S139) : S96:=⟨x.f0,x.f1⟩
def toBk (x : S91) : S68:=⟨x.f0,x.f1,x.f2.map toLf⟩
def toFl (l : List S91) : List S68:=l.map toBk
theorem toLeafS_ev (l : List S139) (h : l.length ≤ 1048576) : Ev (fun k=>laws_toLeafS.f k l) (l.map toLf):=by
 have h1:=ev_fill_all (E:=fun _ i=>(laws_toLeaf.f (rd_T139 l i).f0 (rd_T139 l i).f1).bind fun bt=>some (⟨bt.1,bt.2⟩ : S96)) (l:=l) (z:=z139) (g:=toLf) (xs:=List.replicate l.length z96) (L:=fun k xs i=>laws_toLeafS.l0 k l xs i) (by omega) (fun k xs i=>by
  simp only [laws_toLeafS.l0,Option.bind_assoc,Option.bind_some]) (fun i hi=>by rw [rdLL_nat];exact Ev.now _) (by simp)
 refine ev_ext (fun k=>?_) h1;unfold laws_toLeafS.f;rw [if_pos (by omega),if_pos (by simp;omega)];simp
theorem toBlock_ev (b : Bool) (n : Int) (l : List S139) (h : l.length ≤ 1048576) : Ev (fun k=>laws_toBlock.f k b n l) (b,n,l.map toLf):=by
 unfold laws_toBlock.f;exact ev_bind (toLeafS_ev l h) (Ev.now _)
theorem toFlash_ev (l : List S91) (h : l.length ≤ 1048576) (hk : ∀ x ∈ l,x.f2.length ≤ 1048576) : Ev (fun k=>laws_toFlash.f k l) (toFl l):=by
 have h1:=ev_fill_all (E:=fun k i=>(laws_toBlock.f k (rd_T91 l i).f0 (rd_T91 l i).f1 (rd_T91 l i).f2).bind fun bt=>some (⟨bt.1,bt.2.1,bt.2.2⟩ : S68)) (l:=l) (z:=z91) (g:=toBk) (xs:=List.replicate l.length z68) (L:=fun k xs i=>laws_toBlockS.l0 k l xs i) (by omega) (fun k xs i=>by
  simp only [laws_toBlockS.l0,Option.bind_assoc,Option.bind_some]) (fun i hi=>by
   rw [rdLB_nat]
   exact ev_bind (toBlock_ev _ _ _ (hk _ (getD_mem' hi))) (Ev.now _)) (by simp)
 unfold laws_toFlash.f;refine ev_bind (ev_ext (fun k=>?_) h1) (Ev.now _);unfold laws_toBlockS.f;rw [if_pos (by omega),if_pos (by simp;omega)];simp
theorem eqLeafS_ev (l : List S96) (hn : l.length ≤ 1048576) : Ev (fun k=>laws_eqLeafS.f k l l) true:=by
 have h1:=ev_all (n:=l.length) (m:=l.length) (L:=fun k i=>laws_eqLeafS.l0 k l l i) (E:=fun _ i=>laws_eqLeaf.f (rd_T96 l i).f0 (rd_T96 l i).f1 (rd_T96 l i).f0 (rd_T96 l i).f1) (by omega) (Nat.le_refl _) (fun k i=>by simp only [laws_eqLeafS.l0])
  (fun i _=>ev_const (by simp [laws_eqLeaf.f])) l.length 0 (by omega)
 refine ev_ext (fun k=>?_) h1;unfold laws_eqLeafS.f;rw [if_pos rfl];rfl
theorem eqFlash_ev (l : List S68) (hn : l.length ≤ 1048576) (hk : ∀ x ∈ l,x.f2.length ≤ 1048576) : Ev (fun k=>laws_eqFlash.f k l l) true:=by
 have h1:=ev_all (n:=l.length) (m:=l.length) (L:=fun k i=>laws_eqBlockS.l0 k l l i) (E:=fun k i=>laws_eqBlock.f k (rd_T68 l i).f0 (rd_T68 l i).f1 (rd_T68 l i).f2 (rd_T68 l i).f0 (rd_T68 l i).f1 (rd_T68 l i).f2) (by omega) (Nat.le_refl _) (fun k i=>by simp only [laws_eqBlockS.l0])
  (fun i hi=>by
   rw [rdIB_nat];unfold laws_eqBlock.f;simp only [bne_self_eq_false,Bool.false_eq_true,if_false,if_true]
   exact ev_bind (eqLeafS_ev _ (hk _ (getD_mem' hi))) (by simp only [if_true];exact Ev.now _)) l.length 0 (by omega)
 unfold laws_eqFlash.f;refine ev_bind (ev_ext (fun k=>?_) h1) (by simp only [if_true];exact Ev.now _);unfold laws_eqBlockS.f;rw [if_pos rfl];rfl
theorem szLeafS_ev (l : List S139) (a : Int) (h0 : 0 ≤ a) (h1 : a ≤ 1048576) (hn : l.length ≤ 9223372036854775807) (hk : ∀ x ∈ l,x.f1.size ≤ 9223372036854775807) :
  ∃ r,Ev (fun k=>laws_szLeafS.f k l a) r ∧ r ≤ a ∧ (0 ≤ r → (l.length : Int) ≤ a ∧ ∀ x ∈ l,(x.f1.size : Int) ≤ 1048576):=by
 by_cases h : a - (l.length : Int) < 0
 ·refine ⟨-1,⟨0,fun k _=>?_⟩,by omega,fun h2=>by omega⟩;show laws_szLeafS.f k l a = _;unfold laws_szLeafS.f;rw [w64 (by omega) (by omega),if_pos h]
 obtain ⟨r,hr,hra,hq⟩:=ev_size (n:=l.length) (L:=fun k a i=>laws_szLeafS.l0 k l a i) (E:=fun _ i a=>laws_szLeaf.f (rd_T139 l i).f0 (rd_T139 l i).f1 a) (P:=fun i=>((l.getD i z139).f1.size : Int) ≤ 1048576) hn (fun k a i=>by simp only [laws_szLeafS.l0])
  (fun i a hi h2 h3=>by
   have hb:=hk _ (getD_mem' (z:=z139) hi);rw [rdLL_nat];unfold laws_szLeaf.f;rw [w64 (by omega) (by omega)]
   by_cases h4 : a - ((l.getD i z139).f1.size : Int) < 0
   ·exact ⟨-1,ev_const (by rw [if_pos h4]),by omega,fun h5=>by omega⟩
   exact ⟨_,ev_const (by rw [if_neg h4]),by omega,fun _=>by omega⟩) l.length 0 (a - (l.length : Int)) (by omega) (by omega) (by omega)
 refine ⟨r,ev_ext (fun k=>?_) hr,by omega,fun h2=>⟨by omega,fun x hx=>?_⟩⟩
 ·unfold laws_szLeafS.f;rw [w64 (by omega) (by omega),if_neg h];rfl
 obtain ⟨i,hi,rfl⟩:=List.getElem_of_mem hx;have:=hq h2 i (by omega) hi
 rwa [List.getD_eq_getElem?_getD,List.getElem?_eq_getElem hi] at this
theorem szFlash_ev (l : List S91) (a : Int) (h0 : 0 ≤ a) (h1 : a ≤ 1048576) (hn : l.length ≤ 9223372036854775807) (hk : ∀ x ∈ l,x.f2.length ≤ 9223372036854775807 ∧ ∀ y ∈ x.f2,y.f1.size ≤ 9223372036854775807) :
  ∃ r,Ev (fun k=>laws_szFlash.f k l a) r ∧ r ≤ a ∧ (0 ≤ r → (l.length : Int) ≤ a ∧ ∀ x ∈ l,(x.f2.length : Int) ≤ 1048576 ∧ ∀ y ∈ x.f2,(y.f1.size : Int) ≤ 1048576):=by
 by_cases h : a - (l.length : Int) < 0
 ·refine ⟨-1,⟨0,fun k _=>?_⟩,by omega,fun h2=>by omega⟩;show laws_szFlash.f k l a = _;unfold laws_szFlash.f laws_szBlockS.f;rw [w64 (by omega) (by omega),if_pos h];rfl
 obtain ⟨r,hr,hra,hq⟩:=ev_size (n:=l.length) (L:=fun k a i=>laws_szBlockS.l0 k l a i) (E:=fun k i a=>laws_szBlock.f k (rd_T91 l i).f0 (rd_T91 l i).f1 (rd_T91 l i).f2 a) (P:=fun i=>((l.getD i z91).f2.length : Int) ≤ 1048576 ∧ ∀ y ∈ (l.getD i z91).f2,(y.f1.size : Int) ≤ 1048576) hn (fun k a i=>by simp only [laws_szBlockS.l0])
  (fun i a hi h2 h3=>by
   have hb:=hk _ (getD_mem' (z:=z91) hi);rw [rdLB_nat];obtain ⟨t,ht,hta,hp⟩:=szLeafS_ev (l.getD i z91).f2 a h2 h3 hb.1 hb.2;unfold laws_szBlock.f
   by_cases h4 : t < 0
   ·exact ⟨-1,ev_bind ht (by simp only [if_pos h4];exact Ev.now _),by omega,fun h5=>by omega⟩
   exact ⟨t,ev_bind ht (by simp only [if_neg h4];exact Ev.now _),hta,fun h5=>⟨by have:=(hp h5).1;omega,(hp h5).2⟩⟩) l.length 0 (a - (l.length : Int)) (by omega) (by omega) (by omega)
 have hr2 : Ev (fun k=>laws_szBlockS.f k l a) r:=by
  refine ev_ext (fun k=>?_) hr;unfold laws_szBlockS.f;rw [w64 (by omega) (by omega),if_neg h];rfl
 have hp : 0 ≤ r → (l.length : Int) ≤ a ∧ ∀ x ∈ l,(x.f2.length : Int) ≤ 1048576 ∧ ∀ y ∈ x.f2,(y.f1.size : Int) ≤ 1048576:=fun h2=>⟨by omega,fun x hx=>by
  obtain ⟨i,hi,rfl⟩:=List.getElem_of_mem hx;have:=hq h2 i (by omega) hi
  rwa [List.getD_eq_getElem?_getD,List.getElem?_eq_getElem hi] at this⟩
 unfold laws_szFlash.f
 by_cases h4 : r < 0
 ·exact ⟨-1,ev_bind hr2 (by simp only [if_pos h4];exact Ev.now _),by omega,fun h5=>by omega⟩
 exact ⟨r,ev_bind hr2 (by simp only [if_neg h4];exact Ev.now _),by omega,hp⟩
theorem flash_start {l : List S91} (hl : l.length ≤ maxLen) (hx : ∀ x ∈ l,x.f2.length ≤ maxLen ∧ ∀ y ∈ x.f2,y.f1.size ≤ maxLen) :
  ∃ r,Ev (fun k=>laws_szFlash.f k l 1048576) r ∧ (0 ≤ r → Ev (fun k=>laws_toFlash.f k l) (toFl l) ∧ Ev (fun k=>laws_eqFlash.f k (toFl l) (toFl l)) true ∧ (toFl l).length ≤ 1048576 ∧ ∀ x ∈ toFl l,x.f2.length ≤ 1048576 ∧ ∀ y ∈ x.f2,y.f1.size ≤ 1048576):=by
 unfold maxLen at hl hx;obtain ⟨r,hr,_,hq⟩:=szFlash_ev l 1048576 (by omega) (by omega) (by omega) (fun x h=>⟨by have:=(hx x h).1;omega,fun y hy=>by have:=(hx x h).2 y hy;omega⟩);refine ⟨r,hr,fun h0=>?_⟩;obtain ⟨h1,h2⟩:=hq h0;have hlen : (toFl l).length = l.length:=by unfold toFl;exact List.length_map _
 have hm : ∀ x ∈ toFl l,x.f2.length ≤ 1048576 ∧ ∀ y ∈ x.f2,y.f1.size ≤ 1048576:=by
  intro x h;unfold toFl at h;obtain ⟨y,hy,rfl⟩:=List.mem_map.1 h;obtain ⟨a1,a2⟩:=h2 y hy;refine ⟨by show (y.f2.map toLf).length ≤ _;rw [List.length_map];omega,fun z hz=>?_⟩;obtain ⟨q,hq2,rfl⟩:=List.mem_map.1 (show z ∈ y.f2.map toLf from hz);have:=a2 q hq2;show q.f1.size ≤ _;omega
 exact ⟨toFlash_ev l (by omega) (fun x h=>by have:=(h2 x h).1;omega),eqFlash_ev _ (by omega) (fun x h=>(hm x h).1),by omega,hm⟩
end Go.Proofs.YtbbfkodckpfjcaaGreat.Pu

namespace Go.Proofs.YtbbfkodckpfjcaaGreat.M2.Mp
set_option linter.unusedVariables false
set_option linter.unusedSimpArgs false
open Go.RowKit Go.Proofs.YtbbfkodckpfjcaaGreat.PK Go.Proofs.YtbbfkodckpfjcaaGreatW.PrintWords Go.Proofs.YtbbfkodckpfjcaaGreat.Pu Go.Proofs.YtbbfkodckpfjcaaGreat.St
def mkF (b i : Int) (p : PageV) : S75:=⟨b,i,⟨p.1,p.2.1,p.2.2.1,p.2.2.2.1,p.2.2.2.2.1,p.2.2.2.2.2.1⟩⟩
noncomputable def leafF (b i : Int) (x : S96) : List S75:=if (pageT x.f1).2.2.2.2.2.2 = true ∧ x.f0 = 1 then [mkF b i (pageT x.f1)] else []
noncomputable def leavesF (b : Int) : Nat → List S96 → List S75
 | _,[]=>[]
 | i,x :: l=>leafF b (i : Int) x ++ leavesF b (i + 1) l
noncomputable def blocksF : Nat → List S68 → List S75
 | _,[]=>[]
 | b,x :: l=>leavesF (b : Int) 0 x.f2 ++ blocksF (b + 1) l
theorem leafF_len (b i : Int) (x : S96) : (leafF b i x).length ≤ 1:=by unfold leafF;split <;> simp
theorem leavesF_len (b : Int) : ∀ (i : Nat) (l : List S96),(leavesF b i l).length ≤ l.length
 | _,[]=>by simp [leavesF]
 | i,x :: l=>by
  rw [leavesF,List.length_append,List.length_cons];have:=leafF_len b i x;have:=leavesF_len b (i + 1) l;omega
def FlashB (bs : List S68) : Prop:=bs.length ≤ 1048576 ∧ ∀ x ∈ bs,x.f2.length ≤ 1048576 ∧ ∀ y ∈ x.f2,y.f1.size ≤ 1048576
noncomputable def unsorted (bs : List S68) : List S75:=blocksF 0 bs
noncomputable def scanV (bs : List S68) : List S75:=isort ltK75 (unsorted bs)
theorem rdF_nat (l : List S75) (i : Nat) : rd_T75 l (i : Int) = l.getD i z75:=rfl
theorem rdB_nat (l : List S68) (i : Nat) : rd_T68 l (i : Int) = l.getD i z68:=rfl
theorem rdL_nat (l : List S96) (i : Nat) : rd_T96 l (i : Int) = l.getD i z96:=rfl
theorem drop_getD {α : Type} {l : List α} {i : Nat} (z : α) (h : i < l.length) : l.drop i = l.getD i z :: l.drop (i + 1):=by
 rw [List.drop_eq_getElem_cons h,List.getD_eq_getElem?_getD,List.getElem?_eq_getElem h];rfl
theorem sReadLeaf (k : Nat) (bs : List S68) (b i : Nat) (hb : b < bs.length) (hi : i < (bs.getD b z68).f2.length) (h : FlashB bs) :
  spec_ReadLeaf.f k bs (b : Int) (i : Int) = some (if ((bs.getD b z68).f2.getD i z96).f0 = 1 then (((bs.getD b z68).f2.getD i z96).f1,true) else (⟨#[]⟩,false)):=by
 have h1:=h.1;have h2:=(h.2 _ (getD_mem' (z:=z68) hb)).1;simp only [spec_ReadLeaf.f,sIn,Option.bind_some,decide_eq_true_eq,rdB_nat,rdL_nat];have e1 : M2.w64 ((bs.length : Int) - 1) = (bs.length : Int) - 1:=x64 (by omega) (by omega);have e2 : M2.w64 (((bs.getD b z68).f2.length : Int) - 1) = ((bs.getD b z68).f2.length : Int) - 1:=x64 (by omega) (by omega);rw [e1,e2,if_pos (show 0 ≤ (b : Int) ∧ (b : Int) ≤ (bs.length : Int) - 1 by omega)];simp only [if_pos (show 0 ≤ (b : Int) by omega),if_pos (show (b : Int) < (bs.length : Int) by omega),if_pos (show 0 ≤ (i : Int) by omega),if_pos (show (i : Int) < ((bs.getD b z68).f2.length : Int) by omega),if_pos (show 0 ≤ (i : Int) ∧ (i : Int) ≤ ((bs.getD b z68).f2.length : Int) - 1 by omega)]
 split
 ·exact if_pos (by omega)
 rfl
theorem sScan6 (bs : List S68) (h : FlashB bs) (b : Nat) (hb : b < bs.length) : ∀ (d i : Nat) (acc r : List S75),i + d = (bs.getD b z68).f2.length → acc.length ≤ b * 1048576 + i →
  Ev (fun k=>spec_ScanAll.c3 k ((b + 1 : Nat) : Int) bs (acc ++ leavesF (b : Int) i ((bs.getD b z68).f2.drop i))) r → Ev (fun k=>spec_ScanAll.c6 k (b : Int) (i : Int) bs acc) r
 | 0,i,acc,r,hi,hl,hr=>by
  rw [List.drop_eq_nil_of_le (by omega),leavesF,List.append_nil] at hr;refine Ev.step (fun k=>?_) hr;rw [spec_ScanAll.c6,if_pos (by omega),if_pos (by omega),rdB_nat,if_neg (by omega),m64 hb (by have:=h.1;omega)]
 | d + 1,i,acc,r,hi,hl,hr=>by
  have h1:=h.1;have h2:=h.2 _ (getD_mem' (z:=z68) hb);have hil : i < (bs.getD b z68).f2.length:=by omega
  rw [drop_getD z96 hil,leavesF,← List.append_assoc] at hr;have hlf:=leafF_len (b : Int) (i : Int) ((bs.getD b z68).f2.getD i z96);have ih:=sScan6 bs h b hb d (i + 1) _ r (by omega) (by rw [List.length_append];omega) hr;have hts:=h2.2 _ (getD_mem' (z:=z96) hil);refine Ev.step (f:=fun k=>(spec_ReadPage.f k (if ((bs.getD b z68).f2.getD i z96).f0 = 1 then ((bs.getD b z68).f2.getD i z96).f1 else (⟨#[]⟩ : ByteArray))).bind fun t2=>if ((bs.getD b z68).f2.getD i z96).f0 = 1 ∧ t2.2.2.2.2.2.2 = true then spec_ScanAll.c6 k (b : Int) ((i + 1 : Nat) : Int) bs (acc ++ [mkF (b : Int) (i : Int) t2]) else spec_ScanAll.c6 k (b : Int) ((i + 1 : Nat) : Int) bs acc) (fun k=>?_) ?_
  ·rw [spec_ScanAll.c6,if_pos (by omega),if_pos (by omega),rdB_nat,if_pos (by omega),sReadLeaf k bs b i hb hil h,Option.bind_some,m64 hil (by omega)];generalize (bs.getD b z68).f2.getD i z96 = x
   by_cases q : x.f0 = 1
   ·simp only [if_pos q,if_true]
    congr 1;funext t2
    by_cases q2 : t2.2.2.2.2.2.2 = true
    ·rw [if_pos q2,if_pos (by simp;omega),if_pos ⟨q,q2⟩];rfl
    rw [if_neg q2,if_neg (fun hh=>q2 hh.2)]
   simp only [if_neg q]
   congr 1;funext t2
   rw [if_neg (show ¬ ((⟨#[]⟩ : ByteArray),false).2 = true by simp),if_neg (fun hh=>q hh.1)]
  generalize (bs.getD b z68).f2.getD i z96 = x at *
  by_cases q : x.f0 = 1
  ·simp only [if_pos q];refine Ev.bind (sReadPage _ (by omega)) ?_
   by_cases q2 : (pageT x.f1).2.2.2.2.2.2 = true
   ·rw [leafF,if_pos ⟨q2,q⟩] at ih;refine ev_pos ⟨q,q2⟩ ih
   rw [leafF,if_neg (fun hh=>q2 hh.1),List.append_nil] at ih;exact ev_neg (fun hh=>q2 hh.2) ih
  simp only [if_neg q];refine Ev.bind (sReadPage _ (by rw [show (⟨#[]⟩ : ByteArray).size = 0 from rfl];omega)) ?_;rw [leafF,if_neg (fun hh=>q hh.2),List.append_nil] at ih;exact ev_neg (fun hh=>q hh.1) ih
theorem sScan3 (bs : List S68) (h : FlashB bs) : ∀ (d b : Nat) (acc r : List S75),b + d = bs.length → acc.length ≤ b * 1048576 → Ev (fun k=>spec_ScanAll.c13 k 1 (acc ++ blocksF b (bs.drop b))) r → Ev (fun k=>spec_ScanAll.c3 k (b : Int) bs acc) r
 | 0,b,acc,r,hb,hl,hr=>by
  rw [List.drop_eq_nil_of_le (by omega),blocksF,List.append_nil] at hr;refine Ev.step (fun k=>?_) hr;rw [spec_ScanAll.c3,if_neg (by omega)]
 | d + 1,b,acc,r,hb,hl,hr=>by
  have hbl : b < bs.length:=by omega
  have h2:=h.2 _ (getD_mem' (z:=z68) hbl);rw [drop_getD z68 hbl,blocksF,← List.append_assoc] at hr;have hlv:=leavesF_len (b : Int) 0 (bs.getD b z68).f2
  refine Ev.step (fun k=>?_) (sScan6 bs h b hbl _ 0 acc r (Nat.zero_add _) (by rw [Nat.add_zero];exact hl) (by
   rw [List.drop_zero]
   exact sScan3 bs h d (b + 1) _ r (by omega) (by rw [List.length_append];omega) hr))
  rw [spec_ScanAll.c3,if_pos (by omega)];rfl
theorem getD_app {α : Type} (A B : List α) (x z : α) : (A ++ x :: B).getD A.length z = x:=by simp [List.getD]
theorem sSort16 (i : Nat) (hi : i ≤ 9223372036854775800) : ∀ (L Q : List S75) (x : S75) (r : List S75),L.length ≤ i → L.length + 1 + Q.length ≤ 9223372036854775800 → Ev (fun k=>spec_ScanAll.c13 k ((i + 1 : Nat) : Int) ((insR ltK75 x L).reverse ++ Q)) r → Ev (fun k=>spec_ScanAll.c16 k (i : Int) (L.length : Int) (L.reverse ++ x :: Q)) r
 | [],Q,x,r,hL,hQ,hr=>by
  refine Ev.step (fun k=>?_) hr;rw [spec_ScanAll.c16,if_neg (by simp),m64 (n:=i + 1) (by omega) (by omega)];rfl
 | e :: L,Q,x,r,hL,hQ,hr=>by
  rw [List.length_cons] at hL hQ;have ej : M2.w64 (((e :: L).length : Int) - 1) = (L.length : Int):=by rw [List.length_cons,x64 (by omega) (by omega)];omega
  have r1 : rd_T75 ((e :: L).reverse ++ x :: Q) (L.length : Int) = e:=by
   rw [rdF_nat,List.reverse_cons,List.append_assoc,show L.length = L.reverse.length by simp];exact getD_app _ _ _ _
  have r2 : rd_T75 ((e :: L).reverse ++ x :: Q) ((e :: L).length : Int) = x:=by
   rw [rdF_nat,show (e :: L).length = (e :: L).reverse.length by simp];exact getD_app _ _ _ _
  have hlen : (((e :: L).reverse ++ x :: Q).length : Int) = ((L.length + 2 + Q.length : Nat) : Int):=by simp;omega
  by_cases hlt : e.f2.f1 > x.f2.f1
  ·have hk : ltK75 x e = true:=by unfold ltK75;exact decide_eq_true hlt
   rw [insR,if_pos hk,List.reverse_cons,List.append_assoc] at hr;refine Ev.step (fun k=>?_) (sSort16 i hi L (e :: Q) x r (by omega) (by rw [List.length_cons];omega) hr);rw [spec_ScanAll.c16,if_pos (by rw [List.length_cons];omega)];simp only [ej,r1,r2,hlen,List.length_set,if_pos (show (0 : Int) ≤ (L.length : Int) by omega),if_pos (show (L.length : Int) < ((L.length + 2 + Q.length : Nat) : Int) by omega),if_pos (show (0 : Int) ≤ ((e :: L).length : Int) by omega),if_pos (show ((e :: L).length : Int) < ((L.length + 2 + Q.length : Nat) : Int) by rw [List.length_cons];omega),if_pos hlt,Int.toNat_natCast]
   congr 1
   rw [List.reverse_cons,List.append_assoc,List.set_append_right _ _ (by simp),List.length_cons,List.length_reverse,show L.length + 1 - L.length = 1 by omega,List.set_append_right _ _ (by simp),List.length_reverse,Nat.sub_self];rfl
  have hk : ¬ ltK75 x e = true:=by unfold ltK75;simpa using hlt
  rw [insR,if_neg hk] at hr;refine Ev.step (fun k=>?_) (show Ev (fun k=>spec_ScanAll.c13 k ((i + 1 : Nat) : Int) ((e :: L).reverse ++ x :: Q)) r by simpa using hr);rw [spec_ScanAll.c16,if_pos (by rw [List.length_cons];omega)];simp only [ej,r1,r2,hlen,if_pos (show (0 : Int) ≤ (L.length : Int) by omega),if_pos (show (L.length : Int) < ((L.length + 2 + Q.length : Nat) : Int) by omega),if_pos (show (0 : Int) ≤ ((e :: L).length : Int) by omega),if_pos (show ((e :: L).length : Int) < ((L.length + 2 + Q.length : Nat) : Int) by rw [List.length_cons];omega),if_neg hlt,m64 (n:=i + 1) (show i < i + 1 by omega) (by omega)]
theorem sSort13 : ∀ (R M : List S75) (i : Nat),M.length = i → i + R.length ≤ 1099511627776 → Ev (fun k=>spec_ScanAll.c13 k (i : Int) (M ++ R)) (mrg ltK75 M R)
 | [],M,i,hM,hs=>by
  refine Ev.step (f:=fun _=>some M) (fun k=>?_) (Ev.now _);rw [spec_ScanAll.c13,if_neg (by simp;omega),List.append_nil]
 | x :: R,M,i,hM,hs=>by
  rw [List.length_cons] at hs;have ih:=sSort13 R (ins ltK75 x M) (i + 1) (by rw [len_ins];omega) (by omega);have:=sSort16 i (by omega) M.reverse R x _ (by simp;omega) (by rw [List.length_reverse];omega) ih;rw [List.reverse_reverse,List.length_reverse,hM] at this;refine Ev.step (fun k=>?_) this;rw [spec_ScanAll.c13,if_pos (by simp;omega)]
theorem sSort (l : List S75) (h : l.length ≤ 1099511627776) : Ev (fun k=>spec_ScanAll.c13 k 1 l) (isort ltK75 l):=by
 cases l with
 | nil =>
  refine Ev.step (f:=fun _=>some []) (fun k=>?_) (Ev.now _);rw [spec_ScanAll.c13,if_neg (by simp)]
 | cons x l=>exact sSort13 l [x] 1 rfl (by rw [List.length_cons] at h;omega)
theorem blocksF_len : ∀ (l : List S68) (b : Nat),(∀ x ∈ l,x.f2.length ≤ 1048576) → (blocksF b l).length ≤ l.length * 1048576
 | [],_,_=>by simp [blocksF]
 | x :: l,b,h=>by
  rw [blocksF,List.length_append,List.length_cons];have:=leavesF_len (b : Int) 0 x.f2;have:=blocksF_len l (b + 1) (fun y hy=>h y (by simp [hy]));have:=h x (by simp);omega
theorem unsorted_len {bs : List S68} (h : FlashB bs) : (unsorted bs).length ≤ 1099511627776:=by
 have:=blocksF_len bs 0 (fun x hx=>(h.2 x hx).1);have:=h.1;unfold unsorted;omega
theorem sScanAll (bs : List S68) (h : FlashB bs) : Ev (fun k=>spec_ScanAll.f k bs) (scanV bs):=by
 simp only [spec_ScanAll.f];refine sScan3 bs h _ 0 [] _ (Nat.zero_add _) (by simp) ?_;rw [List.drop_zero,List.nil_append];exact sSort _ (unsorted_len h)
theorem lsort_isort (l : List S75) : lsort75 l = isort ltK75 l:=by
 unfold lsort75;have:=insertionSort_list (lt:=ltK75) (d:=l.toArray) (A:=[]) (M:=l) (Q:=[]) (a:=0) (b:=l.length) (by simp) rfl (by simp);rw [this];simp
theorem iScan6 (bs : List S68) (h : FlashB bs) (b : Nat) (hb : b < bs.length) : ∀ (d i : Nat) (acc r : List S75),i + d = (bs.getD b z68).f2.length → acc.length ≤ b * 1048576 + i →
  Ev (fun k=>impl_ScanAll.c3 k bs (bs.length : Int) ((b + 1 : Nat) : Int) (acc ++ leavesF (b : Int) i ((bs.getD b z68).f2.drop i))) r → Ev (fun k=>impl_ScanAll.c6 k (b : Int) bs (bs.length : Int) (b : Int) (bs.getD b z68).f2 ((bs.getD b z68).f2.length : Int) (i : Int) acc) r
 | 0,i,acc,r,hi,hl,hr=>by
  rw [List.drop_eq_nil_of_le (by omega),leavesF,List.append_nil] at hr;refine Ev.step (fun k=>?_) hr;rw [impl_ScanAll.c6,if_neg (by omega),m64 hb (by have:=h.1;omega)]
 | d + 1,i,acc,r,hi,hl,hr=>by
  have h1:=h.1;have h2:=h.2 _ (getD_mem' (z:=z68) hb);have hil : i < (bs.getD b z68).f2.length:=by omega
  rw [drop_getD z96 hil,leavesF,← List.append_assoc] at hr;have hlf:=leafF_len (b : Int) (i : Int) ((bs.getD b z68).f2.getD i z96);have ih:=iScan6 bs h b hb d (i + 1) _ r (by omega) (by rw [List.length_append];omega) hr;have hts:=h2.2 _ (getD_mem' (z:=z96) hil);generalize (bs.getD b z68).f2 = lv at *;refine Ev.step (f:=fun k=>(impl_ReadPage.f k (lv.getD i z96).f1).bind fun t2=>if t2.2.2.2.2.2.2 = true ∧ (lv.getD i z96).f0 = 1 then impl_ScanAll.c6 k (b : Int) bs (bs.length : Int) (b : Int) lv (lv.length : Int) ((i + 1 : Nat) : Int) (acc ++ [mkF (b : Int) (i : Int) t2]) else impl_ScanAll.c6 k (b : Int) bs (bs.length : Int) (b : Int) lv (lv.length : Int) ((i + 1 : Nat) : Int) acc) (fun k=>?_) ?_
  ·rw [impl_ScanAll.c6,if_pos (by omega),if_pos (by omega),if_pos (by omega),rdL_nat,m64 hil (by omega)]
   congr 1;funext t2
   by_cases q2 : t2.2.2.2.2.2.2 = true
   ·by_cases q : (lv.getD i z96).f0 = 1
    ·rw [if_pos q2,if_pos q,if_pos (by simp;omega),if_pos ⟨q2,q⟩];rfl
    rw [if_pos q2,if_neg q,if_neg (fun hh=>q hh.2)]
   rw [if_neg q2,if_neg (fun hh=>q2 hh.1)]
  generalize lv.getD i z96 = x at *;refine Ev.bind (iReadPage _ (by omega)) ?_
  by_cases q : (pageT x.f1).2.2.2.2.2.2 = true ∧ x.f0 = 1
  ·rw [leafF,if_pos q] at ih;exact ev_pos q ih
  rw [leafF,if_neg q,List.append_nil] at ih;exact ev_neg q ih
theorem iScan3 (bs : List S68) (h : FlashB bs) : ∀ (d b : Nat) (acc : List S75),b + d = bs.length → acc.length ≤ b * 1048576 → Ev (fun k=>impl_ScanAll.c3 k bs (bs.length : Int) (b : Int) acc) (isort ltK75 (acc ++ blocksF b (bs.drop b)))
 | 0,b,acc,hb,hl=>by
  have h1:=h.1;rw [List.drop_eq_nil_of_le (by omega),blocksF,List.append_nil];refine Ev.step (f:=fun _=>some _) (fun k=>?_) (Ev.now _);rw [impl_ScanAll.c3,if_neg (by omega),if_pos (by omega),lsort_isort]
 | d + 1,b,acc,hb,hl=>by
  have hbl : b < bs.length:=by omega
  have h2:=h.2 _ (getD_mem' (z:=z68) hbl);rw [drop_getD z68 hbl,blocksF,← List.append_assoc];have hlv:=leavesF_len (b : Int) 0 (bs.getD b z68).f2
  refine Ev.step (fun k=>?_) (iScan6 bs h b hbl _ 0 acc _ (Nat.zero_add _) (by rw [Nat.add_zero];exact hl) (by
   rw [List.drop_zero]
   exact iScan3 bs h d (b + 1) _ (by omega) (by rw [List.length_append];omega)))
  rw [impl_ScanAll.c3,if_pos (by omega),if_pos (by omega),if_pos (by omega),rdB_nat];rfl
theorem iScanAll (bs : List S68) (h : FlashB bs) : Ev (fun k=>impl_ScanAll.f k bs) (scanV bs):=by
 simp only [impl_ScanAll.f];have:=iScan3 bs h _ 0 [] (Nat.zero_add _) (by simp);rw [List.drop_zero,List.nil_append] at this;exact this
theorem scan_len {bs : List S68} (h : FlashB bs) : (scanV bs).length ≤ 1099511627776:=by
 unfold scanV;rw [len_isort];exact unsorted_len h
end Go.Proofs.YtbbfkodckpfjcaaGreat.M2.Mp

namespace Go.Proofs.YtbbfkodckpfjcaaGreat.M2.Mp
set_option linter.unusedVariables false
set_option linter.unusedSimpArgs false
open Go.RowKit Go.Proofs.YtbbfkodckpfjcaaGreat.PK Go.Proofs.YtbbfkodckpfjcaaGreatW.PrintWords Go.Proofs.YtbbfkodckpfjcaaGreat.Pu Go.Proofs.YtbbfkodckpfjcaaGreat.St
def chk (c : Int) (x : S75) : Bool:=decide (x.f2.f0 = 1) && decide (x.f2.f2 = c)
theorem chk_iff {c : Int} {x : S75} : chk c x = true ↔ x.f2.f0 = 1 ∧ x.f2.f2 = c:=by simp [chk]
def lastM (c : Int) : Option S75 → List S75 → Option S75
 | o,[]=>o
 | o,x :: l=>lastM c (if chk c x = true then some x else o) l
theorem lastM_snoc (c : Int) (x : S75) : ∀ (l : List S75) (o : Option S75),lastM c o (l ++ [x]) = if chk c x = true then some x else lastM c o l
 | [],o=>rfl
 | y :: l,o=>by rw [List.cons_append,lastM,lastM_snoc c x l,lastM]
abbrev NewV:=Int × Int × Int × Int × Int × Int × Int × ByteArray × Bool
def bz (o : Option S75) : S75:=o.getD z75
def nwV (o : Option S75) : NewV:=((bz o).f0,(bz o).f1,(bz o).f2.f0,(bz o).f2.f1,(bz o).f2.f2,(bz o).f2.f3,(bz o).f2.f4,(bz o).f2.f5,o.isSome)
theorem take_nextD {α : Type} {l : List α} {n : Nat} (z : α) (h : n < l.length) : l.take (n + 1) = l.take n ++ [l.getD n z]:=by
 rw [List.take_add_one,List.getElem?_eq_getElem h,List.getD_eq_getElem?_getD,List.getElem?_eq_getElem h];rfl
theorem sNewest2 (l : List S75) (c : Int) (hl : l.length ≤ 1099511627776) : ∀ n : Nat,n ≤ l.length → Ev (fun k=>spec_l13Newest.c2 k l c ((n : Int) - 1) 0 0 0 0 0 0 0 (⟨#[]⟩ : ByteArray)) (nwV (lastM c none (l.take n)))
 | 0,_=>by
  refine Ev.step (f:=fun _=>some _) (fun k=>?_) (Ev.now _);rw [spec_l13Newest.c2,if_neg (by omega)];rfl
 | n + 1,h=>by
  have ih:=sNewest2 l c hl n (by omega);have e : (((n + 1 : Nat) : Int) - 1) = (n : Int):=by omega
  have e2 : M2.w64 ((n : Int) - 1) = (n : Int) - 1:=x64 (by omega) (by omega);rw [take_nextD z75 (by omega),lastM_snoc,e]
  by_cases q1 : (l.getD n z75).f2.f0 = 1
  ·by_cases q2 : (l.getD n z75).f2.f2 = c
   ·rw [if_pos (chk_iff.2 ⟨q1,q2⟩)];refine Ev.step (f:=fun _=>some _) (fun k=>?_) (Ev.now _);rw [spec_l13Newest.c2,if_pos (by omega),if_pos (by omega),if_pos (by omega),rdF_nat,if_pos q1,if_pos (by omega),if_pos (by omega),if_pos q2,if_pos (by omega),if_pos (by omega)];rfl
   rw [if_neg (fun hh=>q2 (chk_iff.1 hh).2)];refine Ev.step (fun k=>?_) ih;rw [spec_l13Newest.c2,if_pos (by omega),if_pos (by omega),if_pos (by omega),rdF_nat,if_pos q1,if_pos (by omega),if_pos (by omega),if_neg q2,e2]
  rw [if_neg (fun hh=>q1 (chk_iff.1 hh).1)];refine Ev.step (fun k=>?_) ih;rw [spec_l13Newest.c2,if_pos (by omega),if_pos (by omega),if_pos (by omega),rdF_nat,if_neg q1,e2]
theorem sNewest (l : List S75) (c : Int) (hl : l.length ≤ 1099511627776) : Ev (fun k=>spec_l13Newest.f k l c) (nwV (lastM c none l)):=by
 simp only [spec_l13Newest.f];have:=sNewest2 l c hl l.length (Nat.le_refl _);rw [List.take_length] at this;rw [x64 (by omega) (by omega)];exact this
theorem iData4 (l : List S75) (c : Int) (hl : l.length ≤ 1099511627776) (hA : Asc ltK75 l) : ∀ (d i : Nat) (o : Option S75),i + d = l.length → (∀ x,o = some x → ∀ y ∈ l.drop i,x.f2.f1 ≤ y.f2.f1) →
  Ev (fun k=>impl_dataOf.c4 k c o.isSome (l.length : Int) (i : Int) 0 0 0 0 0 0 0 (⟨#[]⟩ : ByteArray) (bz o).f0 (bz o).f1 (bz o).f2.f0 (bz o).f2.f1 (bz o).f2.f2 (bz o).f2.f3 (bz o).f2.f4 (bz o).f2.f5 l) (nwV (lastM c o (l.drop i)))
 | 0,i,o,hi,_=>by
  rw [List.drop_eq_nil_of_le (by omega),lastM];refine Ev.step (f:=fun _=>some _) (fun k=>?_) (Ev.now _);rw [impl_dataOf.c4,if_neg (by omega)];rfl
 | d + 1,i,o,hi,ho=>by
  have hil : i < l.length:=by omega
  have hd:=drop_getD z75 hil
  have hA2 : Asc ltK75 (l.drop i):=by
   have:=hA;rw [← List.take_append_drop i l] at this;exact this.right
  rw [hd] at ho hA2 ⊢;rw [lastM];generalize hx : l.getD i z75 = x at *
  have hA3 : ∀ y ∈ l.drop (i + 1),x.f2.f1 ≤ y.f2.f1:=fun y hy=>by
   have:=Asc.cross (X:=[x]) (Y:=l.drop (i + 1)) hA2 y hy x (by simp);unfold ltK75 at this;have:=of_decide_eq_false this;omega
  by_cases q : chk c x = true
  ·have q12:=chk_iff.1 q;rw [if_pos q];have ih:=iData4 l c hl hA d (i + 1) (some x) (by omega) (fun z hz=>by cases hz;exact hA3);refine Ev.step (fun k=>?_) ih;rw [impl_dataOf.c4,if_pos (by omega),if_pos (by omega),if_pos (by omega),rdF_nat,hx,if_pos q12.1,if_pos q12.2,m64 hil (by omega)];cases o with
   | none=>rw [if_neg (by simp)];rfl
   | some z=>rw [if_pos (show (some z).isSome = true from rfl),if_pos (show x.f2.f1 ≥ (bz (some z)).f2.f1 from ho z rfl x (by simp))];rfl
  rw [if_neg q];have ih:=iData4 l c hl hA d (i + 1) o (by omega) (fun z hz y hy=>ho z hz y (by simp [hy]));refine Ev.step (fun k=>?_) ih;rw [impl_dataOf.c4,if_pos (by omega),if_pos (by omega),if_pos (by omega),rdF_nat,hx,m64 hil (by omega)]
  by_cases q1 : x.f2.f0 = 1
  ·rw [if_pos q1,if_neg (fun q2=>q (chk_iff.2 ⟨q1,q2⟩))]
  rw [if_neg q1]
theorem ltK_swo : Go.Sort.SWO ltK75 where
 irrefl:=fun x=>by simp [ltK75]
 trans:=fun x y z h1 h2=>by simp [ltK75] at *;omega
 ntrans:=fun x y z h1 h2=>by simp [ltK75] at *;omega
noncomputable def dataV (bs : List S68) (c : Int) : Option S75:=lastM c none (scanV bs)
theorem iDataOf (bs : List S68) (c : Int) (h : FlashB bs) : Ev (fun k=>impl_dataOf.f k bs c) (nwV (dataV bs c)):=by
 simp only [impl_dataOf.f];refine Ev.bind (iScanAll bs h) ?_;exact iData4 (scanV bs) c (scan_len h) (asc_isort ltK_swo _) _ 0 none (Nat.zero_add _) (fun x hx=>by cases hx)
theorem flashX {l : List S91} (hl : l.length ≤ maxLen) (hx : ∀ x ∈ l,x.f2.length ≤ maxLen ∧ ∀ y ∈ x.f2,y.f1.size ≤ maxLen) :
  ∃ r,Ev (fun k=>laws_szFlash.f k l 1048576) r ∧ (0 ≤ r → Ev (fun k=>laws_toFlash.f k l) (toFl l) ∧ Ev (fun k=>laws_eqFlash.f k (toFl l) (toFl l)) true ∧ FlashB (toFl l)):=by
 obtain ⟨r,hr,hq⟩:=flash_start hl hx;exact ⟨r,ev_rel (c:=id) hr (fun k r h m hm=>laws_szFlash.rel k l 1048576 r h m hm),fun h0=>⟨ev_rel (c:=id) (hq h0).1 (fun k r h m hm=>laws_toFlash.rel k l r h m hm),ev_rel (c:=id) (hq h0).2.1 (fun k r h m hm=>laws_eqFlash.rel k _ _ r h m hm),(hq h0).2.2⟩⟩
end Go.Proofs.YtbbfkodckpfjcaaGreat.M2.Mp

namespace Go.Proofs.YtbbfkodckpfjcaaGreat.M2.Mp
set_option linter.unusedVariables false
set_option linter.unusedSimpArgs false
open Go.RowKit Go.Proofs.YtbbfkodckpfjcaaGreat.PK Go.Proofs.YtbbfkodckpfjcaaGreatW.PrintWords Go.Proofs.YtbbfkodckpfjcaaGreat.Pu
abbrev Tk:=S133
def mt (s : ByteArray) (f a : Nat) : Nat → Nat → Nat
 | 0,n=>n
 | d + 1,n=>if a + n < s.size ∧ bt s ((f + n : Nat) : Int) = bt s ((a + n : Nat) : Int) then mt s f a d (n + 1) else n
theorem mt_pos {s : ByteArray} {f a d n : Nat} (h : a + n < s.size ∧ bt s ((f + n : Nat) : Int) = bt s ((a + n : Nat) : Int)) : mt s f a (d + 1) n = mt s f a d (n + 1):=by rw [mt,if_pos h]
theorem mt_neg {s : ByteArray} {f a d n : Nat} (h : ¬ (a + n < s.size ∧ bt s ((f + n : Nat) : Int) = bt s ((a + n : Nat) : Int))) : mt s f a (d + 1) n = n:=by rw [mt,if_neg h]
theorem mt_le (s : ByteArray) (f a : Nat) : ∀ (d n : Nat),n ≤ mt s f a d n ∧ mt s f a d n ≤ n + d
 | 0,n=>by simp [mt]
 | d + 1,n=>by
  rw [mt]
  split
  ·have:=mt_le s f a d (n + 1);omega
  omega
def bst (s : ByteArray) (a : Nat) : Nat → Nat × Nat → Nat × Nat
 | 0,p=>p
 | f + 1,p=>bst s a f (if 4 ≤ mt s f a 31 0 ∧ p.1 < mt s f a 31 0 then (mt s f a 31 0,a - f) else p)
theorem bst_inv (s : ByteArray) (a : Nat) : ∀ (f : Nat) (p : Nat × Nat),f ≤ a → p.1 ≤ 31 → p.2 ≤ a → (p.1 > 0 → 1 ≤ p.2) → (bst s a f p).1 ≤ 31 ∧ (bst s a f p).2 ≤ a ∧ ((bst s a f p).1 > 0 → 1 ≤ (bst s a f p).2)
 | 0,p,_,h1,h2,h3=>⟨h1,h2,h3⟩
 | f + 1,p,hf,h1,h2,h3=>by
  rw [bst];have hm:=mt_le s f a 31 0;refine bst_inv s a f _ (by omega) ?_ ?_ ?_
  ·split
   ·show mt s f a 31 0 ≤ 31;omega
   exact h1
  ·split
   ·show a - f ≤ a;omega
   exact h2
  split
  ·intro _;show 1 ≤ a - f;omega
  exact h3
theorem s64 {x : Int} {n : Nat} (h : x = (n : Int)) (hn : n ≤ 9223372036854775807) : M2.w64 x = (n : Int):=by
 rw [x64 (by omega) (by omega),h]
theorem sMatch2 (s : ByteArray) (f a : Nat) (hf : f < a) (ha : a < s.size) (hs : s.size ≤ 64) : ∀ (d n : Nat),n + d = 31 → Ev (fun k=>spec_l04Match.c2 k s (f : Int) (a : Int) (n : Int)) ((mt s f a d n : Nat) : Int)
 | 0,n,h=>by
  refine Ev.step (f:=fun _=>some _) (fun k=>?_) (Ev.now _);rw [spec_l04Match.c2,if_neg (by omega)];rfl
 | d + 1,n,h=>by
  have e1 : M2.w64 ((a : Int) + (n : Int)) = ((a + n : Nat) : Int):=s64 (by omega) (by omega);have e2 : M2.w64 ((f : Int) + (n : Int)) = ((f + n : Nat) : Int):=s64 (by omega) (by omega);rw [mt]
  by_cases h1 : a + n < s.size
  ·by_cases h2 : bt s ((f + n : Nat) : Int) = bt s ((a + n : Nat) : Int)
   ·rw [if_pos ⟨h1,h2⟩];refine Ev.step (fun k=>?_) (sMatch2 s f a hf ha hs d (n + 1) (by omega));rw [spec_l04Match.c2,if_pos (by omega),e1,e2,if_pos (by omega),if_pos (by omega),if_pos (by omega),if_pos (by omega),if_pos (by omega),if_pos h2,m64 (n:=31) (by omega) (by omega)]
   rw [if_neg (fun h=>h2 h.2)];refine Ev.step (f:=fun _=>some _) (fun k=>?_) (Ev.now _);rw [spec_l04Match.c2,if_pos (by omega),e1,e2,if_pos (by omega),if_pos (by omega),if_pos (by omega),if_pos (by omega),if_pos (by omega),if_neg h2]
  rw [if_neg (fun h=>h1 h.1)];refine Ev.step (f:=fun _=>some _) (fun k=>?_) (Ev.now _);rw [spec_l04Match.c2,if_pos (by omega),e1,if_neg (by omega)]
theorem iMatch6 (s : ByteArray) (f a : Nat) (p : Nat × Nat) (hf : f < a) (ha : a < s.size) (hs : s.size ≤ 64) (r : Int × Int) : ∀ (d n : Nat),n + d = 31 →
  Ev (fun k=>impl_matchAt.c3 k s (a : Int) ((if 4 ≤ mt s f a d n ∧ p.1 < mt s f a d n then (mt s f a d n,a - f) else p).1 : Int) ((if 4 ≤ mt s f a d n ∧ p.1 < mt s f a d n then (mt s f a d n,a - f) else p).2 : Int) ((f : Int) - 1)) r →
  Ev (fun k=>impl_matchAt.c6 k s (a : Int) (p.1 : Int) (p.2 : Int) (f : Int) (n : Int)) r:=by
 have tail : ∀ (n : Nat),(Ev (fun k=>impl_matchAt.c3 k s (a : Int) ((if 4 ≤ n ∧ p.1 < n then (n,a - f) else p).1 : Int) ((if 4 ≤ n ∧ p.1 < n then (n,a - f) else p).2 : Int) ((f : Int) - 1)) r) →
   Ev (fun k=>if (n : Int) ≥ 4 then (if (n : Int) > (p.1 : Int) then impl_matchAt.c3 k s (a : Int) (n : Int) (M2.w64 ((a : Int) - (f : Int))) (M2.w64 ((f : Int) - 1)) else impl_matchAt.c3 k s (a : Int) (p.1 : Int) (p.2 : Int) (M2.w64 ((f : Int) - 1))) else impl_matchAt.c3 k s (a : Int) (p.1 : Int) (p.2 : Int) (M2.w64 ((f : Int) - 1))) r:=by
  intro n h;have e1 : M2.w64 ((a : Int) - (f : Int)) = ((a - f : Nat) : Int):=s64 (by omega) (by omega);have e2 : M2.w64 ((f : Int) - 1) = (f : Int) - 1:=x64 (by omega) (by omega);rw [e1,e2]
  by_cases h1 : 4 ≤ n
  ·by_cases h2 : p.1 < n
   ·rw [if_pos ⟨h1,h2⟩] at h;exact ev_pos (by omega) (ev_pos (by omega) h)
   rw [if_neg (fun h=>h2 h.2)] at h;exact ev_pos (by omega) (ev_neg (by omega) h)
  rw [if_neg (fun h=>h1 h.1)] at h;exact ev_neg (by omega) h
 intro d
 induction d with
 | zero =>
  intro n hn h;refine Ev.step (fun k=>?_) (tail n h);rw [impl_matchAt.c6,if_neg (by omega)]
 | succ d ih =>
  intro n hn h;have e1 : M2.w64 ((a : Int) + (n : Int)) = ((a + n : Nat) : Int):=s64 (by omega) (by omega);have e2 : M2.w64 ((f : Int) + (n : Int)) = ((f + n : Nat) : Int):=s64 (by omega) (by omega)
  by_cases h1 : a + n < s.size
  ·by_cases h2 : bt s ((f + n : Nat) : Int) = bt s ((a + n : Nat) : Int)
   ·rw [mt_pos ⟨h1,h2⟩] at h;refine Ev.step (fun k=>?_) (ih (n + 1) (by omega) h);rw [impl_matchAt.c6,if_pos (by omega),e1,e2,if_pos (by omega),if_pos (by omega),if_pos (by omega),if_pos (by omega),if_pos (by omega),if_pos h2,m64 (n:=31) (by omega) (by omega)]
   rw [mt_neg (fun h=>h2 h.2)] at h;refine Ev.step (fun k=>?_) (tail n h);rw [impl_matchAt.c6,if_pos (by omega),e1,e2,if_pos (by omega),if_pos (by omega),if_pos (by omega),if_pos (by omega),if_pos (by omega),if_neg h2]
  rw [mt_neg (fun h=>h1 h.1)] at h;refine Ev.step (fun k=>?_) (tail n h);rw [impl_matchAt.c6,if_pos (by omega),e1,if_neg (by omega)]
theorem iMatch3 (s : ByteArray) (a : Nat) (ha : a < s.size) (hs : s.size ≤ 64) : ∀ (f : Nat) (p : Nat × Nat),f ≤ a → Ev (fun k=>impl_matchAt.c3 k s (a : Int) (p.1 : Int) (p.2 : Int) ((f : Int) - 1)) (((bst s a f p).1 : Int),((bst s a f p).2 : Int))
 | 0,p,_=>by
  refine Ev.step (f:=fun _=>some _) (fun k=>?_) (Ev.now _);rw [impl_matchAt.c3,if_neg (by omega)];rfl
 | f + 1,p,hf=>by
  rw [bst];refine Ev.step (fun k=>?_) (iMatch6 s f a p (by omega) ha hs _ 31 0 rfl (iMatch3 s a ha hs f _ (by omega)));rw [show (((f + 1 : Nat) : Int) - 1) = (f : Int) by omega,impl_matchAt.c3,if_pos (by omega)];rfl
theorem iMatchAt (s : ByteArray) (a : Nat) (ha : a < s.size) (hs : s.size ≤ 64) : Ev (fun k=>impl_matchAt.f k s (a : Int)) (((bst s a a (0,0)).1 : Int),((bst s a a (0,0)).2 : Int)):=by
 simp only [impl_matchAt.f];rw [x64 (by omega) (by omega)];exact iMatch3 s a ha hs a (0,0) (Nat.le_refl _)
def ch (s : ByteArray) (a : Nat) : ByteArray:=s.extract a (a + 1)
def push (l : List Tk) (c : ByteArray) : List Tk :=
 if 0 < l.length ∧ (l.getD (l.length - 1) z133).f0 = 0 ∧ (l.getD (l.length - 1) z133).f2.size < 31 then
  l.set (l.length - 1) ⟨(l.getD (l.length - 1) z133).f0,(l.getD (l.length - 1) z133).f1,(l.getD (l.length - 1) z133).f2 ++ c⟩
 else l ++ [⟨0,0,c⟩]
def nxt (s : ByteArray) (a : Nat) (l : List Tk) : Nat × List Tk :=
 if (bst s a a (0,0)).1 > 0 then (a + (bst s a a (0,0)).1,l ++ [⟨((bst s a a (0,0)).2 : Int),((bst s a a (0,0)).1 : Int),⟨#[]⟩⟩]) else (a + 1,push l (ch s a))
def toks (s : ByteArray) : Nat → Nat → List Tk → List Tk
 | 0,_,l=>l
 | d + 1,a,l=>if a < s.size then toks s d (nxt s a l).1 (nxt s a l).2 else l
def TkOk (t : Tk) : Prop:=0 ≤ t.f0 ∧ t.f0 ≤ 255 ∧ 0 ≤ t.f1 ∧ t.f1 ≤ 31 ∧ t.f2.size ≤ 31
theorem push_len (l : List Tk) (c : ByteArray) : (push l c).length ≤ l.length + 1:=by
 unfold push
 split
 ·rw [List.length_set];omega
 simp
theorem push_ok {l : List Tk} {c : ByteArray} (hc : c.size = 1) (h : ∀ t ∈ l,TkOk t) : ∀ t ∈ push l c,TkOk t:=by
 unfold push
 split
 ·rename_i hh;intro t ht;rcases List.mem_or_eq_of_mem_set ht with ht | rfl
  ·exact h t ht
  have:=h _ (getD_mem' (z:=z133) (show l.length - 1 < l.length by omega));refine ⟨this.1,this.2.1,this.2.2.1,this.2.2.2.1,?_⟩;show ((l.getD (l.length - 1) z133).f2 ++ c).size ≤ 31;rw [ByteArray.size_append,hc];omega
 intro t ht;rcases List.mem_append.1 ht with ht | ht
 ·exact h t ht
 simp at ht;subst ht;exact ⟨by simp,by simp,by simp,by simp,by show c.size ≤ 31;omega⟩
theorem ch_size {s : ByteArray} {a : Nat} (h : a < s.size) : (ch s a).size = 1:=by unfold ch;rw [ByteArray.size_extract];omega
theorem nxt_ok {s : ByteArray} {a : Nat} {l : List Tk} (ha : a < s.size) (hs : s.size ≤ 64) (h : ∀ t ∈ l,TkOk t) : ∀ t ∈ (nxt s a l).2,TkOk t:=by
 unfold nxt;have hb:=bst_inv s a a (0,0) (Nat.le_refl _) (by simp) (by simp) (by simp)
 split
 ·intro t ht;rcases List.mem_append.1 ht with ht | ht
  ·exact h t ht
  simp at ht;subst ht;exact ⟨by show (0 : Int) ≤ ((bst s a a (0,0)).2 : Int);omega,by show ((bst s a a (0,0)).2 : Int) ≤ 255;omega,by show (0 : Int) ≤ ((bst s a a (0,0)).1 : Int);omega,by show ((bst s a a (0,0)).1 : Int) ≤ 31;omega,by show (⟨#[]⟩ : ByteArray).size ≤ 31;decide⟩
 exact push_ok (ch_size ha) h
theorem nxt_step (s : ByteArray) (a : Nat) (l : List Tk) : a < (nxt s a l).1 ∧ (nxt s a l).1 ≤ a + 31 ∧ (nxt s a l).2.length ≤ l.length + 1:=by
 unfold nxt;have hb:=bst_inv s a a (0,0) (Nat.le_refl _) (by simp) (by simp) (by simp)
 split
 ·refine ⟨?_,?_,by simp⟩
  ·show a < a + (bst s a a (0,0)).1;omega
  show a + (bst s a a (0,0)).1 ≤ a + 31;omega
 exact ⟨by show a < a + 1;omega,by show a + 1 ≤ a + 31;omega,push_len _ _⟩
theorem toks_ok (s : ByteArray) (hs : s.size ≤ 64) : ∀ (d a : Nat) (l : List Tk),(∀ t ∈ l,TkOk t) → (∀ t ∈ toks s d a l,TkOk t) ∧ (toks s d a l).length ≤ l.length + d
 | 0,a,l,h=>⟨h,by simp [toks]⟩
 | d + 1,a,l,h=>by
  rw [toks]
  split
  ·rename_i ha;have h1:=toks_ok s hs d (nxt s a l).1 (nxt s a l).2 (nxt_ok ha hs h);have h2:=(nxt_step s a l).2.2;exact ⟨h1.1,by omega⟩
  exact ⟨h,by omega⟩
theorem rdT_nat (l : List Tk) (i : Nat) : rd_T133 l (i : Int) = l.getD i z133:=rfl
theorem empty_app (c : ByteArray) : (⟨#[]⟩ : ByteArray) ++ c = c:=byt_inj (by rw [byt_app,byt_empty];rfl)
theorem set_last (l : List Tk) (x y : Tk) : (l ++ [x]).set l.length y = l ++ [y]:=by
 rw [List.set_append_right _ _ (Nat.le_refl _),Nat.sub_self];rfl
theorem getD_last (l : List Tk) (x z : Tk) : (l ++ [x]).getD l.length z = x:=by simp [List.getD]
end Go.Proofs.YtbbfkodckpfjcaaGreat.M2.Mp

namespace Go.Proofs.YtbbfkodckpfjcaaGreat.M2.Mp
set_option linter.unusedVariables false
set_option linter.unusedSimpArgs false
open Go.RowKit Go.Proofs.YtbbfkodckpfjcaaGreat.PK Go.Proofs.YtbbfkodckpfjcaaGreatW.PrintWords Go.Proofs.YtbbfkodckpfjcaaGreat.Pu
theorem push_new {l : List Tk} {c : ByteArray} (h : ¬ (0 < l.length ∧ (l.getD (l.length - 1) z133).f0 = 0 ∧ (l.getD (l.length - 1) z133).f2.size < 31)) : push l c = l ++ [⟨0,0,c⟩]:=by unfold push;rw [if_neg h]
theorem push_set {l : List Tk} {c : ByteArray} (h : 0 < l.length ∧ (l.getD (l.length - 1) z133).f0 = 0 ∧ (l.getD (l.length - 1) z133).f2.size < 31) :
  push l c = l.set (l.length - 1) ⟨(l.getD (l.length - 1) z133).f0,(l.getD (l.length - 1) z133).f1,(l.getD (l.length - 1) z133).f2 ++ c⟩:=by unfold push;rw [if_pos h]
theorem iTok5 (s : ByteArray) (hs : s.size ≤ 64) : ∀ (d a : Nat) (l : List Tk),s.size ≤ a + d → (∀ t ∈ l,TkOk t) → l.length ≤ a → Ev (fun k=>impl_TokensOf.c5 k s (a : Int) l) (toks s d a l)
 | 0,a,l,hd,h,hl=>by
  refine Ev.step (f:=fun _=>some _) (fun k=>?_) (Ev.now _);rw [impl_TokensOf.c5,if_neg (by omega)];rfl
 | d + 1,a,l,hd,h,hl=>by
  rw [toks]
  by_cases ha : a < s.size
  ·rw [if_pos ha];have hb:=bst_inv s a a (0,0) (Nat.le_refl _) (by simp) (by simp) (by simp);have hst:=nxt_step s a l;have ih:=iTok5 s hs d (nxt s a l).1 (nxt s a l).2 (by omega) (nxt_ok ha hs h) (by omega);have e1 : M2.w64 ((a : Int) + 1) = ((a + 1 : Nat) : Int):=s64 (by omega) (by omega);have hc:=ch_size ha;have eK : M2.w64 (M2.w64 ((l.length : Int) - 1) + 1) = (l.length : Int):=by rw [x64 (x:=(l.length : Int) - 1) (by omega) (by omega),x64 (by omega) (by omega)];omega
   refine Ev.step (fun k=>by rw [impl_TokensOf.c5,if_pos (show (a : Int) < (s.size : Int) by omega)]) (Ev.bind (iMatchAt s a ha hs) ?_);clear hst;unfold nxt at ih ⊢;generalize bst s a a (0,0) = p at *
   by_cases hp : p.1 > 0
   ·rw [if_pos hp] at ih ⊢;refine ev_pos (show (p.1 : Int) > 0 by omega) (ev_pos (by simp;omega) ?_);rw [show M2.w64 ((a : Int) + (p.1 : Int)) = ((a + p.1 : Nat) : Int) from s64 (by omega) (by omega)];exact ih
   rw [if_neg hp] at ih ⊢;refine ev_neg (show ¬ (p.1 : Int) > 0 by omega) ?_
   have new : push l (ch s a) = l ++ [⟨0,0,ch s a⟩] → Ev (fun k=>(if l.length + ([(S133.mk 0 0 (⟨#[]⟩ : ByteArray))] : List Tk).length ≤ 4398046511104 then (if 0 ≤ (M2.w64 ((M2.w64 ((l.length : Int) - 1)) + 1)) then (if (M2.w64 ((M2.w64 ((l.length : Int) - 1)) + 1)) < ((l ++ ([(S133.mk 0 0 (⟨#[]⟩ : ByteArray))] : List Tk)).length : Int) then (if 0 ≤ (M2.w64 ((a : Int) + 1)) then (if (M2.w64 ((a : Int) + 1)) ≤ (s.size : Int) then (if 0 ≤ (a : Int) then (if (a : Int) ≤ (M2.w64 ((a : Int) + 1)) then (if ((rd_T133 (l ++ ([(S133.mk 0 0 (⟨#[]⟩ : ByteArray))] : List Tk)) (M2.w64 ((M2.w64 ((l.length : Int) - 1)) + 1))).f2).size + (s.extract (a : Int).toNat ((M2.w64 ((a : Int) + 1)).toNat)).size ≤ 9223372036854775807 then (if 0 ≤ (M2.w64 ((M2.w64 ((l.length : Int) - 1)) + 1)) then (if (M2.w64 ((M2.w64 ((l.length : Int) - 1)) + 1)) < ((l ++ ([(S133.mk 0 0 (⟨#[]⟩ : ByteArray))] : List Tk)).length : Int) then (impl_TokensOf.c5 k s (M2.w64 ((a : Int) + 1)) ((l ++ ([(S133.mk 0 0 (⟨#[]⟩ : ByteArray))] : List Tk)).set ((M2.w64 ((M2.w64 ((l.length : Int) - 1)) + 1)).toNat) (S133.mk ((rd_T133 (l ++ ([(S133.mk 0 0 (⟨#[]⟩ : ByteArray))] : List Tk)) (M2.w64 ((M2.w64 ((l.length : Int) - 1)) + 1))).f0) ((rd_T133 (l ++ ([(S133.mk 0 0 (⟨#[]⟩ : ByteArray))] : List Tk)) (M2.w64 ((M2.w64 ((l.length : Int) - 1)) + 1))).f1) (((rd_T133 (l ++ ([(S133.mk 0 0 (⟨#[]⟩ : ByteArray))] : List Tk)) (M2.w64 ((M2.w64 ((l.length : Int) - 1)) + 1))).f2) ++ (s.extract (a : Int).toNat ((M2.w64 ((a : Int) + 1)).toNat)))))) else none) else none) else none) else none) else none) else none) else none) else none) else none) else none)) (toks s d (a + 1) (push l (ch s a))):=by
    intro hpu;rw [hpu] at ih ⊢;simp only [eK,e1,rdT_nat,Int.toNat_natCast,getD_last,set_last,empty_app]
    have hz : (⟨#[]⟩ : ByteArray).size + (s.extract a (a + 1)).size ≤ 9223372036854775807:=by
     rw [show (s.extract a (a + 1)).size = 1 from hc,show (⟨#[]⟩ : ByteArray).size = 0 from rfl];omega
    have hz2 : (l.length : Int) < ((l ++ ([(S133.mk 0 0 (⟨#[]⟩ : ByteArray))] : List Tk)).length : Int):=by rw [List.length_append];simp;omega
    have hz3 : l.length + ([(S133.mk 0 0 (⟨#[]⟩ : ByteArray))] : List Tk).length ≤ 4398046511104:=by simp;omega
    exact ev_pos hz3 (ev_pos (by omega) (ev_pos hz2 (ev_pos (by omega) (ev_pos (by omega) (ev_pos (by omega) (ev_pos (by omega) (ev_pos hz (ev_pos (by omega) (ev_pos hz2 ih)))))))))
   by_cases hl0 : 0 < l.length
   ·have eL : M2.w64 ((l.length : Int) - 1) = ((l.length - 1 : Nat) : Int):=s64 (by omega) (by omega);have ht:=h _ (getD_mem' (z:=z133) (show l.length - 1 < l.length by omega));refine ev_neg (by rw [eL];omega) (ev_pos (by rw [eL];omega) (ev_pos (by rw [eL];omega) ?_))
    by_cases h0 : (l.getD (l.length - 1) z133).f0 > 0
    ·exact ev_pos (by rw [eL,rdT_nat];exact h0) (new (push_new (fun hh=>by omega)))
    refine ev_neg (by rw [eL,rdT_nat];exact h0) (ev_pos (by rw [eL];omega) (ev_pos (by rw [eL];omega) ?_))
    by_cases h1 : (l.getD (l.length - 1) z133).f2.size < 31
    ·have hpu:=push_set (c:=ch s a) ⟨hl0,by have:=ht.1;omega,h1⟩;rw [hpu] at ih ⊢;refine ev_neg (by rw [eL,rdT_nat];omega) ?_;simp only [eL,e1,rdT_nat,Int.toNat_natCast];exact ev_pos (by omega) (ev_pos (by omega) (ev_pos (by omega) (ev_pos (by omega) (ev_pos (by omega) (ev_pos (by omega) (ev_pos (by rw [show (s.extract a (a + 1)).size = 1 from hc];omega) (ev_pos (by omega) (ev_pos (by omega) ih))))))))
    exact ev_pos (by rw [eL,rdT_nat];omega) (new (push_new (fun hh=>h1 hh.2.2)))
   exact ev_pos (by rw [x64 (by omega) (by omega)];omega) (new (push_new (fun hh=>hl0 hh.1)))
  rw [if_neg ha];refine Ev.step (f:=fun _=>some _) (fun k=>?_) (Ev.now _);rw [impl_TokensOf.c5,if_neg (by omega)]
def nxtP (s : ByteArray) (a : Nat) (l : List Tk) (p : Nat × Nat) : Nat × List Tk:=if p.1 > 0 then (a + p.1,l ++ [⟨(p.2 : Int),(p.1 : Int),⟨#[]⟩⟩]) else (a + 1,push l (ch s a))
theorem sTok9 (s : ByteArray) (hs : s.size ≤ 64) (a : Nat) (ha : a < s.size) (l : List Tk) (h : ∀ t ∈ l,TkOk t) (hl : l.length ≤ a) (r : List Tk) : ∀ (f : Nat) (p : Nat × Nat),f ≤ a → p.1 ≤ 31 → p.2 ≤ a → (p.1 > 0 → 1 ≤ p.2) →
  Ev (fun k=>spec_TokensOf.c5 k s ((nxtP s a l (bst s a f p)).1 : Int) (nxtP s a l (bst s a f p)).2) r → Ev (fun k=>spec_TokensOf.c9 k s (a : Int) (p.1 : Int) (p.2 : Int) ((f : Int) - 1) l) r
 | 0,p,hf,h1,h2,h3,ih=>by
  rw [bst] at ih;have e1 : M2.w64 ((a : Int) + 1) = ((a + 1 : Nat) : Int):=s64 (by omega) (by omega);have hc : (s.extract a (a + 1)).size = 1:=ch_size ha;unfold nxtP at ih;refine Ev.step (fun k=>by rw [spec_TokensOf.c9,if_neg (show ¬ ((0 : Nat) : Int) - 1 ≥ 0 by omega)]) ?_
  by_cases hp : p.1 > 0
  ·rw [if_pos hp] at ih;refine ev_pos (show (p.1 : Int) > 0 by omega) (ev_pos (by simp;omega) ?_);rw [show M2.w64 ((a : Int) + (p.1 : Int)) = ((a + p.1 : Nat) : Int) from s64 (by omega) (by omega)];exact ih
  rw [if_neg hp] at ih;refine ev_neg (show ¬ (p.1 : Int) > 0 by omega) ?_;have hz3 : l.length + ([(S133.mk 0 0 (s.extract a (a + 1)))] : List Tk).length ≤ 4398046511104:=by simp;omega
  have new : push l (ch s a) = l ++ [⟨0,0,ch s a⟩] → Ev (fun k=>(if 0 ≤ (M2.w64 ((a : Int) + 1)) then (if (M2.w64 ((a : Int) + 1)) ≤ (s.size : Int) then (if 0 ≤ (a : Int) then (if (a : Int) ≤ (M2.w64 ((a : Int) + 1)) then (if l.length + ([(S133.mk 0 0 (s.extract (a : Int).toNat ((M2.w64 ((a : Int) + 1)).toNat)))] : List Tk).length ≤ 4398046511104 then (spec_TokensOf.c5 k s (M2.w64 ((a : Int) + 1)) (l ++ ([(S133.mk 0 0 (s.extract (a : Int).toNat ((M2.w64 ((a : Int) + 1)).toNat)))] : List Tk))) else none) else none) else none) else none) else none)) r:=by
   intro hpu;rw [hpu] at ih;simp only [e1,Int.toNat_natCast];exact ev_pos (by omega) (ev_pos (by omega) (ev_pos (by omega) (ev_pos (by omega) (ev_pos hz3 ih))))
  by_cases hl0 : 0 < l.length
  ·have eL : M2.w64 ((l.length : Int) - 1) = ((l.length - 1 : Nat) : Int):=s64 (by omega) (by omega);have ht:=h _ (getD_mem' (z:=z133) (show l.length - 1 < l.length by omega));refine ev_pos (by rw [eL];omega) (ev_pos (by rw [eL];omega) (ev_pos (by rw [eL];omega) ?_))
   by_cases h0 : (l.getD (l.length - 1) z133).f0 = 0
   ·refine ev_pos (by rw [eL,rdT_nat];exact h0) (ev_pos (by rw [eL];omega) (ev_pos (by rw [eL];omega) ?_))
    by_cases h1 : (l.getD (l.length - 1) z133).f2.size < 31
    ·have hpu:=push_set (c:=ch s a) ⟨hl0,h0,h1⟩;rw [hpu] at ih;refine ev_pos (by rw [eL,rdT_nat];omega) ?_;simp only [eL,e1,rdT_nat,Int.toNat_natCast];exact ev_pos (by omega) (ev_pos (by omega) (ev_pos (by omega) (ev_pos (by omega) (ev_pos (by omega) (ev_pos (by omega) (ev_pos (by rw [hc];omega) (ev_pos (by omega) (ev_pos (by omega) ih))))))))
    exact ev_neg (by rw [eL,rdT_nat];omega) (new (push_new (fun hh=>h1 hh.2.2)))
   exact ev_neg (by rw [eL,rdT_nat];exact h0) (new (push_new (fun hh=>h0 hh.2.1)))
  exact ev_neg (by rw [x64 (by omega) (by omega)];omega) (new (push_new (fun hh=>hl0 hh.1)))
 | f + 1,p,hf,h1,h2,h3,ih=>by
  rw [bst] at ih;have hm:=mt_le s f a 31 0;have e1 : M2.w64 ((a : Int) - (f : Int)) = ((a - f : Nat) : Int):=s64 (by omega) (by omega);have e2 : M2.w64 ((f : Int) - 1) = (f : Int) - 1:=x64 (by omega) (by omega);refine Ev.step (fun k=>by rw [show (((f + 1 : Nat) : Int) - 1) = (f : Int) by omega,spec_TokensOf.c9,if_pos (show (f : Int) ≥ 0 by omega)]) (Ev.bind (a:=((mt s f a 31 0 : Nat) : Int)) (by simp only [spec_l04Match.f];exact sMatch2 s f a (by omega) ha hs 31 0 rfl) ?_);generalize mt s f a 31 0 = n at *;rw [e1,e2]
  by_cases q1 : 4 ≤ n
  ·by_cases q2 : p.1 < n
   ·rw [if_pos ⟨q1,q2⟩] at ih;exact ev_pos (by omega) (ev_pos (by omega) (sTok9 s hs a ha l h hl r f (n,a - f) (by omega) (by show n ≤ 31;omega) (by show a - f ≤ a;omega) (fun _=>by show 1 ≤ a - f;omega) ih))
   rw [if_neg (fun h=>q2 h.2)] at ih;exact ev_pos (by omega) (ev_neg (by omega) (sTok9 s hs a ha l h hl r f p (by omega) h1 h2 h3 ih))
  rw [if_neg (fun h=>q1 h.1)] at ih;exact ev_neg (by omega) (sTok9 s hs a ha l h hl r f p (by omega) h1 h2 h3 ih)
theorem sTok5 (s : ByteArray) (hs : s.size ≤ 64) : ∀ (d a : Nat) (l : List Tk),s.size ≤ a + d → (∀ t ∈ l,TkOk t) → l.length ≤ a → Ev (fun k=>spec_TokensOf.c5 k s (a : Int) l) (toks s d a l)
 | 0,a,l,hd,h,hl=>by
  refine Ev.step (f:=fun _=>some _) (fun k=>?_) (Ev.now _);rw [spec_TokensOf.c5,if_neg (by omega)];rfl
 | d + 1,a,l,hd,h,hl=>by
  rw [toks]
  by_cases ha : a < s.size
  ·rw [if_pos ha];have hst:=nxt_step s a l;have ih:=sTok5 s hs d (nxt s a l).1 (nxt s a l).2 (by omega) (nxt_ok ha hs h) (by omega);refine Ev.step (fun k=>?_) (sTok9 s hs a ha l h hl _ a (0,0) (Nat.le_refl _) (by simp) (by simp) (by simp) ih);rw [spec_TokensOf.c5,if_pos (by omega),x64 (by omega) (by omega)];rfl
  rw [if_neg ha];refine Ev.step (f:=fun _=>some _) (fun k=>?_) (Ev.now _);rw [spec_TokensOf.c5,if_neg (by omega)]
def toksV (s : ByteArray) : List Tk:=toks s s.size 0 []
theorem iTokensOf (s : ByteArray) (hs : s.size ≤ 64) : Ev (fun k=>impl_TokensOf.f k s) (toksV s):=by
 simp only [impl_TokensOf.f];exact ev_neg (by omega) (iTok5 s hs s.size 0 [] (by omega) (by simp) (by simp))
theorem sTokensOf (s : ByteArray) (hs : s.size ≤ 64) : Ev (fun k=>spec_TokensOf.f k s) (toksV s):=by
 simp only [spec_TokensOf.f];exact ev_neg (by omega) (sTok5 s hs s.size 0 [] (by omega) (by simp) (by simp))
theorem toksV_ok (s : ByteArray) (hs : s.size ≤ 64) : (∀ t ∈ toksV s,TkOk t) ∧ (toksV s).length ≤ 64:=by
 have:=toks_ok s hs s.size 0 [] (by simp);exact ⟨this.1,by have:=this.2;simp at this;unfold toksV;omega⟩
end Go.Proofs.YtbbfkodckpfjcaaGreat.M2.Mp

namespace Go.Proofs.YtbbfkodckpfjcaaGreat.M2.Mp
set_option linter.unusedVariables false
set_option linter.unusedSimpArgs false
open Go.RowKit Go.Proofs.YtbbfkodckpfjcaaGreat.PK Go.Proofs.YtbbfkodckpfjcaaGreatW.PrintWords Go.Proofs.YtbbfkodckpfjcaaGreat.Pu
def badT : ByteArray × Bool:=(⟨#[]⟩,false)
def copyL (b : Nat) : Nat → List Int → List Int
 | 0,l=>l
 | n + 1,l=>copyL b n (l ++ [l.getD (l.length - b) 0])
theorem copyL_len (b : Nat) : ∀ (n : Nat) (l : List Int),(copyL b n l).length = l.length + n
 | 0,l=>rfl
 | n + 1,l=>by rw [copyL,copyL_len b n];simp;omega
open Classical in
noncomputable def plainL : List Tk → List Int → ByteArray × Bool
 | [],acc=>(strOfNums acc,true)
 | t :: l,acc=>if t.f0 = 0 then (if t.f1 = 0 ∧ (1 ≤ t.f2.size ∧ t.f2.size ≤ 31) then (if (acc ++ bytesOf t.f2).length > 64 then badT else plainL l (acc ++ bytesOf t.f2)) else badT)
   else (if (1 ≤ t.f0 ∧ t.f0 ≤ (acc.length : Int)) ∧ (1 ≤ t.f1 ∧ t.f1 ≤ 31) ∧ t.f2 = ⟨#[]⟩ then (if (copyL t.f0.toNat t.f1.toNat acc).length > 64 then badT else plainL l (copyL t.f0.toNat t.f1.toNat acc)) else badT)
theorem bytesOf_len (s : ByteArray) : (bytesOf s).length = s.size:=(bytesOf_ok s).1
theorem sPlain13 (L : List Tk) (i : Nat) (b1 b2 b3 : Bool) (x : ByteArray) (y : Int) (f0 f1 : Nat) (f2 : ByteArray) (r : ByteArray × Bool) : ∀ (d j : Nat) (acc : List Int),j + d = f1 → 1 ≤ f0 → f0 ≤ acc.length → acc.length + d ≤ 1000 → f1 ≤ 1000 →
  (if (copyL f0 d acc).length > 64 then r = badT else Ev (fun k=>spec_PlainOf.c3 k L (M2.w64 ((i : Int) + 1)) (copyL f0 d acc)) r) → Ev (fun k=>spec_PlainOf.c13 k L (i : Int) (j : Int) y b1 b2 x b3 acc (f0 : Int) (f1 : Int) f2) r
 | 0,j,acc,hj,h0,h1,h2,h3,hr=>by
  rw [copyL] at hr
  by_cases hg : acc.length > 64
  ·rw [if_pos hg] at hr;subst hr;refine Ev.step (f:=fun _=>some _) (fun k=>?_) (Ev.now _);rw [spec_PlainOf.c13,if_neg (by omega),if_pos (by omega)];rfl
  rw [if_neg hg] at hr;refine Ev.step (fun k=>?_) hr;rw [spec_PlainOf.c13,if_neg (by omega),if_neg (by omega)]
 | d + 1,j,acc,hj,h0,h1,h2,h3,hr=>by
  have e : M2.w64 ((acc.length : Int) - (f0 : Int)) = ((acc.length - f0 : Nat) : Int):=s64 (by omega) (by omega);refine Ev.step (fun k=>?_) (sPlain13 L i b1 b2 b3 x y f0 f1 f2 r d (j + 1) (acc ++ [acc.getD (acc.length - f0) 0]) (by omega) h0 (by simp;omega) (by simp;omega) h3 hr);rw [spec_PlainOf.c13,if_pos (by omega),e,if_pos (by omega),if_pos (by omega),if_pos (by simp;omega),m64 (n:=1001) (by omega) (by omega)];rfl
theorem iPlain12 (L : List Tk) (m i : Nat) (b1 b2 b3 : Bool) (x : ByteArray) (y : Int) (f0 f1 : Nat) (f2 : ByteArray) (z : Int) (r : ByteArray × Bool) : ∀ (d j : Nat) (acc : List Int),j + d = f1 → 1 ≤ f0 → f0 ≤ acc.length → acc.length + d ≤ 1000 → f1 ≤ 1000 →
  (if (copyL f0 d acc).length > 64 then r = badT else Ev (fun k=>impl_PlainOf.c3 k L (m : Int) (M2.w64 ((i : Int) + 1)) (copyL f0 d acc)) r) → Ev (fun k=>impl_PlainOf.c12 k L (m : Int) (i : Int) y b1 b2 x b3 (f1 : Int) (j : Int) acc (f0 : Int) z f2) r
 | 0,j,acc,hj,h0,h1,h2,h3,hr=>by
  rw [copyL] at hr
  by_cases hg : acc.length > 64
  ·rw [if_pos hg] at hr;subst hr;refine Ev.step (f:=fun _=>some _) (fun k=>?_) (Ev.now _);rw [impl_PlainOf.c12,if_neg (by omega),if_pos (by omega)];rfl
  rw [if_neg hg] at hr;refine Ev.step (fun k=>?_) hr;rw [impl_PlainOf.c12,if_neg (by omega),if_neg (by omega)]
 | d + 1,j,acc,hj,h0,h1,h2,h3,hr=>by
  have e : M2.w64 ((acc.length : Int) - (f0 : Int)) = ((acc.length - f0 : Nat) : Int):=s64 (by omega) (by omega);refine Ev.step (fun k=>?_) (iPlain12 L m i b1 b2 b3 x y f0 f1 f2 z r d (j + 1) (acc ++ [acc.getD (acc.length - f0) 0]) (by omega) h0 (by simp;omega) (by simp;omega) h3 hr);rw [impl_PlainOf.c12,if_pos (by omega),e,if_pos (by omega),if_pos (by omega),if_pos (by simp;omega),m64 (n:=1001) (by omega) (by omega)];rfl
theorem sPlain3 (L : List Tk) (hL : L.length ≤ 1099511627776) : ∀ (d i : Nat) (acc : List Int),i + d = L.length → acc.length ≤ 64 → Ev (fun k=>spec_PlainOf.c3 k L (i : Int) acc) (plainL (L.drop i) acc)
 | 0,i,acc,hi,ha=>by
  rw [List.drop_eq_nil_of_le (by omega),plainL];refine Ev.step (f:=fun _=>some _) (fun k=>?_) (Ev.now _);rw [spec_PlainOf.c3,if_neg (by omega)]
 | d + 1,i,acc,hi,ha=>by
  have hil : i < L.length:=by omega
  have ih:=fun acc h=>sPlain3 L hL d (i + 1) acc (by omega) h;have ew : M2.w64 ((i : Int) + 1) = ((i + 1 : Nat) : Int):=m64 hil (by omega);rw [show L.drop i = L.getD i z133 :: L.drop (i + 1) by rw [List.drop_eq_getElem_cons hil,List.getD_eq_getElem?_getD,List.getElem?_eq_getElem hil];rfl,plainL];refine Ev.step (fun k=>by rw [spec_PlainOf.c3,if_pos (show (i : Int) < (L.length : Int) by omega),if_pos (show (0 : Int) ≤ (i : Int) by omega),if_pos (show (i : Int) < (L.length : Int) by omega),rdT_nat]) ?_;generalize L.getD i z133 = t;simp only [sIn,Option.bind_some,decide_eq_true_eq]
  by_cases h0 : t.f0 = 0
  ·rw [if_pos h0];refine ev_pos h0 ?_
   by_cases h1 : 1 ≤ t.f2.size ∧ t.f2.size ≤ 31
   ·refine ev_pos (by omega) ?_
    by_cases h2 : t.f1 = 0
    ·rw [if_pos ⟨h2,h1⟩];have hb:=bytesOf_len t.f2;refine ev_pos h2 (ev_pos (by rw [hb];omega) ?_)
     by_cases hg : (acc ++ bytesOf t.f2).length > 64
     ·rw [if_pos hg];exact ev_pos (by omega) (Ev.now _)
     rw [if_neg hg,ew];exact ev_neg (by omega) (ih _ (by omega))
    rw [if_neg (fun h=>h2 h.1)];exact ev_neg h2 (Ev.now _)
   rw [if_neg (fun h=>h1 h.2)];exact ev_neg (by omega) (Ev.now _)
  rw [if_neg h0];refine ev_neg h0 ?_
  by_cases h1 : 1 ≤ t.f0 ∧ t.f0 ≤ (acc.length : Int)
  ·refine ev_pos h1 ?_
   by_cases h2 : 1 ≤ t.f1 ∧ t.f1 ≤ 31
   ·refine ev_pos h2 ?_
    by_cases h3 : t.f2 = ⟨#[]⟩
    ·rw [if_pos ⟨h1,h2,h3⟩];refine ev_pos (by rw [seq_iff];exact h3) ?_;have q0 : t.f0 = ((t.f0.toNat : Nat) : Int):=by omega
     have q1 : t.f1 = ((t.f1.toNat : Nat) : Int):=by omega
     have hcl:=copyL_len t.f0.toNat t.f1.toNat acc
     have:=sPlain13 L i (decide (1 ≤ t.f1 ∧ t.f1 ≤ 31)) (!decide (1 ≤ t.f1 ∧ t.f1 ≤ 31)) (!(M2.seq t.f2 (⟨#[]⟩ : ByteArray))) t.f2 t.f1 t.f0.toNat t.f1.toNat t.f2 (if (copyL t.f0.toNat t.f1.toNat acc).length > 64 then badT else plainL (L.drop (i + 1)) (copyL t.f0.toNat t.f1.toNat acc)) t.f1.toNat 0 acc (by omega) (by omega) (by omega) (by omega) (by omega) (by
      by_cases hg : (copyL t.f0.toNat t.f1.toNat acc).length > 64
      ·rw [if_pos hg,if_pos hg]
      rw [if_neg hg,if_neg hg,ew];exact ih _ (by omega))
     rw [← q0,← q1] at this;exact this
    rw [if_neg (fun h=>h3 h.2.2)];exact ev_neg (by rw [seq_iff];exact h3) (Ev.now _)
   rw [if_neg (fun h=>h2 h.2.1)];exact ev_neg h2 (Ev.now _)
  rw [if_neg (fun h=>h1 h.1)];exact ev_neg h1 (Ev.now _)
theorem iPlain3 (L : List Tk) (hL : L.length ≤ 1099511627776) : ∀ (d i : Nat) (acc : List Int),i + d = L.length → acc.length ≤ 64 → Ev (fun k=>impl_PlainOf.c3 k L (L.length : Int) (i : Int) acc) (plainL (L.drop i) acc)
 | 0,i,acc,hi,ha=>by
  rw [List.drop_eq_nil_of_le (by omega),plainL];refine Ev.step (f:=fun _=>some _) (fun k=>?_) (Ev.now _);rw [impl_PlainOf.c3,if_neg (by omega)]
 | d + 1,i,acc,hi,ha=>by
  have hil : i < L.length:=by omega
  have ih:=fun acc h=>iPlain3 L hL d (i + 1) acc (by omega) h;have ew : M2.w64 ((i : Int) + 1) = ((i + 1 : Nat) : Int):=m64 hil (by omega);rw [show L.drop i = L.getD i z133 :: L.drop (i + 1) by rw [List.drop_eq_getElem_cons hil,List.getD_eq_getElem?_getD,List.getElem?_eq_getElem hil];rfl,plainL];refine Ev.step (fun k=>by rw [impl_PlainOf.c3,if_pos (show (i : Int) < (L.length : Int) by omega),if_pos (show (0 : Int) ≤ (i : Int) by omega),if_pos (show (i : Int) < (L.length : Int) by omega),rdT_nat]) ?_;generalize L.getD i z133 = t;simp only [iIn,Option.bind_some,decide_eq_true_eq]
  by_cases h0 : t.f0 = 0
  ·rw [if_pos h0];refine ev_pos h0 ?_
   by_cases h2 : t.f1 = 0
   ·refine ev_pos h2 ?_
    by_cases h1 : 1 ≤ t.f2.size ∧ t.f2.size ≤ 31
    ·rw [if_pos ⟨h2,h1⟩];have hb:=bytesOf_len t.f2;refine ev_pos (by omega) (ev_pos (by rw [hb];omega) ?_)
     by_cases hg : (acc ++ bytesOf t.f2).length > 64
     ·rw [if_pos hg];exact ev_pos (by omega) (Ev.now _)
     rw [if_neg hg,ew];exact ev_neg (by omega) (ih _ (by omega))
    rw [if_neg (fun h=>h1 h.2)];exact ev_neg (by omega) (Ev.now _)
   rw [if_neg (fun h=>h2 h.1)];exact ev_neg h2 (Ev.now _)
  rw [if_neg h0];refine ev_neg h0 ?_
  by_cases h1 : 1 ≤ t.f0 ∧ t.f0 ≤ (acc.length : Int)
  ·refine ev_pos h1 ?_
   by_cases h2 : 1 ≤ t.f1 ∧ t.f1 ≤ 31
   ·refine ev_pos h2 ?_
    by_cases h3 : t.f2 = ⟨#[]⟩
    ·rw [if_pos ⟨h1,h2,h3⟩];refine ev_pos (by rw [seq_iff];exact h3) ?_;have q0 : t.f0 = ((t.f0.toNat : Nat) : Int):=by omega
     have q1 : t.f1 = ((t.f1.toNat : Nat) : Int):=by omega
     have hcl:=copyL_len t.f0.toNat t.f1.toNat acc
     have:=iPlain12 L L.length i (decide (1 ≤ t.f1 ∧ t.f1 ≤ 31)) (!decide (1 ≤ t.f1 ∧ t.f1 ≤ 31)) (!(M2.seq t.f2 (⟨#[]⟩ : ByteArray))) t.f2 t.f1 t.f0.toNat t.f1.toNat t.f2 t.f1 (if (copyL t.f0.toNat t.f1.toNat acc).length > 64 then badT else plainL (L.drop (i + 1)) (copyL t.f0.toNat t.f1.toNat acc)) t.f1.toNat 0 acc (by omega) (by omega) (by omega) (by omega) (by omega) (by
      by_cases hg : (copyL t.f0.toNat t.f1.toNat acc).length > 64
      ·rw [if_pos hg,if_pos hg]
      rw [if_neg hg,if_neg hg,ew];exact ih _ (by omega))
     rw [← q0,← q1] at this;exact this
    rw [if_neg (fun h=>h3 h.2.2)];exact ev_neg (by rw [seq_iff];exact h3) (Ev.now _)
   rw [if_neg (fun h=>h2 h.2.1)];exact ev_neg h2 (Ev.now _)
  rw [if_neg (fun h=>h1 h.1)];exact ev_neg h1 (Ev.now _)
theorem sPlainOf (L : List Tk) (hL : L.length ≤ 1099511627776) : Ev (fun k=>spec_PlainOf.f k L) (plainL L []):=by
 simp only [spec_PlainOf.f];exact sPlain3 L hL L.length 0 [] (Nat.zero_add _) (by simp)
theorem iPlainOf (L : List Tk) (hL : L.length ≤ 1099511627776) : Ev (fun k=>impl_PlainOf.f k L) (plainL L []):=by
 simp only [impl_PlainOf.f];exact iPlain3 L hL L.length 0 [] (Nat.zero_add _) (by simp)
noncomputable def tkB (t : Tk) : List Int:=if t.f0 = 0 then [Go.IntKind.wrap .u8 (t.f2.size : Int)] ++ bytesOf t.f2 else [Go.IntKind.wrap .u8 (M2.w64 (128 + t.f1)),Go.IntKind.wrap .u8 t.f0]
noncomputable def packL : List Tk → List Int → List Int
 | [],acc=>acc
 | t :: l,acc=>packL l (acc ++ tkB t)
theorem tkB_len {t : Tk} (h : TkOk t) : (tkB t).length ≤ 32:=by
 unfold tkB;have:=h.2.2.2.2
 split
 ·rw [List.length_append,bytesOf_len];simp;omega
 simp
theorem u8_rng (x : Int) : 0 ≤ Go.IntKind.wrap .u8 x ∧ Go.IntKind.wrap .u8 x < 256:=by rw [IntKind.wrap_u8];omega
theorem bytesOf_rng (s : ByteArray) : ∀ x ∈ bytesOf s,0 ≤ x ∧ x < 256:=by
 intro x hx;simp only [bytesOf,List.mem_map] at hx;obtain ⟨b,_,rfl⟩:=hx;have:=b.toNat_lt;omega
theorem byt_bytesOf (s : ByteArray) : (bytesOf s).map Int.toNat = byt s:=by
 simp [bytesOf,byt,List.map_map,Function.comp_def]
theorem tkB_rng (t : Tk) : ∀ x ∈ tkB t,0 ≤ x ∧ x < 256:=by
 unfold tkB
 split
 ·intro x hx;rcases List.mem_append.1 hx with hx | hx
  ·simp at hx;subst hx;exact u8_rng _
  exact bytesOf_rng _ x hx
 intro x hx;simp at hx;rcases hx with rfl | rfl
 ·exact u8_rng _
 exact u8_rng _
theorem str_app {a b : List Int} (ha : ∀ x ∈ a,0 ≤ x ∧ x < 256) (hb : ∀ x ∈ b,0 ≤ x ∧ x < 256) : strOfNums (a ++ b) = strOfNums a ++ strOfNums b:=by
 refine byt_inj ?_;rw [byt_app,byt_str _ ha,byt_str _ hb,byt_str _ (fun x hx=>by rcases List.mem_append.1 hx with h | h;exact ha x h;exact hb x h),List.map_append]
theorem str_bytes (s : ByteArray) : strOfNums (bytesOf s) = s:=byt_inj (by rw [byt_str _ (bytesOf_rng s),byt_bytesOf])
noncomputable def packR (s : ByteArray) (acc : List Int) : ByteArray × Bool:=if (s.size : Int) + 1 ≤ (acc.length : Int) then ((⟨#[114]⟩ : ByteArray) ++ s,true) else (strOfNums acc,true)
theorem iPack5 (s : ByteArray) (hs : s.size ≤ 64) (L : List Tk) (hL : ∀ t ∈ L,TkOk t) (hl : L.length ≤ 64) : ∀ (d i : Nat) (acc : List Int),i + d = L.length → acc.length ≤ 1 + 32 * i → Ev (fun k=>impl_PackText.c5 k s (L.length : Int) (i : Int) acc L) (packR s (packL (L.drop i) acc))
 | 0,i,acc,hi,ha=>by
  rw [List.drop_eq_nil_of_le (by omega),packL];have e : M2.w64 ((s.size : Int) + 1) = (s.size : Int) + 1:=x64 (by omega) (by omega);have hz : (⟨#[114]⟩ : ByteArray).size + s.size ≤ 9223372036854775807:=by rw [show (⟨#[114]⟩ : ByteArray).size = 1 from rfl];omega
  refine Ev.step (f:=fun _=>some _) (fun k=>?_) (Ev.now _);rw [impl_PackText.c5,if_neg (by omega),e,packR]
  split
  ·first | rfl | rw [if_pos hz]
  rfl
 | d + 1,i,acc,hi,ha=>by
  have hil : i < L.length:=by omega
  have ht:=hL _ (getD_mem' (z:=z133) hil);have htl:=tkB_len ht;have ih:=iPack5 s hs L hL hl d (i + 1) (acc ++ tkB (L.getD i z133)) (by omega) (by rw [List.length_append];omega);rw [show L.drop i = L.getD i z133 :: L.drop (i + 1) by rw [List.drop_eq_getElem_cons hil,List.getD_eq_getElem?_getD,List.getElem?_eq_getElem hil];rfl,packL];refine Ev.step (fun k=>?_) ih;rw [impl_PackText.c5,if_pos (by omega),if_pos (by omega),if_pos (by omega),rdT_nat,m64 hil (by omega)];generalize L.getD i z133 = t at *;have hb:=bytesOf_len t.f2;have:=ht.2.2.2.2;have h00:=ht.1;unfold tkB
  by_cases h0 : t.f0 = 0
  ·rw [if_neg (by omega),if_pos h0,if_pos (by simp;omega),if_pos (by rw [List.length_append,hb];simp;omega),List.append_assoc]
  rw [if_pos (by omega),if_neg h0,if_pos (by simp;omega)]
theorem sPack6 (s : ByteArray) (hs : s.size ≤ 64) (L : List Tk) (hL : ∀ t ∈ L,TkOk t) (hl : L.length ≤ 64) : ∀ (d i : Nat) (acc : List Int),i + d = L.length → acc.length ≤ 1 + 32 * i → (∀ x ∈ acc,0 ≤ x ∧ x < 256) → Ev (fun k=>spec_PackText.c6 k s (strOfNums acc) (i : Int) L) (packR s (packL (L.drop i) acc))
 | 0,i,acc,hi,ha,hr=>by
  rw [List.drop_eq_nil_of_le (by omega),packL];have e : M2.w64 ((s.size : Int) + 1) = (s.size : Int) + 1:=x64 (by omega) (by omega);have hz : (⟨#[114]⟩ : ByteArray).size + s.size ≤ 9223372036854775807:=by rw [show (⟨#[114]⟩ : ByteArray).size = 1 from rfl];omega
  refine Ev.step (f:=fun _=>some _) (fun k=>?_) (Ev.now _);rw [spec_PackText.c6,if_neg (by omega),e,packR,strOf_size]
  split
  ·first | rfl | rw [if_pos hz]
  rfl
 | d + 1,i,acc,hi,ha,hr=>by
  have hil : i < L.length:=by omega
  have ht:=hL _ (getD_mem' (z:=z133) hil);have htl:=tkB_len ht;have hrt:=tkB_rng (L.getD i z133);have ih:=sPack6 s hs L hL hl d (i + 1) (acc ++ tkB (L.getD i z133)) (by omega) (by rw [List.length_append];omega) (fun x hx=>by rcases List.mem_append.1 hx with h | h;exact hr x h;exact hrt x h);rw [str_app hr hrt] at ih;rw [show L.drop i = L.getD i z133 :: L.drop (i + 1) by rw [List.drop_eq_getElem_cons hil,List.getD_eq_getElem?_getD,List.getElem?_eq_getElem hil];rfl,packL];refine Ev.step (fun k=>?_) ih;rw [spec_PackText.c6,if_pos (by omega),if_pos (by omega),if_pos (by omega),rdT_nat,m64 hil (by omega)];generalize L.getD i z133 = t at *;have:=ht.2.2.2.2;have sz : ∀ l : List Int,(strOfNums l).size = l.length:=strOf_size;unfold tkB
  by_cases h0 : t.f0 = 0
  ·rw [if_pos h0,if_pos h0,if_pos (by rw [sz,sz];simp;omega),if_pos (by rw [ByteArray.size_append,sz,sz];simp;omega),str_app (by simpa using u8_rng _) (bytesOf_rng _),str_bytes,ByteArray.append_assoc]
  rw [if_neg h0,if_neg h0,if_pos (by rw [sz,sz];simp;omega)]
noncomputable def packV (s : ByteArray) : ByteArray × Bool:=if s.size ≤ 64 then packR s (packL (toksV s) [122]) else badT
theorem iPackText (s : ByteArray) : Ev (fun k=>impl_PackText.f k s) (packV s):=by
 simp only [impl_PackText.f];unfold packV
 by_cases h : s.size ≤ 64
 ·rw [if_pos h];have ho:=toksV_ok s h;have:=iPack5 s h (toksV s) ho.1 ho.2 _ 0 [122] (Nat.zero_add _) (by simp);exact ev_neg (by omega) (Ev.bind (iTokensOf s h) this)
 rw [if_neg h];exact ev_pos (by omega) (Ev.now _)
theorem sPackText (s : ByteArray) : Ev (fun k=>spec_PackText.f k s) (packV s):=by
 simp only [spec_PackText.f];unfold packV
 by_cases h : s.size ≤ 64
 ·rw [if_pos h];have ho:=toksV_ok s h;have:=sPack6 s h (toksV s) ho.1 ho.2 _ 0 [122] (Nat.zero_add _) (by simp) (by simp);have e : strOfNums [122] = (⟨#[122]⟩ : ByteArray):=by kernel_rfl
  rw [e] at this;exact ev_neg (by omega) (Ev.bind (sTokensOf s h) this)
 rw [if_neg h];exact ev_pos (by omega) (Ev.now _)
theorem packL_head : ∀ (L : List Tk) (x : Int) (acc : List Int),∃ m,packL L (x :: acc) = x :: m
 | [],x,acc=>⟨acc,rfl⟩
 | t :: L,x,acc=>by rw [packL,List.cons_append];exact packL_head L x _
theorem packL_rng : ∀ (L : List Tk) (acc : List Int),(∀ x ∈ acc,0 ≤ x ∧ x < 256) → ∀ x ∈ packL L acc,0 ≤ x ∧ x < 256
 | [],acc,h=>h
 | t :: L,acc,h=>by
  rw [packL];exact packL_rng L _ (fun x hx=>by rcases List.mem_append.1 hx with hx | hx;exact h x hx;exact tkB_rng t x hx)
theorem pack_first {s a : ByteArray} (h : (packV s).2 = true) (he : (packV s).1 = a) : bt a 0 = 114 ∨ bt a 0 = 122:=by
 have key : ∀ (n : Nat) (l : List Nat),byt a = n :: l → bt a 0 = (n : Int):=fun n l hl=>by
  have e : bt a 0 = (((byt a).getD 0 0 : Nat) : Int):=Pu.bt_byt a 0;rw [e,hl];rfl
 unfold packV at h he
 split at h
 ·rename_i hs;rw [if_pos hs] at he;unfold packR at he
  split at he
  ·left
   subst he;exact key 114 (byt s) (by rw [byt_app];rfl)
  right
  subst he;obtain ⟨m,hm⟩:=packL_head (toksV s) 122 [];have hr:=packL_rng (toksV s) [122] (by simp);refine key 122 (m.map Int.toNat) ?_;show byt (strOfNums (packL (toksV s) [122])) = _;rw [byt_str _ hr,hm];rfl
 cases h
end Go.Proofs.YtbbfkodckpfjcaaGreat.M2.Mp

namespace Go.Proofs.YtbbfkodckpfjcaaGreat.M2.Mp
set_option linter.unusedVariables false
set_option linter.unusedSimpArgs false
open Go.RowKit Go.Proofs.YtbbfkodckpfjcaaGreat.PK Go.Proofs.YtbbfkodckpfjcaaGreatW.PrintWords Go.Proofs.YtbbfkodckpfjcaaGreat.Pu
def BadTk (t : Tk) : Prop:=(t.f0 = 0 → ¬ (t.f1 = 0 ∧ (1 ≤ t.f2.size ∧ t.f2.size ≤ 31))) ∧ (t.f0 ≠ 0 → ¬ (1 ≤ t.f1 ∧ t.f1 ≤ 31))
theorem plain_bad : ∀ (L : List Tk) (t : Tk) (m : List Tk) (acc : List Int),BadTk t → (plainL (L ++ t :: m) acc).2 = false
 | [],t,m,acc,h=>by
  rw [List.nil_append,plainL]
  by_cases h0 : t.f0 = 0
  ·rw [if_pos h0,if_neg (h.1 h0)];rfl
  rw [if_neg h0,if_neg (fun hh=>h.2 h0 hh.2.1)];rfl
 | x :: L,t,m,acc,h=>by
  rw [List.cons_append,plainL]
  split
  ·split
   ·split
    ·rfl
    exact plain_bad L t m _ h
   rfl
  split
  ·split
   ·rfl
   exact plain_bad L t m _ h
  rfl
theorem bt_from (t : ByteArray) {a i : Nat} (h : a + i < t.size) : bt (t.extract a t.size) (i : Int) = bt t ((a + i : Nat) : Int):=by
 rw [M2.bt_eq,M2.bt_eq,Pu.bt_byt,Pu.bt_byt,byt_sub,List.take_of_length_le (by rw [List.length_drop,byt_len];omega),List.getD_eq_getElem?_getD,List.getD_eq_getElem?_getD,List.getElem?_drop]
theorem from_size (t : ByteArray) {a : Nat} (h : a ≤ t.size) : (t.extract a t.size).size = t.size - a:=by rw [ByteArray.size_extract];omega
theorem from_from (t : ByteArray) {a i : Nat} (h : a + i ≤ t.size) : (t.extract a t.size).extract i (t.size - a) = t.extract (a + i) t.size:=by
 refine byt_inj ?_;rw [byt_sub,byt_sub,byt_sub,List.drop_take,List.drop_drop,List.take_take]
 congr 1
 omega
theorem from_cut (t : ByteArray) {a i n : Nat} (h : a + i + n ≤ t.size) : (t.extract a t.size).extract i (i + n) = t.extract (a + i) (a + i + n):=by
 refine byt_inj ?_;rw [byt_sub,byt_sub,byt_sub,List.drop_take,List.drop_drop,List.take_take]
 congr 1
 omega
theorem byte_rng (t : ByteArray) (a : Nat) : ∃ n : Nat,n < 256 ∧ bt t (a : Int) = (n : Int):=by
 have:=bt_rng t a;exact ⟨(bt t (a : Int)).toNat,by omega,by omega⟩
theorem w2 {t : ByteArray} {a n : Nat} (h : bt t (a : Int) = (n : Int)) (hn : n < 256) : M2.w64 (bt t (a : Int)) = (n : Int):=by rw [h];exact s64 rfl (by omega)
theorem sTokS (t : ByteArray) (ht : t.size ≤ 1000000) (a : Nat) (acc : List Tk) (r : List Tk × Bool) (hl : acc.length ≤ a) (ha : a < t.size) (n : Nat) (hn : n < 256) (e : bt t (a : Int) = (n : Int))
  (h1 : n > 128 → (a + 2 > t.size → r = (acc,false)) ∧ (a + 2 ≤ t.size → Ev (fun k=>spec_l04Tokens.c3 k t ((a + 2 : Nat) : Int) (acc ++ [⟨M2.w64 (bt t ((a + 1 : Nat) : Int)),(n : Int) - 128,⟨#[]⟩⟩])) r))
  (h2 : n ≤ 128 → (a + 1 + n > t.size → r = (acc,false)) ∧ (a + 1 + n ≤ t.size → Ev (fun k=>spec_l04Tokens.c3 k t ((a + 1 + n : Nat) : Int) (acc ++ [⟨0,0,t.extract (a + 1) (a + 1 + n)⟩])) r)) : Ev (fun k=>spec_l04Tokens.c3 k t (a : Int) acc) r:=by
 have e1 : M2.w64 ((a : Int) + 1) = ((a + 1 : Nat) : Int):=s64 (by omega) (by omega);have e2 : M2.w64 ((a : Int) + 2) = ((a + 2 : Nat) : Int):=s64 (by omega) (by omega);have e3 : M2.w64 (((a + 1 : Nat) : Int) + (n : Int)) = ((a + 1 + n : Nat) : Int):=s64 (by omega) (by omega);have e4 : M2.w64 ((n : Int) - 128) = (n : Int) - 128:=x64 (by omega) (by omega);refine Ev.step (fun k=>by rw [spec_l04Tokens.c3,if_pos (show (a : Int) < (t.size : Int) by omega),if_pos (show (0 : Int) ≤ (a : Int) by omega),if_pos (show (a : Int) < (t.size : Int) by omega),w2 e hn,e1,e2,e3]) ?_
 by_cases q : n > 128
 ·refine ev_pos (by omega) ?_
  by_cases q2 : a + 2 > t.size
  ·rw [(h1 q).1 q2];exact ev_pos (by omega) (Ev.now _)
  refine ev_neg (by omega) (ev_pos (by omega) (ev_pos (by omega) (ev_pos (by simp;omega) ?_)));rw [e4];exact (h1 q).2 (by omega)
 refine ev_neg (by omega) ?_
 by_cases q2 : a + 1 + n > t.size
 ·rw [(h2 (by omega)).1 q2];exact ev_pos (by omega) (Ev.now _)
 refine ev_neg (by omega) (ev_pos (by omega) (ev_pos (by omega) (ev_pos (by omega) (ev_pos (by omega) (ev_pos (by simp;omega) ?_)))));simp only [Int.toNat_natCast];exact (h2 (by omega)).2 (by omega)
theorem iTokS (t : ByteArray) (ht : t.size ≤ 1000000) (a : Nat) (acc : List Tk) (r : List Tk × Bool) (hl : acc.length ≤ a) (ha : a < t.size) (n : Nat) (hn : n < 256) (e : bt t (a : Int) = (n : Int))
  (h1 : n ≥ 128 → (a + 2 > t.size → r = ([],false)) ∧ (a + 2 ≤ t.size → Ev (fun k=>impl_tokensIn.c2 k (t.extract (a + 2) t.size) (acc ++ [⟨M2.w64 (bt t ((a + 1 : Nat) : Int)),(n : Int) - 128,⟨#[]⟩⟩])) r))
  (h2 : n < 128 → (a + 1 + n > t.size → r = ([],false)) ∧ (a + 1 + n ≤ t.size → Ev (fun k=>impl_tokensIn.c2 k (t.extract (a + 1 + n) t.size) (acc ++ [⟨0,0,t.extract (a + 1) (a + 1 + n)⟩])) r)) : Ev (fun k=>impl_tokensIn.c2 k (t.extract a t.size) acc) r:=by
 have hz:=from_size t (show a ≤ t.size by omega);have b0 : bt (t.extract a t.size) 0 = (n : Int):=(bt_from t (i:=0) (by omega)).trans e;have w0 : M2.w64 (bt (t.extract a t.size) 0) = (n : Int):=by rw [b0];exact s64 rfl (by omega)
 have e4 : M2.w64 ((n : Int) - 128) = (n : Int) - 128:=x64 (by omega) (by omega);have e3 : M2.w64 (1 + (n : Int)) = ((1 + n : Nat) : Int):=s64 (by omega) (by omega)
 refine Ev.step (fun k=>by rw [impl_tokensIn.c2,if_neg (show ¬ M2.seq (t.extract a t.size) (⟨#[]⟩ : ByteArray) = true from fun h=>by
  rw [seq_iff] at h;have:=congrArg ByteArray.size h;rw [hz] at this;have : t.size - a = 0:=this
  omega),if_pos (show (0 : Int) < ((t.extract a t.size).size : Int) by omega),w0,e3,e4]) ?_
 by_cases q : n ≥ 128
 ·refine ev_pos (by omega) ?_
  by_cases q2 : a + 2 > t.size
  ·rw [(h1 q).1 q2];exact ev_neg (by omega) (ev_neg (by omega) (Ev.now _))
  have b1 : bt (t.extract a t.size) 1 = bt t ((a + 1 : Nat) : Int):=bt_from t (i:=1) (by omega);refine ev_pos (by omega) (ev_pos (by omega) (ev_pos (by simp;omega) (ev_pos (by omega) ?_)));rw [b1,hz,from_from t (by omega)];exact (h1 q).2 (by omega)
 refine ev_neg (by omega) (ev_pos (by omega) ?_)
 by_cases q2 : a + 1 + n > t.size
 ·rw [(h2 (by omega)).1 q2];exact ev_neg (by omega) (Ev.now _)
 refine ev_pos (by omega) (ev_pos (by omega) (ev_pos (by omega) (ev_pos (by omega) (ev_pos (by simp;omega) (ev_pos (by omega) (ev_pos (by omega) ?_))))));simp only [Int.toNat_natCast];rw [hz,from_from t (by omega),show 1 + n = 1 + n from rfl,from_cut t (i:=1) (n:=n) (by omega),show a + (1 + n) = a + 1 + n by omega];exact (h2 (by omega)).2 (by omega)
theorem sTot (t : ByteArray) (ht : t.size ≤ 1000000) : ∀ (d a : Nat) (acc : List Tk),t.size ≤ a + d → acc.length ≤ a → ∃ L b,Ev (fun k=>spec_l04Tokens.c3 k t (a : Int) acc) (L,b) ∧ (∃ m,L = acc ++ m) ∧ L.length ≤ acc.length + d
 | d,a,acc,hd,hl=>by
  by_cases ha : a < t.size
  ·cases d with
   | zero=>omega
   | succ d =>
    obtain ⟨n,hn,e⟩:=byte_rng t a
    by_cases q : n > 128
    ·by_cases q2 : a + 2 > t.size
     ·exact ⟨acc,false,sTokS t ht a acc _ hl ha n hn e (fun _=>⟨fun _=>rfl,fun h=>by omega⟩) (fun h=>by omega),⟨[],by simp⟩,by omega⟩
     obtain ⟨L,b,h1,⟨m,h2⟩,h3⟩:=sTot t ht d (a + 2) (acc ++ [⟨M2.w64 (bt t ((a + 1 : Nat) : Int)),(n : Int) - 128,⟨#[]⟩⟩]) (by omega) (by simp;omega);exact ⟨L,b,sTokS t ht a acc _ hl ha n hn e (fun _=>⟨fun h=>by omega,fun _=>h1⟩) (fun h=>by omega),⟨_ :: m,by rw [h2,List.append_assoc];rfl⟩,by simp at h3;omega⟩
    by_cases q2 : a + 1 + n > t.size
    ·exact ⟨acc,false,sTokS t ht a acc _ hl ha n hn e (fun h=>by omega) (fun _=>⟨fun _=>rfl,fun h=>by omega⟩),⟨[],by simp⟩,by omega⟩
    obtain ⟨L,b,h1,⟨m,h2⟩,h3⟩:=sTot t ht d (a + 1 + n) (acc ++ [⟨0,0,t.extract (a + 1) (a + 1 + n)⟩]) (by omega) (by simp;omega);exact ⟨L,b,sTokS t ht a acc _ hl ha n hn e (fun h=>by omega) (fun _=>⟨fun h=>by omega,fun _=>h1⟩),⟨_ :: m,by rw [h2,List.append_assoc];rfl⟩,by simp at h3;omega⟩
  refine ⟨acc,true,?_,⟨[],by simp⟩,by omega⟩;refine Ev.step (f:=fun _=>some _) (fun k=>?_) (Ev.now _);rw [spec_l04Tokens.c3,if_neg (by omega)]
theorem iEnd (t : ByteArray) (a : Nat) (acc : List Tk) (h : ¬ a < t.size) : Ev (fun k=>impl_tokensIn.c2 k (t.extract a t.size) acc) (acc,true):=by
 refine Ev.step (f:=fun _=>some _) (fun k=>?_) (Ev.now _);rw [impl_tokensIn.c2,if_pos];rw [seq_iff];refine byt_inj (List.length_eq_zero_iff.1 ?_);rw [byt_len,ByteArray.size_extract];omega
theorem iTot (t : ByteArray) (ht : t.size ≤ 1000000) : ∀ (d a : Nat) (acc : List Tk),t.size ≤ a + d → acc.length ≤ a → ∃ L b,Ev (fun k=>impl_tokensIn.c2 k (t.extract a t.size) acc) (L,b) ∧ (b = true → ∃ m,L = acc ++ m) ∧ L.length ≤ acc.length + d
 | d,a,acc,hd,hl=>by
  by_cases ha : a < t.size
  ·cases d with
   | zero=>omega
   | succ d =>
    obtain ⟨n,hn,e⟩:=byte_rng t a
    by_cases q : n ≥ 128
    ·by_cases q2 : a + 2 > t.size
     ·exact ⟨[],false,iTokS t ht a acc _ hl ha n hn e (fun _=>⟨fun _=>rfl,fun h=>by omega⟩) (fun h=>by omega),(fun h=>by cases h),by simp⟩
     obtain ⟨L,b,h1,h2,h3⟩:=iTot t ht d (a + 2) (acc ++ [⟨M2.w64 (bt t ((a + 1 : Nat) : Int)),(n : Int) - 128,⟨#[]⟩⟩]) (by omega) (by simp;omega);exact ⟨L,b,iTokS t ht a acc _ hl ha n hn e (fun _=>⟨fun h=>by omega,fun _=>h1⟩) (fun h=>by omega),fun hb=>by obtain ⟨m,h2⟩:=h2 hb;exact ⟨_ :: m,by rw [h2,List.append_assoc];rfl⟩,by simp at h3;omega⟩
    by_cases q2 : a + 1 + n > t.size
    ·exact ⟨[],false,iTokS t ht a acc _ hl ha n hn e (fun h=>by omega) (fun _=>⟨fun _=>rfl,fun h=>by omega⟩),(fun h=>by cases h),by simp⟩
    obtain ⟨L,b,h1,h2,h3⟩:=iTot t ht d (a + 1 + n) (acc ++ [⟨0,0,t.extract (a + 1) (a + 1 + n)⟩]) (by omega) (by simp;omega);exact ⟨L,b,iTokS t ht a acc _ hl ha n hn e (fun h=>by omega) (fun _=>⟨fun h=>by omega,fun _=>h1⟩),fun hb=>by obtain ⟨m,h2⟩:=h2 hb;exact ⟨_ :: m,by rw [h2,List.append_assoc];rfl⟩,by simp at h3;omega⟩
  exact ⟨acc,true,iEnd t a acc ha,fun _=>⟨[],by simp⟩,by omega⟩
def Agree (Ls : List Tk) (bs : Bool) (Li : List Tk) (bi : Bool) : Prop:=(Ls = Li ∧ bs = bi) ∨ ((bs = false ∨ (plainL Ls []).2 = false) ∧ (bi = false ∨ (plainL Li []).2 = false))
theorem bothTok (t : ByteArray) (ht : t.size ≤ 1000000) : ∀ (d a : Nat) (acc : List Tk),t.size ≤ a + d → acc.length ≤ a →
  ∃ Ls bs Li bi,Ev (fun k=>spec_l04Tokens.c3 k t (a : Int) acc) (Ls,bs) ∧ Ev (fun k=>impl_tokensIn.c2 k (t.extract a t.size) acc) (Li,bi) ∧ Agree Ls bs Li bi ∧ Ls.length ≤ acc.length + d ∧ Li.length ≤ acc.length + d
 | d,a,acc,hd,hl=>by
  by_cases ha : a < t.size
  ·cases d with
   | zero=>omega
   | succ d =>
    obtain ⟨n,hn,e⟩:=byte_rng t a
    by_cases q : n > 128
    ·by_cases q2 : a + 2 > t.size
     ·exact ⟨acc,false,[],false,sTokS t ht a acc _ hl ha n hn e (fun _=>⟨fun _=>rfl,fun h=>by omega⟩) (fun h=>by omega),iTokS t ht a acc _ hl ha n hn e (fun _=>⟨fun _=>rfl,fun h=>by omega⟩) (fun h=>by omega),.inr ⟨.inl rfl,.inl rfl⟩,by omega,by simp⟩
     obtain ⟨Ls,bs,Li,bi,h1,h2,h3,h4,h5⟩:=bothTok t ht d (a + 2) (acc ++ [⟨M2.w64 (bt t ((a + 1 : Nat) : Int)),(n : Int) - 128,⟨#[]⟩⟩]) (by omega) (by simp;omega);exact ⟨Ls,bs,Li,bi,sTokS t ht a acc _ hl ha n hn e (fun _=>⟨fun h=>by omega,fun _=>h1⟩) (fun h=>by omega),iTokS t ht a acc _ hl ha n hn e (fun _=>⟨fun h=>by omega,fun _=>h2⟩) (fun h=>by omega),h3,by simp at h4;omega,by simp at h5;omega⟩
    by_cases q3 : n = 128
    ·subst q3
     have S : ∃ Ls bs,Ev (fun k=>spec_l04Tokens.c3 k t (a : Int) acc) (Ls,bs) ∧ (bs = false ∨ (plainL Ls []).2 = false) ∧ Ls.length ≤ acc.length + (d + 1):=by
      by_cases q2 : a + 1 + 128 > t.size
      ·exact ⟨acc,false,sTokS t ht a acc _ hl ha 128 hn e (fun h=>by omega) (fun _=>⟨fun _=>rfl,fun h=>by omega⟩),.inl rfl,by omega⟩
      obtain ⟨L,b,h1,⟨m,h2⟩,h3⟩:=sTot t ht d (a + 1 + 128) (acc ++ [⟨0,0,t.extract (a + 1) (a + 1 + 128)⟩]) (by omega) (by simp;omega);refine ⟨L,b,sTokS t ht a acc _ hl ha 128 hn e (fun h=>by omega) (fun _=>⟨fun h=>by omega,fun _=>h1⟩),.inr ?_,by simp at h3;omega⟩;rw [h2,List.append_assoc]
      exact plain_bad acc _ m [] ⟨fun _ hh=>by
       have h9:=hh.2.2;have h8 : (t.extract (a + 1) (a + 1 + 128)).size = 128:=by rw [ByteArray.size_extract];omega
       have h7 : (t.extract (a + 1) (a + 1 + 128)).size ≤ 31:=h9
       omega,fun hh=>absurd rfl hh⟩
     have I : ∃ Li bi,Ev (fun k=>impl_tokensIn.c2 k (t.extract a t.size) acc) (Li,bi) ∧ (bi = false ∨ (plainL Li []).2 = false) ∧ Li.length ≤ acc.length + (d + 1):=by
      by_cases q2 : a + 2 > t.size
      ·exact ⟨[],false,iTokS t ht a acc _ hl ha 128 hn e (fun _=>⟨fun _=>rfl,fun h=>by omega⟩) (fun h=>by omega),.inl rfl,by simp⟩
      obtain ⟨L,b,h1,h2,h3⟩:=iTot t ht d (a + 2) (acc ++ [⟨M2.w64 (bt t ((a + 1 : Nat) : Int)),((128 : Nat) : Int) - 128,⟨#[]⟩⟩]) (by omega) (by simp;omega);refine ⟨L,b,iTokS t ht a acc _ hl ha 128 hn e (fun _=>⟨fun h=>by omega,fun _=>h1⟩) (fun h=>by omega),?_,by simp at h3;omega⟩;cases b with
      | false=>exact .inl rfl
      | true =>
       right
       obtain ⟨m,h2⟩:=h2 rfl;rw [h2,List.append_assoc]
       exact plain_bad acc _ m [] ⟨fun _ hh=>by
        have h9:=hh.2.1;have h7 : 1 ≤ (⟨#[]⟩ : ByteArray).size:=h9;exact absurd h7 (by decide),fun _ hh=>by
        have h7 : 1 ≤ ((128 : Nat) : Int) - 128:=hh.1
        omega⟩
     obtain ⟨Ls,bs,s1,s2,s3⟩:=S;obtain ⟨Li,bi,i1,i2,i3⟩:=I;exact ⟨Ls,bs,Li,bi,s1,i1,.inr ⟨s2,i2⟩,s3,i3⟩
    by_cases q2 : a + 1 + n > t.size
    ·exact ⟨acc,false,[],false,sTokS t ht a acc _ hl ha n hn e (fun h=>by omega) (fun _=>⟨fun _=>rfl,fun h=>by omega⟩),iTokS t ht a acc _ hl ha n hn e (fun h=>by omega) (fun _=>⟨fun _=>rfl,fun h=>by omega⟩),.inr ⟨.inl rfl,.inl rfl⟩,by omega,by simp⟩
    obtain ⟨Ls,bs,Li,bi,h1,h2,h3,h4,h5⟩:=bothTok t ht d (a + 1 + n) (acc ++ [⟨0,0,t.extract (a + 1) (a + 1 + n)⟩]) (by omega) (by simp;omega);exact ⟨Ls,bs,Li,bi,sTokS t ht a acc _ hl ha n hn e (fun h=>by omega) (fun _=>⟨fun h=>by omega,fun _=>h1⟩),iTokS t ht a acc _ hl ha n hn e (fun h=>by omega) (fun _=>⟨fun h=>by omega,fun _=>h2⟩),h3,by simp at h4;omega,by simp at h5;omega⟩
  refine ⟨acc,true,acc,true,?_,iEnd t a acc ha,.inl ⟨rfl,rfl⟩,by omega,by omega⟩;refine Ev.step (f:=fun _=>some _) (fun k=>?_) (Ev.now _);rw [spec_l04Tokens.c3,if_neg (by omega)]
theorem emp_size {s : ByteArray} : s = ⟨#[]⟩ ↔ s.size = 0:=⟨fun h=>by rw [h];rfl,fun h=>byt_inj (List.length_eq_zero_iff.1 (by rw [byt_len];exact h))⟩
open Classical in
noncomputable def heldT (s a : ByteArray) : ByteArray × Bool:=if (packV s).2 = true ∧ (packV s).1 = a then (s,true) else badT
theorem held_ev {f : Nat → Option (ByteArray × Bool)} {s a : ByteArray} (h : Ev f (packV s)) : Ev (fun k=>(f k).bind fun t3=>if t3.2 = true then (if M2.seq t3.1 a = true then some (s,true) else some badT) else some badT) (heldT s a):=by
 refine Ev.bind h ?_;unfold heldT
 by_cases h1 : (packV s).2 = true
 ·refine ev_pos h1 ?_
  by_cases h2 : (packV s).1 = a
  ·rw [if_pos (show (packV s).2 = true ∧ (packV s).1 = a from ⟨h1,h2⟩)];exact ev_pos (by rw [seq_iff];exact h2) (Ev.now _)
  rw [if_neg (show ¬ ((packV s).2 = true ∧ (packV s).1 = a) from fun h=>h2 h.2)];exact ev_neg (by rw [seq_iff];exact h2) (Ev.now _)
 rw [if_neg (show ¬ ((packV s).2 = true ∧ (packV s).1 = a) from fun h=>h1 h.1)];exact ev_neg h1 (Ev.now _)
theorem held_no {s a : ByteArray} (h1 : bt a 0 ≠ 114) (h2 : bt a 0 ≠ 122) : heldT s a = badT:=by
 unfold heldT;rw [if_neg];rintro ⟨q1,q2⟩;rcases pack_first q1 q2 with h | h
 ·exact h1 h
 exact h2 h
noncomputable def tokHeld (L : List Tk) (b : Bool) (a : ByteArray) : ByteArray × Bool:=if b = true then (if (plainL L []).2 = true then heldT (plainL L []).1 a else badT) else badT
theorem unpackX (a : ByteArray) (ha : a.size ≤ 1000000) : ∃ r,Ev (fun k=>spec_UnpackText.f k a) r ∧ Ev (fun k=>impl_UnpackText.f k a) r:=by
 simp only [spec_UnpackText.f,impl_UnpackText.f]
 by_cases h0 : a.size = 0
 ·exact ⟨badT,ev_pos (by omega) (Ev.now _),ev_pos (by rw [seq_iff,emp_size];exact h0) (Ev.now _)⟩
 have hne : ¬ M2.seq a (⟨#[]⟩ : ByteArray) = true:=by rw [seq_iff,emp_size];exact h0
 have hz:=from_size a (show 1 ≤ a.size by omega)
 -- the two ways, whatever the first byte is
 have SP : Ev (fun k=>(spec_PackText.f k (a.extract 1 a.size)).bind fun t4=>if t4.2 = true then (if M2.seq t4.1 a = true then some (a.extract 1 a.size,true) else some badT) else some badT) (heldT (a.extract 1 a.size) a):=held_ev (sPackText _);have IP : Ev (fun k=>(impl_PackText.f k (a.extract 1 a.size)).bind fun t4=>if t4.2 = true then (if M2.seq t4.1 a = true then some (a.extract 1 a.size,true) else some badT) else some badT) (heldT (a.extract 1 a.size) a):=held_ev (iPackText _);obtain ⟨Ls,bs,Li,bi,t1,t2,t3,t4,t5⟩:=bothTok (a.extract 1 a.size) (by omega) (a.extract 1 a.size).size 0 [] (by omega) (by simp);rw [ext_all] at t2;have ls : Ls.length ≤ 1099511627776:=by simp at t4;omega
 have li : Li.length ≤ 1099511627776:=by simp at t5;omega
 have ST : Ev (fun k=>(spec_l04Tokens.f k (a.extract 1 a.size)).bind fun t1=>(spec_PlainOf.f k t1.1).bind fun t2=>if t1.2 = true then (if t2.2 = true then ((spec_PackText.f k t2.1).bind fun t3=>if t3.2 = true then (if M2.seq t3.1 a = true then some (t2.1,true) else some badT) else some badT) else some badT) else some badT) (tokHeld Ls bs a):=by
  refine Ev.bind (a:=(Ls,bs)) (by simp only [spec_l04Tokens.f];exact t1) (Ev.bind (sPlainOf Ls ls) ?_);unfold tokHeld
  by_cases h1 : bs = true
  ·rw [if_pos h1];refine ev_pos h1 ?_
   by_cases h2 : (plainL Ls []).2 = true
   ·rw [if_pos h2];exact ev_pos h2 (held_ev (sPackText _))
   rw [if_neg h2];exact ev_neg h2 (Ev.now _)
  rw [if_neg h1];exact ev_neg h1 (Ev.now _)
 have IT : Ev (fun k=>(impl_tokensIn.f k (a.extract 1 a.size)).bind fun t1=>(impl_PlainOf.f k t1.1).bind fun t2=>if t1.2 = true then (if t2.2 = true then ((impl_PackText.f k t2.1).bind fun t3=>if t3.2 = true then (if M2.seq t3.1 a = true then some (t2.1,true) else some badT) else some badT) else some badT) else some badT) (tokHeld Li bi a):=by
  refine Ev.bind (a:=(Li,bi)) (by simp only [impl_tokensIn.f];exact t2) (Ev.bind (iPlainOf Li li) ?_);unfold tokHeld
  by_cases h1 : bi = true
  ·rw [if_pos h1];refine ev_pos h1 ?_
   by_cases h2 : (plainL Li []).2 = true
   ·rw [if_pos h2];exact ev_pos h2 (held_ev (iPackText _))
   rw [if_neg h2];exact ev_neg h2 (Ev.now _)
  rw [if_neg h1];exact ev_neg h1 (Ev.now _)
 have hsame : tokHeld Ls bs a = tokHeld Li bi a:=by
  rcases t3 with ⟨rfl,rfl⟩ | ⟨q1,q2⟩
  ·rfl
  have z : ∀ (L : List Tk) (b : Bool),(b = false ∨ (plainL L []).2 = false) → tokHeld L b a = badT:=by
   intro L b q;unfold tokHeld;rcases q with q | q
   ·rw [q];rfl
   rw [q];split <;> rfl
  rw [z _ _ q1,z _ _ q2]
 by_cases hr : bt a 0 = 114
 ·exact ⟨_,ev_neg (by omega) (ev_pos (by omega) (ev_pos (by omega) (ev_neg (by rw [hr];decide) SP))),ev_neg hne (ev_pos (by omega) (ev_pos (by omega) (ev_pos hr IP)))⟩
 by_cases hzz : bt a 0 = 122
 ·refine ⟨_,ev_neg (by omega) (ev_pos (by omega) (ev_pos (by omega) (ev_pos hzz (ev_pos (by omega) ST)))),ev_neg hne (ev_pos (by omega) (ev_pos (by omega) (ev_neg hr ?_)))⟩;rw [hsame];exact IT
 have e : tokHeld Li bi a = heldT (a.extract 1 a.size) a:=by
  rw [held_no hr hzz];unfold tokHeld
  split
  ·split
   ·exact held_no hr hzz
   rfl
  rfl
 refine ⟨_,ev_neg (by omega) (ev_pos (by omega) (ev_pos (by omega) (ev_neg hzz SP))),ev_neg hne (ev_pos (by omega) (ev_pos (by omega) (ev_neg hr ?_)))⟩;rw [← e];exact IT
end Go.Proofs.YtbbfkodckpfjcaaGreat.M2.Mp

namespace Go.Proofs.YtbbfkodckpfjcaaGreat.M2.Mp
set_option linter.unusedVariables false
set_option linter.unusedSimpArgs false
open Go.RowKit Go.Proofs.YtbbfkodckpfjcaaGreat.PK Go.Proofs.YtbbfkodckpfjcaaGreatW.PrintWords Go.Proofs.YtbbfkodckpfjcaaGreat.Pu Go.Proofs.YtbbfkodckpfjcaaGreat.St
theorem pageT_size (t : ByteArray) : (pageT t).2.2.2.2.2.1.size ≤ 20000:=by
 have hz:=(unsealed_size t).1;have h0 : noPage.2.2.2.2.2.1.size ≤ 20000:=Nat.zero_le _;unfold pageT
 split
 ·unfold pageIn
  split
  ·split
   ·split
    ·split
     ·split
      ·show ((unsealed t).1.extract _ (unsealed t).1.size).size ≤ 20000;rw [ByteArray.size_extract];omega
      exact h0
     exact h0
    exact h0
   exact h0
  exact h0
 exact h0
theorem leavesF_text (b : Int) : ∀ (i : Nat) (l : List S96) (x : S75),x ∈ leavesF b i l → x.f2.f5.size ≤ 20000
 | _,[],x,h=>by simp [leavesF] at h
 | i,y :: l,x,h=>by
  rw [leavesF,List.mem_append] at h;rcases h with h | h
  ·unfold leafF at h
   split at h
   ·simp at h;subst h;exact pageT_size _
   simp at h
  exact leavesF_text b (i + 1) l x h
theorem blocksF_text : ∀ (l : List S68) (b : Nat) (x : S75),x ∈ blocksF b l → x.f2.f5.size ≤ 20000
 | [],_,x,h=>by simp [blocksF] at h
 | y :: l,b,x,h=>by
  rw [blocksF,List.mem_append] at h;rcases h with h | h
  ·exact leavesF_text _ _ _ x h
  exact blocksF_text l (b + 1) x h
theorem scan_text (bs : List S68) : ∀ x ∈ scanV bs,x.f2.f5.size ≤ 20000:=by
 intro x hx;unfold scanV isort at hx;rcases mem_mrg.1 hx with h | h
 ·simp at h
 exact blocksF_text bs 0 x h
theorem lastM_mem (c : Int) : ∀ (l : List S75) (o : Option S75) (x : S75),lastM c o l = some x → x ∈ l ∨ o = some x
 | [],o,x,h=>.inr h
 | y :: l,o,x,h=>by
  rw [lastM] at h;rcases lastM_mem c l _ x h with h | h
  ·exact .inl (by simp [h])
  split at h
  ·cases h;exact .inl (by simp)
  exact .inr h
theorem data_text (bs : List S68) (c : Int) : (bz (dataV bs c)).f2.f5.size ≤ 20000:=by
 unfold dataV;cases h : lastM c none (scanV bs) with
 | none=>exact Nat.zero_le _
 | some x =>
  rcases lastM_mem c _ _ x h with h2 | h2
  ·exact scan_text bs x h2
  cases h2
theorem chunkX (bs : List S68) (c : Int) (h : FlashB bs) : ∃ r : ByteArray × Bool,Ev (fun k=>spec_l13Text.f k (scanV bs) c) r ∧ Ev (fun k=>impl_ChunkText.f k bs c) r:=by
 simp only [spec_l13Text.f,impl_ChunkText.f];have hs:=sNewest (scanV bs) c (scan_len h);have hi:=iDataOf bs c h;obtain ⟨u,u1,u2⟩:=unpackX (bz (dataV bs c)).f2.f5 (by have:=data_text bs c;omega)
 by_cases q : (dataV bs c).isSome = true
 ·exact ⟨u,Ev.bind hs (ev_pos q (Ev.bind u1 (Ev.now _))),Ev.bind hi (ev_pos q (Ev.bind u2 (Ev.now _)))⟩
 exact ⟨badT,Ev.bind hs (ev_neg q (Ev.now _)),Ev.bind hi (ev_neg q (Ev.now _))⟩
end Go.Proofs.YtbbfkodckpfjcaaGreat.M2.Mp

namespace Go.Proofs.YtbbfkodckpfjcaaGreat.Pu
set_option linter.unusedVariables false
set_option linter.unusedSimpArgs false
open Go.RowKit Go.Proofs.YtbbfkodckpfjcaaGreat.PK Go.Proofs.YtbbfkodckpfjcaaGreatW.PrintWords
theorem rd_nat (l : List Int) (i : Nat) : rd l (i : Int) = l.getD i 0:=rfl
theorem rdLK_nat (l : List S119) (i : Nat) : rd_T119 l (i : Int) = l.getD i z119:=rfl
theorem rdIK_nat (l : List S128) (i : Nat) : rd_T128 l (i : Int) = l.getD i z128:=rfl
def toK (x : S119) : S128:=⟨x.f0,x.f1⟩
def toA (l : List S119) : List S128:=l.map toK
theorem toIntS_ev (l : List Int) (h : l.length ≤ 35184372088832) : Ev (fun k=>laws_toIntS.f k l) l:=by
 have hn : l.length ≤ 9223372036854775807:=by omega
 have h1:=ev_fill_all (E:=fun _ i=>some (rd l i)) (l:=l) (z:=0) (g:=fun x=>x) (xs:=List.replicate l.length 0) (L:=fun k xs i=>laws_toIntS.l0 k l xs i) hn (fun k xs i=>by
  simp only [laws_toIntS.l0,Option.bind_some]) (fun i _=>by rw [rd_nat];exact Ev.now _) (by simp)
 rw [List.map_id'] at h1;refine ev_ext (fun k=>?_) h1;unfold laws_toIntS.f;rw [if_pos (by omega),if_pos (by simpa using h)];simp
theorem toKnot_ev (b : Bool) (l : List Int) (h : l.length ≤ 35184372088832) : Ev (fun k=>laws_toKnot.f k b l) (b,l):=by
 unfold laws_toKnot.f;exact ev_bind (toIntS_ev l h) (Ev.now _)
theorem toKnotS_ev (l : List S119) (h : l.length ≤ 8796093022208) (hk : ∀ x ∈ l,x.f1.length ≤ 35184372088832) : Ev (fun k=>laws_toKnotS.f k l) (toA l):=by
 have hn : l.length ≤ 9223372036854775807:=by omega
 have h1:=ev_fill_all (E:=fun k i=>(laws_toKnot.f k (rd_T119 l i).f0 (rd_T119 l i).f1).bind fun bt=>some (⟨bt.1,bt.2⟩ : S128)) (l:=l) (z:=z119) (g:=toK) (xs:=List.replicate l.length z128) (L:=fun k xs i=>laws_toKnotS.l0 k l xs i) hn (fun k xs i=>by
  simp only [laws_toKnotS.l0,Option.bind_assoc,Option.bind_some]) (fun i hi=>by
   rw [rdLK_nat];have hm : l.getD i z119 ∈ l:=by rw [List.getD_eq_getElem?_getD,List.getElem?_eq_getElem hi];exact List.getElem_mem hi
   exact ev_bind (toKnot_ev _ _ (hk _ hm)) (Ev.now _)) (by simp)
 refine ev_ext (fun k=>?_) h1;unfold laws_toKnotS.f;rw [if_pos (by omega),if_pos (by simpa using h)];simp
theorem toArena_ev (l : List S119) (h : l.length ≤ 8796093022208) (hk : ∀ x ∈ l,x.f1.length ≤ 35184372088832) : Ev (fun k=>laws_toArena.f k l) (toA l):=by
 unfold laws_toArena.f;exact ev_bind (toKnotS_ev l h hk) (Ev.now _)
theorem eqIntS_ev (l : List Int) (hn : l.length ≤ 9223372036854775807) : Ev (fun k=>laws_eqIntS.f k l l) true:=by
 have h1:=ev_all (n:=l.length) (m:=l.length) (L:=fun k i=>laws_eqIntS.l0 k l l i) (E:=fun _ _=>some true) hn (Nat.le_refl _) (fun k i=>by simp [laws_eqIntS.l0]) (fun i _=>Ev.now _) l.length 0 (by omega);refine ev_ext (fun k=>?_) h1;unfold laws_eqIntS.f;rw [if_pos rfl];rfl
theorem eqKnot_ev (b : Bool) (l : List Int) (hn : l.length ≤ 9223372036854775807) : Ev (fun k=>laws_eqKnot.f k b l b l) true:=by
 unfold laws_eqKnot.f;simp only [bne_self_eq_false,Bool.false_eq_true,if_false];exact ev_bind (eqIntS_ev l hn) (by simp only [if_true];exact Ev.now _)
theorem eqKnotS_ev (l : List S128) (hn : l.length ≤ 9223372036854775807) (hk : ∀ x ∈ l,x.f1.length ≤ 9223372036854775807) : Ev (fun k=>laws_eqKnotS.f k l l) true:=by
 have h1:=ev_all (n:=l.length) (m:=l.length) (L:=fun k i=>laws_eqKnotS.l0 k l l i) (E:=fun k i=>laws_eqKnot.f k (rd_T128 l i).f0 (rd_T128 l i).f1 (rd_T128 l i).f0 (rd_T128 l i).f1) hn (Nat.le_refl _) (fun k i=>by simp only [laws_eqKnotS.l0]) (fun i hi=>by
  rw [rdIK_nat];have hm : l.getD i z128 ∈ l:=by rw [List.getD_eq_getElem?_getD,List.getElem?_eq_getElem hi];exact List.getElem_mem hi
  exact eqKnot_ev _ _ (hk _ hm)) l.length 0 (by omega)
 refine ev_ext (fun k=>?_) h1;unfold laws_eqKnotS.f;rw [if_pos rfl];rfl
theorem eqArena_ev (l : List S128) (hn : l.length ≤ 9223372036854775807) (hk : ∀ x ∈ l,x.f1.length ≤ 9223372036854775807) : Ev (fun k=>laws_eqArena.f k l l) true:=by
 unfold laws_eqArena.f;exact ev_bind (eqKnotS_ev l hn hk) (by simp only [if_true];exact Ev.now _)
theorem szIntS_eq (l : List Int) (a : Int) (h0 : 0 ≤ a) (h1 : a ≤ 1048576) (hn : l.length ≤ 9223372036854775807) : ∃ t,laws_szIntS.f l a = some t ∧ t ≤ a ∧ (0 ≤ t → (l.length : Int) ≤ a):=by
 unfold laws_szIntS.f;rw [w64 (by omega) (by omega)]
 by_cases h : a - (l.length : Int) < 0
 ·exact ⟨-1,by rw [if_pos h],by omega,fun h2=>by omega⟩
 exact ⟨_,by rw [if_neg h],by omega,fun _=>by omega⟩
theorem szKnot_eq (b : Bool) (l : List Int) (a : Int) (h0 : 0 ≤ a) (h1 : a ≤ 1048576) (hn : l.length ≤ 9223372036854775807) : ∃ t,laws_szKnot.f b l a = some t ∧ t ≤ a ∧ (0 ≤ t → (l.length : Int) ≤ a):=by
 obtain ⟨t,ht,hta,hp⟩:=szIntS_eq l a h0 h1 hn;unfold laws_szKnot.f;rw [ht];simp only [Option.bind_some]
 by_cases h : t < 0
 ·exact ⟨-1,by rw [if_pos h],by omega,fun h2=>by omega⟩
 exact ⟨t,by rw [if_neg h],hta,hp⟩
theorem szKnotS_ev (l : List S119) (a : Int) (h0 : 0 ≤ a) (h1 : a ≤ 1048576) (hn : l.length ≤ 9223372036854775807) (hk : ∀ x ∈ l,x.f1.length ≤ 9223372036854775807) :
  ∃ r,Ev (fun k=>laws_szKnotS.f k l a) r ∧ r ≤ a ∧ (0 ≤ r → (l.length : Int) ≤ a ∧ ∀ x ∈ l,(x.f1.length : Int) ≤ 1048576):=by
 by_cases h : a - (l.length : Int) < 0
 ·refine ⟨-1,⟨0,fun k _=>?_⟩,by omega,fun h2=>by omega⟩;show laws_szKnotS.f k l a = _;unfold laws_szKnotS.f;rw [w64 (by omega) (by omega),if_pos h]
 obtain ⟨r,hr,hra,hq⟩:=ev_size (n:=l.length) (L:=fun k a i=>laws_szKnotS.l0 k l a i) (E:=fun _ i a=>laws_szKnot.f (rd_T119 l i).f0 (rd_T119 l i).f1 a) (P:=fun i=>((l.getD i z119).f1.length : Int) ≤ 1048576) hn (fun k a i=>by simp only [laws_szKnotS.l0])
  (fun i a hi h2 h3=>by
   have hm : l.getD i z119 ∈ l:=by rw [List.getD_eq_getElem?_getD,List.getElem?_eq_getElem hi];exact List.getElem_mem hi
   obtain ⟨t,ht,hta,hp⟩:=szKnot_eq (rd_T119 l i).f0 (rd_T119 l i).f1 a h2 h3 (by rw [rdLK_nat];exact hk _ hm)
   exact ⟨t,ev_const ht,hta,fun h4=>by have:=hp h4;rw [rdLK_nat] at this;omega⟩) l.length 0 (a - (l.length : Int)) (by omega) (by omega) (by omega)
 refine ⟨r,ev_ext (fun k=>?_) hr,by omega,fun h2=>⟨by omega,fun x hx=>?_⟩⟩
 ·unfold laws_szKnotS.f;rw [w64 (by omega) (by omega),if_neg h];rfl
 obtain ⟨i,hi,rfl⟩:=List.getElem_of_mem hx;have:=hq h2 i (by omega) hi
 rwa [List.getD_eq_getElem?_getD,List.getElem?_eq_getElem hi] at this
theorem szArena_ev (l : List S119) (a : Int) (h0 : 0 ≤ a) (h1 : a ≤ 1048576) (hn : l.length ≤ 9223372036854775807) (hk : ∀ x ∈ l,x.f1.length ≤ 9223372036854775807) :
  ∃ r,Ev (fun k=>laws_szArena.f k l a) r ∧ r ≤ a ∧ (0 ≤ r → (l.length : Int) ≤ a ∧ ∀ x ∈ l,(x.f1.length : Int) ≤ 1048576):=by
 obtain ⟨r,hr,hra,hq⟩:=szKnotS_ev l a h0 h1 hn hk
 by_cases h : r < 0
 ·exact ⟨-1,by unfold laws_szArena.f;exact ev_bind hr (by simp only [if_pos h];exact Ev.now _),by omega,fun h2=>by omega⟩
 exact ⟨r,by unfold laws_szArena.f;exact ev_bind hr (by simp only [if_neg h];exact Ev.now _),hra,hq⟩
end Go.Proofs.YtbbfkodckpfjcaaGreat.Pu

namespace Go.Proofs.YtbbfkodckpfjcaaGreat.Pu
set_option linter.unusedVariables false
set_option linter.unusedSimpArgs false
open Go.RowKit Go.Proofs.YtbbfkodckpfjcaaGreat.PK Go.Proofs.YtbbfkodckpfjcaaGreatW.PrintWords
theorem in_eq (a l h : Int) : impl_in.f a l h = some (decide (l ≤ a ∧ a ≤ h)):=by
 unfold impl_in.f
 by_cases h1 : a ≥ l
 ·rw [if_pos h1];congr 1;simp;omega
 rw [if_neg h1];congr 1;simp;omega
theorem l01In_eq (a l h : Int) : spec_l01In.f a l h = some (decide (l ≤ a ∧ a ≤ h)):=by
 unfold spec_l01In.f
 by_cases h1 : a ≥ l
 ·rw [if_pos h1];congr 1;simp;omega
 rw [if_neg h1];congr 1;simp;omega
def kidB (l : List S128) (i : Nat) (leaf : Bool) (n : Int) : Bool :=
 if leaf = true then decide (0 ≤ n) else decide (n = -1) || (decide (0 ≤ n ∧ n ≤ (i : Int) - 1) && (l.getD n.toNat z128).f0)
def knotB (l : List S128) (i : Nat) (x : S128) : Bool:=decide (x.f1.length = 4) && x.f1.all (kidB l i x.f0)
def arenaB (l : List S128) : Bool:=(List.range' 0 l.length).all fun i=>knotB l i (l.getD i z128)
theorem sArena_step (k : Nat) (kids : List Int) (i j : Nat) (a : List S128) (leaf : Bool) (hi : i < a.length) (hn : a.length ≤ 9223372036854775807) (hj : j < 4) (hk : kids.length = 4) :
  spec_ArenaOk.l1 (k + 1) i j a leaf kids = if kidB a i leaf (kids.getD j 0) = true then spec_ArenaOk.l1 k i ((j + 1 : Nat) : Int) a leaf kids else some false:=by
 simp only [spec_ArenaOk.l1];rw [if_pos (by omega),if_pos (by omega),if_pos (by omega),wsucc (n:=4) hj (by omega),w64 (x:=(i : Int) - 1) (by omega) (by omega),rd_nat];generalize kids.getD j 0 = n;unfold kidB;cases leaf with
 | true=>by_cases h : n < 0 <;> simp [h] <;> omega
 | false =>
  simp only [Bool.false_eq_true,if_false,l01In_eq,Option.bind_some,decide_eq_true_eq]
  by_cases h1 : n = -1
  ·simp [h1]
  by_cases h2 : 0 ≤ n ∧ n ≤ (i : Int) - 1
  ·rw [if_neg h1,if_pos h2,if_pos h2.1,if_pos (by omega)];simp [h1,h2,rd_T128]
  simp [h1,h2]
theorem iArena_step (k : Nat) (kids : List Int) (i j : Nat) (a : List S128) (leaf : Bool) (hi : i < a.length) (hn : a.length ≤ 9223372036854775807) (hj : j < 4) (hk : kids.length = 4) :
  impl_ArenaOk.l1 (k + 1) i a a.length i kids kids.length j a leaf kids = if kidB a i leaf (kids.getD j 0) = true then impl_ArenaOk.l1 k i a a.length i kids kids.length ((j + 1 : Nat) : Int) a leaf kids else some false:=by
 simp only [impl_ArenaOk.l1];rw [if_pos (by omega),if_pos (by omega),if_pos (by omega),wsucc (n:=4) hj (by omega),w64 (x:=(i : Int) - 1) (by omega) (by omega),rd_nat];generalize kids.getD j 0 = n;unfold kidB;cases leaf with
 | true=>by_cases h : n < 0 <;> simp [h] <;> omega
 | false =>
  simp only [Bool.false_eq_true,if_false,in_eq,Option.bind_some,decide_eq_true_eq]
  by_cases h1 : n = -1
  ·simp [h1]
  by_cases h2 : 0 ≤ n ∧ n ≤ (i : Int) - 1
  ·rw [if_neg h1,if_pos h2,if_pos h2.1,if_pos (by omega)];simp [h1,h2,rd_T128]
  simp [h1,h2]
theorem ev_kids {L : Nat → Int → Option Bool} {g : Nat → Option Bool} {kids : List Int} {T : Int → Bool} {r : Bool} (hk : kids.length = 4)
  (hs : ∀ k j,j < 4 → L (k + 1) ((j : Nat) : Int) = if T (kids.getD j 0) = true then L k ((j + 1 : Nat) : Int) else some false) (he : ∀ k,L (k + 1) 4 = g k) (hr : Ev g r) :
  ∀ (d j : Nat),j + d = 4 → Ev (fun k=>L k (j : Int)) ((kids.drop j).all T && r):=by
 intro d
 induction d with
 | zero =>
  intro j hj;obtain rfl : j = 4:=by omega
  refine Ev.step (f:=g) (fun k=>he k) ?_;rw [List.drop_eq_nil_of_le (by omega)];exact hr
 | succ d ih =>
  intro j hj;have hjl : j < kids.length:=by omega
  rw [List.drop_eq_getElem_cons hjl,List.all_cons];have e : kids.getD j 0 = kids[j]:=by rw [List.getD_eq_getElem?_getD,List.getElem?_eq_getElem hjl];rfl
  by_cases h : T kids[j] = true
  ·rw [h,Bool.true_and];exact Ev.step (f:=fun k=>L k ((j + 1 : Nat) : Int)) (fun k=>by rw [hs k j (by omega),e,if_pos h]) (ih (j + 1) (by omega))
  rw [Bool.eq_false_iff.mpr h,Bool.false_and,Bool.false_and];exact ev_some fun k=>by rw [hs k j (by omega),e,if_neg h]
theorem sArena_ev (a : List S128) (hn : a.length ≤ 9223372036854775807) : Ev (fun k=>spec_ArenaOk.f k a) (arenaB a):=by
 have main : ∀ (d i : Nat),i + d = a.length → Ev (fun k=>spec_ArenaOk.l0 k (i : Int) a) ((List.range' i d).all fun i=>knotB a i (a.getD i z128)):=by
  intro d
  induction d with
  | zero=>intro i hi;exact ev_some fun k=>by simp only [spec_ArenaOk.l0];rw [if_neg (by omega)];rfl
  | succ d ih =>
   intro i hi;rw [List.range'_succ,List.all_cons];unfold knotB
   by_cases h4 : (a.getD i z128).f1.length = 4
   ·rw [decide_eq_true h4,Bool.true_and]
    have h:=ev_kids (L:=fun k j=>spec_ArenaOk.l1 k i j a (a.getD i z128).f0 (a.getD i z128).f1) (T:=kidB a i (a.getD i z128).f0) h4 (fun k j hj=>sArena_step k (a.getD i z128).f1 i j a _ (by omega) hn hj h4)
     (g:=fun k=>spec_ArenaOk.l0 k ((i + 1 : Nat) : Int) a) (fun k=>by simp only [spec_ArenaOk.l1];rw [if_neg (by omega),wsucc (n:=a.length) (by omega) hn]) (ih (i + 1) (by omega)) 4 0 rfl
    refine Ev.step (fun k=>?_) h;simp only [spec_ArenaOk.l0];rw [if_pos (by omega),if_pos (by omega),rdIK_nat,if_pos (by omega)];rfl
   rw [decide_eq_false h4,Bool.false_and,Bool.false_and];refine ev_some fun k=>?_;simp only [spec_ArenaOk.l0];rw [if_pos (by omega),if_pos (by omega),rdIK_nat,if_neg (by omega)]
 exact main a.length 0 (by omega)
theorem iArena_ev (a : List S128) (hn : a.length ≤ 9223372036854775807) : Ev (fun k=>impl_ArenaOk.f k a) (arenaB a):=by
 have main : ∀ (d i : Nat),i + d = a.length → Ev (fun k=>impl_ArenaOk.l0 k a a.length (i : Int) a) ((List.range' i d).all fun i=>knotB a i (a.getD i z128)):=by
  intro d
  induction d with
  | zero=>intro i hi;exact ev_some fun k=>by simp only [impl_ArenaOk.l0];rw [if_neg (by omega)];rfl
  | succ d ih =>
   intro i hi;rw [List.range'_succ,List.all_cons];unfold knotB
   by_cases h4 : (a.getD i z128).f1.length = 4
   ·rw [decide_eq_true h4,Bool.true_and]
    have h:=ev_kids (L:=fun k j=>impl_ArenaOk.l1 k i a a.length i (a.getD i z128).f1 (a.getD i z128).f1.length j a (a.getD i z128).f0 (a.getD i z128).f1) (T:=kidB a i (a.getD i z128).f0) h4 (fun k j hj=>iArena_step k (a.getD i z128).f1 i j a _ (by omega) hn hj h4)
     (g:=fun k=>impl_ArenaOk.l0 k a a.length ((i + 1 : Nat) : Int) a) (fun k=>by simp only [impl_ArenaOk.l1];rw [if_neg (by omega),wsucc (n:=a.length) (by omega) hn]) (ih (i + 1) (by omega)) 4 0 rfl
    refine Ev.step (fun k=>?_) h;simp only [impl_ArenaOk.l0];rw [if_pos (by omega),if_pos (by omega),if_pos (by omega),rdIK_nat,if_pos (by omega)];rfl
   rw [decide_eq_false h4,Bool.false_and,Bool.false_and];refine ev_some fun k=>?_;simp only [impl_ArenaOk.l0];rw [if_pos (by omega),if_pos (by omega),if_pos (by omega),rdIK_nat,if_neg (by omega)]
 exact main a.length 0 (by omega)
end Go.Proofs.YtbbfkodckpfjcaaGreat.Pu

namespace Go.Proofs.YtbbfkodckpfjcaaGreat.Pu
set_option linter.unusedVariables false
set_option linter.unusedSimpArgs false
open Go.RowKit Go.Proofs.YtbbfkodckpfjcaaGreat.PK Go.Proofs.YtbbfkodckpfjcaaGreatW.PrintWords
def rootB (a : List S128) (r : Int) : Bool:=decide (0 ≤ r ∧ r ≤ (a.length : Int) - 1) && !(a.getD r.toNat z128).f0
def numB (a : List S128) (r s : Int) : Int:=if (a.getD r.toNat z128).f1.getD (s / 4).toNat 0 < 0 then 0 else (a.getD ((a.getD r.toNat z128).f1.getD (s / 4).toNat 0).toNat z128).f1.getD (s % 4).toNat 0
def getB (a : List S128) (r s : Int) : Int:=if (0 ≤ s ∧ s ≤ 15) ∧ rootB a r = true ∧ arenaB a = true then numB a r s else 0
theorem knot_of {a : List S128} (h : arenaB a = true) {i : Nat} (hi : i < a.length) : (a.getD i z128).f1.length = 4 ∧ ∀ n ∈ (a.getD i z128).f1,kidB a i (a.getD i z128).f0 n = true:=by
 unfold arenaB at h;rw [List.all_eq_true] at h;have h1:=h i (by simp;omega);unfold knotB at h1;rw [Bool.and_eq_true,decide_eq_true_eq,List.all_eq_true] at h1;exact h1
theorem getD_mem {α : Type} {l : List α} {i : Nat} {z : α} (hi : i < l.length) : l.getD i z ∈ l:=by
 rw [List.getD_eq_getElem?_getD,List.getElem?_eq_getElem hi];exact List.getElem_mem hi
theorem kid_of {a : List S128} (h : arenaB a = true) {r : Nat} (hr : r < a.length) (hf : (a.getD r z128).f0 = false) {j : Nat} (hj : j < 4) :
  (a.getD r z128).f1.getD j 0 = -1 ∨ (0 ≤ (a.getD r z128).f1.getD j 0 ∧ (a.getD r z128).f1.getD j 0 < r ∧ (a.getD ((a.getD r z128).f1.getD j 0).toNat z128).f0 = true):=by
 obtain ⟨h4,hk⟩:=knot_of h hr;have h1:=hk _ (getD_mem (i:=j) (z:=0) (by omega));unfold kidB at h1;rw [hf] at h1;simp only [Bool.false_eq_true,if_false,Bool.or_eq_true,decide_eq_true_eq,Bool.and_eq_true] at h1;rcases h1 with h1 | ⟨h1,h2⟩
 ·exact .inl h1
 exact .inr ⟨h1.1,by omega,h2⟩
theorem iRoot_eq (a : List S128) (r : Int) (hn : a.length ≤ 9223372036854775807) : impl_isRoot.f a r = some (rootB a r):=by
 unfold impl_isRoot.f rootB;rw [w64 (by omega) (by omega),in_eq];simp only [Option.bind_some]
 by_cases h : 0 ≤ r ∧ r ≤ (a.length : Int) - 1
 ·rw [decide_eq_true h,if_pos rfl,if_pos h.1,if_pos (by omega),Bool.true_and];rfl
 rw [decide_eq_false h,if_neg (by decide),Bool.false_and]
theorem sRoot_eq (a : List S128) (r : Int) (hn : a.length ≤ 9223372036854775807) : spec_l11Root.f a r = some (decide (r = -1) || rootB a r):=by
 unfold spec_l11Root.f rootB
 by_cases h0 : r = -1
 ·rw [if_pos h0,decide_eq_true h0,Bool.true_or]
 rw [if_neg h0,decide_eq_false h0,Bool.false_or,w64 (by omega) (by omega),l01In_eq];simp only [Option.bind_some]
 by_cases h : 0 ≤ r ∧ r ≤ (a.length : Int) - 1
 ·rw [decide_eq_true h,if_pos rfl,if_pos h.1,if_pos (by omega),Bool.true_and];rfl
 rw [decide_eq_false h,if_neg (by decide),Bool.false_and]
theorem div4 {s : Int} (h0 : 0 ≤ s) (h1 : s ≤ 15) : wrap64 (Int.tdiv s 4) = s / 4 ∧ Int.tmod s 4 = s % 4 ∧ 0 ≤ s / 4 ∧ s / 4 < 4 ∧ 0 ≤ s % 4 ∧ s % 4 < 4:=by
 rw [Int.tdiv_eq_ediv_of_nonneg h0,Int.tmod_eq_emod_of_nonneg h0,w64 (by omega) (by omega)];omega
theorem root_lt {a : List S128} {r : Int} (h : rootB a r = true) : 0 ≤ r ∧ r.toNat < a.length ∧ (a.getD r.toNat z128).f0 = false:=by
 unfold rootB at h;rw [Bool.and_eq_true,decide_eq_true_eq,Bool.not_eq_true'] at h;exact ⟨h.1.1,by omega,h.2⟩
theorem num_eq (a : List S128) (r s : Int) (ha : arenaB a = true) (hr : rootB a r = true) (h0 : 0 ≤ s) (h1 : s ≤ 15) : (if 0 ≤ r then if r < (a.length : Int) then if 0 ≤ s / 4 then if s / 4 < (((a.getD r.toNat z128).f1.length : Nat) : Int) then if (a.getD r.toNat z128).f1.getD (s / 4).toNat 0 < 0 then some 0 else if 0 ≤ (a.getD r.toNat z128).f1.getD (s / 4).toNat 0 then if (a.getD r.toNat z128).f1.getD (s / 4).toNat 0 < (a.length : Int) then if 0 ≤ s % 4 then if s % 4 < (((a.getD ((a.getD r.toNat z128).f1.getD (s / 4).toNat 0).toNat z128).f1.length : Nat) : Int) then some ((a.getD ((a.getD r.toNat z128).f1.getD (s / 4).toNat 0).toNat z128).f1.getD (s % 4).toNat 0) else none else none else none else none else none else none else none else none) = some (numB a r s):=by
 obtain ⟨r0,rl,rf⟩:=root_lt hr;obtain ⟨d1,d2,d3,d4,d5,d6⟩:=div4 h0 h1;have h4:=(knot_of ha rl).1;have hk:=kid_of ha rl rf (j:=(s / 4).toNat) (by omega);unfold numB;rw [if_pos r0,if_pos (by omega),if_pos d3,if_pos (by omega)];rcases hk with hk | ⟨k0,k1,_⟩
 ·rw [if_pos (by omega),if_pos (by omega)]
 have h5:=(knot_of ha (i:=((a.getD r.toNat z128).f1.getD (s / 4).toNat 0).toNat) (by omega)).1;rw [if_neg (by omega),if_pos k0,if_pos (by omega),if_pos d5,if_pos (by omega),if_neg (by omega)]
theorem iNumber_eq (a : List S128) (r s : Int) (ha : arenaB a = true) (hr : rootB a r = true) (h0 : 0 ≤ s) (h1 : s ≤ 15) : impl_numberAt.f a r s = some (numB a r s):=by
 obtain ⟨d1,d2,_⟩:=div4 h0 h1;unfold impl_numberAt.f;simp only [d1,d2];exact num_eq a r s ha hr h0 h1
theorem sGet_eq (a : List S128) (r s : Int) (ha : arenaB a = true) (hr : rootB a r = true) (h0 : 0 ≤ s) (h1 : s ≤ 15) : spec_l11Get.f a r s = some (numB a r s):=by
 obtain ⟨r0,rl,rf⟩:=root_lt hr;obtain ⟨d1,d2,_⟩:=div4 h0 h1;unfold spec_l11Get.f;simp only [d1,d2];rw [if_neg (by omega)];exact num_eq a r s ha hr h0 h1
theorem iGetAt_ev (a : List S128) (r s : Int) (hn : a.length ≤ 9223372036854775807) : Ev (fun k=>impl_GetAt.f k a r s) (getB a r s):=by
 unfold impl_GetAt.f getB;simp only [in_eq,iRoot_eq a r hn,Option.bind_some,decide_eq_true_eq]
 by_cases h1 : 0 ≤ s ∧ s ≤ 15
 ·by_cases h2 : rootB a r = true
  ·simp only [if_pos h1,if_pos h2];refine ev_bind (iArena_ev a hn) ?_
   by_cases h3 : arenaB a = true
   ·simp only [if_pos h3,if_pos (show (0 ≤ s ∧ s ≤ 15) ∧ rootB a r = true ∧ arenaB a = true from ⟨h1,h2,h3⟩)];rw [iNumber_eq a r s h3 h2 h1.1 h1.2];exact Ev.now _
   simp only [if_neg h3,if_neg (show ¬ ((0 ≤ s ∧ s ≤ 15) ∧ rootB a r = true ∧ arenaB a = true) from fun h=>h3 h.2.2)];exact Ev.now _
  simp only [if_pos h1,if_neg h2,if_neg (show ¬ ((0 ≤ s ∧ s ≤ 15) ∧ rootB a r = true ∧ arenaB a = true) from fun h=>h2 h.2.1)];exact Ev.now _
 simp only [if_neg h1,if_neg (show ¬ ((0 ≤ s ∧ s ≤ 15) ∧ rootB a r = true ∧ arenaB a = true) from fun h=>h1 h.1)];exact Ev.now _
theorem sGetAt_ev (a : List S128) (r s : Int) (hn : a.length ≤ 9223372036854775807) : Ev (fun k=>spec_GetAt.f k a r s) (getB a r s):=by
 unfold spec_GetAt.f getB;refine ev_bind (sArena_ev a hn) ?_
 by_cases h3 : arenaB a = true
 ·simp only [if_pos h3,l01In_eq,sRoot_eq a r hn,Option.bind_some]
  by_cases h2 : rootB a r = true
  ·simp only [h2,Bool.or_true,if_true]
   by_cases h1 : 0 ≤ s ∧ s ≤ 15
   ·simp only [decide_eq_true h1,if_true,if_pos (show (0 ≤ s ∧ s ≤ 15) ∧ True ∧ arenaB a = true from ⟨h1,trivial,h3⟩)];rw [sGet_eq a r s h3 h2 h1.1 h1.2];exact Ev.now _
   simp only [decide_eq_false h1,Bool.false_eq_true,if_false,if_neg (show ¬ ((0 ≤ s ∧ s ≤ 15) ∧ True ∧ arenaB a = true) from fun h=>h1 h.1)];exact Ev.now _
  have e : getB a r s = 0:=by unfold getB;exact if_neg fun h=>h2 h.2.1
  unfold getB at e;rw [e]
  by_cases h0 : r = -1
  ·simp only [decide_eq_true h0,Bool.true_or,if_true]
   by_cases h1 : 0 ≤ s ∧ s ≤ 15
   ·simp only [decide_eq_true h1,if_true];unfold spec_l11Get.f;simp only [if_pos (show r < 0 by omega),Option.bind_some];exact Ev.now _
   simp only [decide_eq_false h1,Bool.false_eq_true,if_false];exact Ev.now _
  simp only [decide_eq_false h0,Bool.eq_false_iff.mpr h2,Bool.or_self,Bool.false_eq_true,if_false];exact Ev.now _
 simp only [if_neg h3,if_neg (show ¬ ((0 ≤ s ∧ s ≤ 15) ∧ rootB a r = true ∧ arenaB a = true) from fun h=>h3 h.2.2)];exact Ev.now _
end Go.Proofs.YtbbfkodckpfjcaaGreat.Pu

namespace Go.Proofs.YtbbfkodckpfjcaaGreat.Pu
set_option linter.unusedVariables false
set_option linter.unusedSimpArgs false
open Go.RowKit Go.Proofs.YtbbfkodckpfjcaaGreat.PK Go.Proofs.YtbbfkodckpfjcaaGreatW.PrintWords
theorem rdLV_nat (l : List S104) (i : Nat) : rd_T104 l (i : Int) = l.getD i z104:=rfl
theorem rdIV_nat (l : List S80) (i : Nat) : rd_T80 l (i : Int) = l.getD i z80:=rfl
def toVl (x : S104) : S80:=⟨x.f0,x.f1⟩
theorem toVolS_ev (l : List S104) (h : l.length ≤ 1048576) : Ev (fun k=>laws_toVolS.f k l) (l.map toVl):=by
 have h1:=ev_fill_all (E:=fun _ i=>(laws_toVol.f (rd_T104 l i).f0 (rd_T104 l i).f1).bind fun bt=>some (⟨bt.1,bt.2⟩ : S80)) (l:=l) (z:=z104) (g:=toVl) (xs:=List.replicate l.length z80) (L:=fun k xs i=>laws_toVolS.l0 k l xs i) (by omega) (fun k xs i=>by
  simp only [laws_toVolS.l0,Option.bind_assoc,Option.bind_some]) (fun i hi=>by rw [rdLV_nat];exact Ev.now _) (by simp)
 refine ev_ext (fun k=>?_) h1;unfold laws_toVolS.f;rw [if_pos (by omega),if_pos (by simp;omega)];simp
theorem toStore_ev (v : List S104) (a : List S119) (n : Int) (hv : v.length ≤ 1048576) (h : a.length ≤ 1048576) (hk : ∀ x ∈ a,x.f1.length ≤ 1048576) : Ev (fun k=>laws_toStore.f k v a n) (v.map toVl,toA a,n):=by
 unfold laws_toStore.f;exact ev_bind (toVolS_ev v hv) (ev_bind (toArena_ev a (by omega) (fun x hx=>by have:=hk x hx;omega)) (Ev.now _))
theorem eqVolS_ev (l : List S80) (hn : l.length ≤ 1048576) : Ev (fun k=>laws_eqVolS.f k l l) true:=by
 have h1:=ev_all (n:=l.length) (m:=l.length) (L:=fun k i=>laws_eqVolS.l0 k l l i) (E:=fun _ i=>laws_eqVol.f (rd_T80 l i).f0 (rd_T80 l i).f1 (rd_T80 l i).f0 (rd_T80 l i).f1) (by omega) (Nat.le_refl _) (fun k i=>by simp only [laws_eqVolS.l0])
  (fun i _=>ev_const (by simp [laws_eqVol.f])) l.length 0 (by omega)
 refine ev_ext (fun k=>?_) h1;unfold laws_eqVolS.f;rw [if_pos rfl];rfl
theorem eqStore_ev (v : List S80) (a : List S128) (n : Int) (hv : v.length ≤ 1048576) (hn : a.length ≤ 9223372036854775807) (hk : ∀ x ∈ a,x.f1.length ≤ 9223372036854775807) : Ev (fun k=>laws_eqStore.f k v a n v a n) true:=by
 unfold laws_eqStore.f;refine ev_bind (eqVolS_ev v hv) ?_;simp only [if_true];refine ev_bind (eqArena_ev a hn hk) ?_;simp only [if_true];exact Ev.now _
theorem szStore_ev (v : List S104) (l : List S119) (n a : Int) (h0 : 0 ≤ a) (h1 : a ≤ 1048576) (hv : v.length ≤ 9223372036854775807) (hn : l.length ≤ 9223372036854775807) (hk : ∀ x ∈ l,x.f1.length ≤ 9223372036854775807) :
  ∃ r,Ev (fun k=>laws_szStore.f k v l n a) r ∧ r ≤ a ∧ (0 ≤ r → v.length ≤ 1048576 ∧ l.length ≤ 1048576 ∧ ∀ x ∈ l,x.f1.length ≤ 1048576):=by
 unfold laws_szStore.f laws_szVolS.f;rw [w64 (by omega) (by omega)]
 by_cases h : a - (v.length : Int) < 0
 ·exact ⟨-1,by simp only [if_pos h,Option.bind_some,if_pos (show (-1 : Int) < 0 by omega)];exact Ev.now _,by omega,fun h2=>by omega⟩
 simp only [if_neg h,Option.bind_some];obtain ⟨r,hr,hra,hq⟩:=szArena_ev l (a - (v.length : Int)) (by omega) (by omega) hn hk
 by_cases h2 : r < 0
 ·exact ⟨-1,ev_bind hr (by simp only [if_pos h2];exact Ev.now _),by omega,fun h3=>by omega⟩
 refine ⟨r,ev_bind hr (by simp only [if_neg h2];exact Ev.now _),by omega,fun h3=>?_⟩;obtain ⟨a1,a2⟩:=hq h3;exact ⟨by omega,by omega,fun x hx=>by have:=a2 x hx;omega⟩
theorem store_start {v : List S104} {l : List S119} {n a : Int} (h0 : 0 ≤ a) (h1 : a ≤ 1048576) (hv : v.length ≤ maxLen) (hl : l.length ≤ maxLen) (hx : ∀ x ∈ l,x.f1.length ≤ maxLen) :
  ∃ r,Ev (fun k=>laws_szStore.f k v l n a) r ∧ r ≤ a ∧ (0 ≤ r → Ev (fun k=>laws_toStore.f k v l n) (v.map toVl,toA l,n) ∧ Ev (fun k=>laws_eqStore.f k (v.map toVl) (toA l) n (v.map toVl) (toA l) n) true ∧ (v.map toVl).length ≤ 1048576 ∧ (toA l).length ≤ 1048576 ∧ ∀ x ∈ toA l,x.f1.length ≤ 1048576):=by
 unfold maxLen at hv hl hx;obtain ⟨r,hr,hra,hq⟩:=szStore_ev v l n a h0 h1 (by omega) (by omega) (fun x h=>by have:=hx x h;omega);refine ⟨r,hr,hra,fun h2=>?_⟩;obtain ⟨a1,a2,a3⟩:=hq h2;have hlen : (toA l).length = l.length:=by unfold toA;exact List.length_map _
 have hlv : (v.map toVl).length = v.length:=List.length_map _
 have hm : ∀ x ∈ toA l,x.f1.length ≤ 1048576:=by
  intro x h;unfold toA at h;obtain ⟨y,hy,rfl⟩:=List.mem_map.1 h;exact a3 y hy
 exact ⟨toStore_ev v l n a1 a2 a3,eqStore_ev _ _ n (by omega) (by omega) (fun x h=>by have:=hm x h;omega),by omega,by omega,hm⟩
end Go.Proofs.YtbbfkodckpfjcaaGreat.Pu

namespace Go.Proofs.YtbbfkodckpfjcaaGreat.M2.Mp
set_option linter.unusedVariables false
set_option linter.unusedSimpArgs false
open Go.RowKit Go.Proofs.YtbbfkodckpfjcaaGreat.PK Go.Proofs.YtbbfkodckpfjcaaGreatW.PrintWords Go.Proofs.YtbbfkodckpfjcaaGreat.Pu
theorem deviceX {l : List S91} {v : List S104} {a : List S119} (n q t b : Int) (hl : l.length ≤ maxLen) (hx : ∀ x ∈ l,x.f2.length ≤ maxLen ∧ ∀ y ∈ x.f2,y.f1.size ≤ maxLen) (hv : v.length ≤ maxLen) (ha : a.length ≤ maxLen) (hk : ∀ x ∈ a,x.f1.length ≤ maxLen) :
  ∃ r,Ev (fun k=>laws_szDevice.f k l v a n q t b 1048576) r ∧ (0 ≤ r → Ev (fun k=>laws_toDevice.f k l v a n q t b) (toFl l,v.map toVl,toA a,n,q,t,b) ∧
   Ev (fun k=>laws_eqDevice.f k (toFl l) (v.map toVl) (toA a) n q t b (toFl l) (v.map toVl) (toA a) n q t b) true ∧ FlashB (toFl l) ∧ (v.map toVl).length ≤ 1048576 ∧ (toA a).length ≤ 1048576 ∧ ∀ x ∈ toA a,x.f1.length ≤ 1048576):=by
 simp only [laws_szDevice.f,laws_toDevice.f,laws_eqDevice.f];obtain ⟨r,hr,hq⟩:=flashX hl hx;have hm:=hl;unfold maxLen at hm;obtain ⟨r2,hr2,hle,_⟩:=szFlash_ev l 1048576 (by omega) (by omega) (by omega) (fun x h=>⟨by have:=(hx x h).1;unfold maxLen at this;omega,fun y hy=>by have:=(hx x h).2 y hy;unfold maxLen at this;omega⟩);obtain rfl:=ev_uniq hr (ev_rel (c:=id) hr2 (fun k r h m hm=>laws_szFlash.rel k l 1048576 r h m hm))
 by_cases h0 : r < 0
 ·exact ⟨-1,Ev.bind hr (ev_pos h0 (Ev.now _)),fun h=>by omega⟩
 obtain ⟨g1,g2,g3⟩:=hq (by omega);have hle' : r ≤ 1048576:=hle;obtain ⟨s,hs,hqs⟩:=store_start (n:=n) (a:=r) (by omega) hle' hv ha hk;have hs' : Ev (fun k=>laws_szStore.f k v a n r) s:=ev_rel (c:=id) hs (fun k z h m hm=>laws_szStore.rel k v a n r z h m hm)
 by_cases h1 : s < 0
 ·exact ⟨-1,Ev.bind hr (ev_neg h0 (Ev.bind hs' (ev_pos h1 (Ev.now _)))),fun h=>by omega⟩
 obtain ⟨p1,p2,p3,p4,p5⟩:=hqs.2 (by omega);have p1' : Ev (fun k=>laws_toStore.f k v a n) (v.map toVl,toA a,n):=ev_rel (c:=id) p1 (fun k z h m hm=>laws_toStore.rel k v a n z h m hm);have p2' : Ev (fun k=>laws_eqStore.f k (v.map toVl) (toA a) n (v.map toVl) (toA a) n) true:=ev_rel (c:=id) p2 (fun k z h m hm=>laws_eqStore.rel k _ _ n _ _ n z h m hm);refine ⟨s,Ev.bind hr (ev_neg h0 (Ev.bind hs' (ev_neg h1 (Ev.now _)))),fun _=>⟨Ev.bind g1 (Ev.bind p1' (Ev.now _)),Ev.bind g2 (ev_pos rfl (Ev.bind p2' (ev_pos rfl (ev_pos trivial (ev_pos trivial (ev_pos trivial (Ev.now _))))))),g3,p3,p4,p5⟩⟩
end Go.Proofs.YtbbfkodckpfjcaaGreat.M2.Mp

namespace Go.Proofs.YtbbfkodckpfjcaaGreat.Pu
set_option linter.unusedVariables false
set_option linter.unusedSimpArgs false
open Go.RowKit Go.Proofs.YtbbfkodckpfjcaaGreat.PK Go.Proofs.YtbbfkodckpfjcaaGreatW.PrintWords
def volB (v : List S80) (id : Int) : Int:=findI (fun i=>decide ((v.getD i z80).f0 = id)) 0 v.length
theorem volB_cases (v : List S80) (id : Int) : volB v id = -1 ∨ ∃ j : Nat,j < v.length ∧ volB v id = (j : Int):=by
 rcases findI_range (T:=fun i=>decide ((v.getD i z80).f0 = id)) v.length 0 with h | ⟨j,_,h2,h3,_⟩
 ·exact .inl h
 exact .inr ⟨j,by omega,h3⟩
theorem iVolAt_ev (v : List S80) (a : List S128) (n id : Int) (hv : v.length ≤ 1048576) : Ev (fun k=>impl_volAt.f k v a n id) (volB v id):=by
 refine ev_find (L:=fun k i=>impl_volAt.l0 k id v (v.length : Int) i) (n:=v.length) (T:=fun i=>decide ((v.getD i z80).f0 = id)) (fun i hi ht=>?_) (fun i hi ht r hr=>?_) (ev_some fun k=>by simp only [impl_volAt.l0];rw [if_neg (by omega)]) v.length 0 (by omega)
 ·refine ev_some fun k=>?_;simp only [impl_volAt.l0];rw [if_pos (by omega),if_pos (by omega),if_pos (by omega),rdIV_nat,if_pos (of_decide_eq_true ht)]
 refine Ev.step (fun k=>?_) hr;simp only [impl_volAt.l0];rw [if_pos (by omega),if_pos (by omega),if_pos (by omega),rdIV_nat,if_neg (of_decide_eq_false ht),wsucc (n:=v.length) hi (by omega)]
theorem sVolAt_ev (v : List S80) (a : List S128) (n id : Int) (hv : v.length ≤ 1048576) : Ev (fun k=>spec_l12At.f k v a n id) (volB v id):=by
 refine ev_find (L:=fun k i=>spec_l12At.l0 k id i v a n) (n:=v.length) (T:=fun i=>decide ((v.getD i z80).f0 = id)) (fun i hi ht=>?_) (fun i hi ht r hr=>?_) (ev_some fun k=>by simp only [spec_l12At.l0];rw [if_neg (by omega)]) v.length 0 (by omega)
 ·refine ev_some fun k=>?_;simp only [spec_l12At.l0];rw [if_pos (by omega),if_pos (by omega),rdIV_nat,if_pos (of_decide_eq_true ht)]
 refine Ev.step (fun k=>?_) hr;simp only [spec_l12At.l0];rw [if_pos (by omega),if_pos (by omega),rdIV_nat,if_neg (of_decide_eq_false ht),wsucc (n:=v.length) hi (by omega)]
end Go.Proofs.YtbbfkodckpfjcaaGreat.Pu

namespace Go.Proofs.YtbbfkodckpfjcaaGreat.Pu
set_option linter.unusedVariables false
set_option linter.unusedSimpArgs false
open Go.RowKit Go.Proofs.YtbbfkodckpfjcaaGreat.PK Go.Proofs.YtbbfkodckpfjcaaGreatW.PrintWords
def chunkB (v : List S80) (a : List S128) (id s : Int) : Int:=if volB v id < 0 then 0 else getB a (v.getD (volB v id).toNat z80).f1 s
theorem iChunkOf_ev (v : List S80) (a : List S128) (n id s : Int) (hv : v.length ≤ 1048576) (ha : a.length ≤ 9223372036854775807) : Ev (fun k=>impl_ChunkOf.f k v a n id s) (chunkB v a id s):=by
 unfold impl_ChunkOf.f chunkB;refine ev_bind (iVolAt_ev v a n id hv) ?_;rcases volB_cases v id with h | ⟨j,hj,h⟩
 ·simp only [h,if_pos (show (-1 : Int) < 0 by omega)];exact Ev.now _
 simp only [h,if_neg (show ¬ ((j : Int) < 0) by omega),if_pos (show 0 ≤ (j : Int) by omega),if_pos (show (j : Int) < (v.length : Int) by omega),rdIV_nat,Int.toNat_natCast];exact ev_bind (iGetAt_ev a _ s ha) (Ev.now _)
theorem sChunkOf_ev (v : List S80) (a : List S128) (n id s : Int) (hv : v.length ≤ 1048576) (ha : a.length ≤ 9223372036854775807) : Ev (fun k=>spec_ChunkOf.f k v a n id s) (chunkB v a id s):=by
 unfold spec_ChunkOf.f chunkB;refine ev_bind (sVolAt_ev v a n id hv) ?_;rcases volB_cases v id with h | ⟨j,hj,h⟩
 ·simp only [h,if_pos (show (-1 : Int) < 0 by omega)];exact Ev.now _
 simp only [h,if_neg (show ¬ ((j : Int) < 0) by omega),if_pos (show 0 ≤ (j : Int) by omega),if_pos (show (j : Int) < (v.length : Int) by omega),rdIV_nat,Int.toNat_natCast];exact ev_bind (sGetAt_ev a _ s ha) (Ev.now _)
end Go.Proofs.YtbbfkodckpfjcaaGreat.Pu

namespace Go.Proofs.YtbbfkodckpfjcaaGreat.M2.Mp
set_option linter.unusedVariables false
set_option linter.unusedSimpArgs false
open Go.RowKit Go.Proofs.YtbbfkodckpfjcaaGreat.PK Go.Proofs.YtbbfkodckpfjcaaGreatW.PrintWords Go.Proofs.YtbbfkodckpfjcaaGreat.Pu
theorem readX (bs : List S68) (v : List S80) (a : List S128) (n q t b vol s : Int) (h : FlashB bs) (hv : v.length ≤ 1048576) (ha : a.length ≤ 1048576) :
  ∃ r : ByteArray × Bool,Ev (fun k=>spec_ReadOf.f k bs v a n q t b vol s) r ∧ Ev (fun k=>impl_ReadOf.f k bs v a n q t b vol s) r:=by
 simp only [spec_ReadOf.f,spec_l15Read.f,impl_ReadOf.f];have s1 : Ev (fun k=>spec_l12At.f k v a n vol) (volB v vol):=ev_rel (c:=id) (sVolAt_ev v a n vol hv) (fun k r h m hm=>spec_l12At.rel k v a n vol r h m hm);have i1 : Ev (fun k=>impl_volAt.f k v a n vol) (volB v vol):=ev_rel (c:=id) (iVolAt_ev v a n vol hv) (fun k r h m hm=>impl_volAt.rel k v a n vol r h m hm);have s2 : Ev (fun k=>spec_ChunkOf.f k v a n vol s) (chunkB v a vol s):=ev_rel (c:=id) (sChunkOf_ev v a n vol s hv (by omega)) (fun k r h m hm=>spec_ChunkOf.rel k v a n vol s r h m hm);have i2 : Ev (fun k=>impl_ChunkOf.f k v a n vol s) (chunkB v a vol s):=ev_rel (c:=id) (iChunkOf_ev v a n vol s hv (by omega)) (fun k r h m hm=>impl_ChunkOf.rel k v a n vol s r h m hm);have sc:=sScanAll bs h
 by_cases h0 : volB v vol < 0
 ·exact ⟨(⟨#[]⟩,false),Ev.bind sc (Ev.bind (Ev.bind s1 (ev_pos h0 (Ev.now _))) (Ev.now _)),Ev.bind i1 (ev_pos h0 (Ev.now _))⟩
 by_cases h1 : chunkB v a vol s = 0
 ·exact ⟨(⟨#[]⟩,true),Ev.bind sc (Ev.bind (Ev.bind s1 (ev_neg h0 (Ev.bind s2 (ev_pos h1 (Ev.now _))))) (Ev.now _)),Ev.bind i1 (ev_neg h0 (Ev.bind i2 (ev_pos h1 (Ev.now _))))⟩
 obtain ⟨r,r1,r2⟩:=chunkX bs (chunkB v a vol s) h;exact ⟨r,Ev.bind sc (Ev.bind (Ev.bind s1 (ev_neg h0 (Ev.bind s2 (ev_neg h1 (Ev.bind r1 (Ev.now _)))))) (Ev.now _)),Ev.bind i1 (ev_neg h0 (Ev.bind i2 (ev_neg h1 (Ev.bind r2 (Ev.now _)))))⟩
theorem fnExactReadOfX (l : List S91) (v : List S104) (a : List S119) (n q t b vol s : Int) (hl : l.length ≤ maxLen) (hx : ∀ x ∈ l,x.f2.length ≤ maxLen ∧ ∀ y ∈ x.f2,y.f1.size ≤ maxLen) (hv : v.length ≤ maxLen) (ha : a.length ≤ maxLen) (hk : ∀ x ∈ a,x.f1.length ≤ maxLen) :
  EvX (fun k=>laws_FnExactReadOf.f k l v a n q t b vol s) (fun r=>r = true):=by
 simp only [laws_FnExactReadOf.f];obtain ⟨r,hr,hq⟩:=deviceX n q t b hl hx hv ha hk;refine ⟨true,Ev.bind hr ?_,rfl⟩
 by_cases h0 : r < 0
 ·exact ev_pos h0 (Ev.now _)
 obtain ⟨g1,g2,g3,g4,g5,g6⟩:=hq (by omega);obtain ⟨w,w1,w2⟩:=readX (toFl l) (v.map toVl) (toA a) n q t b vol s g3 g4 g5;refine ev_neg h0 (Ev.bind g1 (Ev.bind w1 (Ev.bind g1 (Ev.bind w2 ?_))));exact ev_pos (by rw [seq_iff]) (ev_pos (by simp) (Ev.bind g1 (Ev.bind g2 (ev_pos rfl (Ev.now _)))))
end Go.Proofs.YtbbfkodckpfjcaaGreat.M2.Mp

namespace Go.Proofs.YtbbfkodckpfjcaaGreat.M2
open Go Go.RowKit
set_option linter.unusedVariables false
section
variable {Ty : Type} {D : Ty → Type} {P : Program} {K : Kit Ty D}
theorem blk0 (nm : Nm) : blkAt K (hpOf ([] : List (Blk Ty D))) nm = none:=by
 unfold blkAt;cases nm.sub <;> rfl
theorem own0 (γ : Nm → Hdr) (g : Nat) (nm : Nm) : ¬ Own K (hpOf ([] : List (Blk Ty D))) γ g nm:=by
 rintro ⟨⟨b,hb⟩,_⟩;rw [blk0] at hb;cases hb
def Out (Ty : Type) (D : Ty → Type) (w : World) : Mem Ty D:=⟨w,fun _ g=>g < w.heap.size,hpOf [],fun _=>(none,0),(· < ([] : List (Blk Ty D)).length)⟩
theorem top {f : FuncId} {ins : List (AV Ty D)} {v : Value} (h : Contract P K f ins [] (.sc v) [] []) (w : World) (args : Array Value) (hsz : args.size = ins.length)
  (ha : ∀ (k : Nat) u x,args[k]? = some u → ins[k]? = some x → x ≠ .dd ∧ Va K (Out Ty D w) u x) : Calls P f args w fun e w'=>e = .returned v ∧ Below w.heap.size w w':=by
 have hl : Lay K (Out Ty D w):=by
  refine ⟨fun nm b hb=>?_,fun g nm nm' h=>(own0 _ _ _ h).elim,fun g hg=>hg,fun g hg=>⟨hg,fun nm=>own0 _ _ _⟩,fun id b hb=>?_⟩
  ·rw [show blkAt K (Out Ty D w).H nm = none from blk0 nm] at hb;cases hb
  cases hb
 refine (h.2.2 w (fun _ g=>g < w.heap.size) (fun _=>(none,0)) args hl (fun g hg _=>hg) hsz ha).mono fun e w' he=>?_;obtain ⟨u,γ',he,_,_,hv,hk,_⟩:=he;have hu : u = v:=hv.1;exact ⟨by rw [he,hu],hk.os,hk.tape,hk.output,hk.size,fun k hk'=>hk.block k hk' (fun ⟨nm,ho⟩=>own0 _ _ _ ho)⟩
end
end Go.Proofs.YtbbfkodckpfjcaaGreat.M2

namespace Go.Proofs.YtbbfkodckpfjcaaGreat.M2
open Go Go.RowKit
set_option linter.unusedVariables false
set_option linter.unusedSimpArgs false
section
variable {Ty : Type} {D : Ty → Type} {P : Program} {K : Kit Ty D}
def CellsAt (K : Kit Ty D) (w : World) (d : Nat) (cs : List Value) (av : List (AV Ty D)) : Prop:=cs.length = av.length ∧ ∀ (j : Nat) u c,cs[j]? = some u → av[j]? = some c → FzC K w (fun g=>g < w.heap.size) d u c
def OpM {α : Type} (P : Program) (K : Kit Ty D) (t : TypeId) (d : Nat) (em : α → List (AV Ty D)) (wf : α → Prop) : Prop :=
 ∀ (H : Type) (enc : TypeId × Value → H) (w : World) (base : Nat) (spare : Nat → Bool) (held : Bool) (fuel : Nat) (cs : List Value) (x : DataW H × List MemPlace),
  DataW.trod enc P w base spare held fuel t cs = some x → ∃ y : α,CellsAt K w d cs (em y) ∧ wf y
theorem FzC.up {w : World} {S : Nat → Prop} : ∀ {d : Nat} {v : Value} {x : AV Ty D},FzC K w S d v x → FzC K w S (d + 1) v x:=by
 intro d
 induction d with
 | zero =>
  intro v x h;cases x with
  | sc u=>exact h
  | _=>exact h.elim
 | succ d ih =>
  intro v x h;cases x with
  | sc u=>exact h
  | row g t l =>
   obtain ⟨a,c,h1,h2,h3⟩:=h;refine ⟨a,c,h1,h2,h3.imp id ?_⟩;rintro ⟨g,o,q1,q2,q3⟩;refine ⟨g,o,q1,q2,fun i x hx j c hc=>?_⟩;obtain ⟨u,hu,hf⟩:=q3 i x hx j c hc;exact ⟨u,hu,ih hf⟩
  | _=>exact h.elim
theorem CellsAt.up {w : World} {d : Nat} {cs : List Value} {av : List (AV Ty D)} (h : CellsAt K w d cs av) : CellsAt K w (d + 1) cs av:=⟨h.1,fun j u c hu hc=>(h.2 j u c hu hc).up⟩
theorem OpM.up {α : Type} {t : TypeId} {d : Nat} {em : α → List (AV Ty D)} {wf : α → Prop} (h : OpM P K t d em wf) : OpM P K t (d + 1) em wf:=fun H enc w base spare held fuel cs x hx=>by
 obtain ⟨y,h1,h2⟩:=h H enc w base spare held fuel cs x hx;exact ⟨y,h1.up,h2⟩
theorem cells_one {w : World} {d : Nat} {v u : Value} (hv : v = u) (hs : scalar u = true) : CellsAt K w d [v] [.sc u]:=by
 refine ⟨rfl,fun j x c hx hc=>?_⟩;cases j with
 | succ j=>simp at hx
 | zero =>
  simp at hx hc;subst hx hc;cases d <;> exact ⟨hv,hs⟩
theorem op_int {t : TypeId} {k : IntKind} (hu : P.underlying t = some (.int k)) : OpM P K t 0 (fun n : Int=>[.sc (.int k n)]) (fun n=>(Lit.int k n).wf = true):=by
 intro H enc w base spare held fuel cs x h;obtain ⟨n,rfl,_,hw⟩:=DataW.trod_int hu h;exact ⟨n,cells_one rfl rfl,hw⟩
theorem op_bool {t : TypeId} (hu : P.underlying t = some .bool) : OpM P K t 0 (fun b : Bool=>[.sc (.bool b)]) (fun _=>True):=by
 intro H enc w base spare held fuel cs x h;obtain ⟨n,rfl,_⟩:=DataW.trod_bool hu h;exact ⟨n,cells_one rfl rfl,trivial⟩
theorem op_string {t : TypeId} (hu : P.underlying t = some .string) : OpM P K t 0 (fun s : ByteArray=>[.sc (.string s)]) (fun s=>s.size ≤ maxLen):=by
 intro H enc w base spare held fuel cs x h;obtain ⟨n,rfl,_,hw⟩:=DataW.trod_string hu h;exact ⟨n,cells_one rfl rfl,hw⟩
theorem choose_list {α : Type} {Q : Nat → α → Prop} : ∀ (n : Nat),(∀ i,i < n → ∃ y,Q i y) → ∃ ys : List α,ys.length = n ∧ ∀ i y,ys[i]? = some y → Q i y
 | 0,_=>⟨[],rfl,fun i y h=>by simp at h⟩
 | n + 1,h=>by
  obtain ⟨ys,hl,hq⟩:=choose_list n (fun i hi=>h i (by omega));obtain ⟨y,hy⟩:=h n (by omega);refine ⟨ys ++ [y],by simp [hl],fun i z hz=>?_⟩;rcases Nat.lt_or_ge i ys.length with hi | hi
  ·rw [List.getElem?_append_left hi] at hz;exact hq i z hz
  rw [List.getElem?_append_right hi] at hz
  have hi2 : i - ys.length = 0:=by
   have:=(List.getElem?_eq_some_iff.1 hz).1;simp at this;omega
  rw [hi2] at hz;have : i = n:=by omega
  subst this;simp at hz;subst hz;exact hy
theorem adds (a : Addr) (m n : Nat) : (a.add m).add n = a.add (m + n):=by
 unfold Addr.add
 by_cases h1 : m = 0 <;> by_cases h2 : n = 0 <;> simp_all [Nat.add_assoc]
theorem op_slice {t e : TypeId} {te : Ty} {d : Nat} {wf : D te → Prop} (hu : P.underlying t = some (.slice e)) (hc : P.cellsOf e = K.cells te) (hlen0 : ∀ x,(K.emb te x).length = K.cells te) (hpos : 0 < K.cells te) (ho : OpM P K e d (K.emb te) wf) :
  OpM P K t (d + 1) (fun l : List (D te)=>[.row 0 te l]) (fun xs=>xs.length ≤ maxLen ∧ ∀ x ∈ xs,wf x):=by
 intro H enc w base spare held fuel cs x h;rcases DataW.trod_slice hu h with ⟨rfl,_⟩ | ⟨a,len,cap,elems,rest,n,_,rfl,_,hb,hl,hm,hlen,hel,_,_⟩
 ·refine ⟨[],⟨rfl,fun j u c hx hcc=>?_⟩,by simp,fun x hx=>absurd hx (by simp)⟩;cases j with
  | succ j=>simp at hx
  | zero =>
   simp at hx hcc;subst hx hcc;exact ⟨none,0,rfl,Nat.le_refl _,.inl rfl⟩
 have each : ∀ i,i < len → ∃ y : D te,∃ c : List Value,(CellsAt K w d c (K.emb te y) ∧ ∀ j u,c[j]? = some u → w.cell? (a.add (i * K.cells te + j)) = some u) ∧ wf y:=by
  intro i hi;have h1:=hel i hi;rw [List.getElem?_eq_getElem (by omega),Option.bind_eq_some_iff,hc] at h1;obtain ⟨c,h2,h3⟩:=h1;obtain ⟨_,hcl,hcell⟩:=World.cells?_some h2;obtain ⟨y,hk,hw⟩:=ho H enc w base spare held n c _ h3;refine ⟨y,c,⟨hk,fun j u hj=>?_⟩,hw⟩;have hjl : j < c.length:=(List.getElem?_eq_some_iff.1 hj).1;rw [← adds,hcell j (by omega),hj]
 obtain ⟨ys,hyl,hys⟩:=choose_list len each;have hml : len ≤ maxLen:=Nat.le_trans hl hm;refine ⟨ys,⟨rfl,fun j u c hx hcc=>?_⟩,by rw [hyl];exact hml,fun y hy=>?_⟩
 ·cases j with
  | succ j=>simp at hx
  | zero =>
   simp at hx hcc;subst hx hcc;refine ⟨some a,cap,by rw [hyl],by rw [hyl];exact hl,?_⟩
   by_cases h0 : ys = []
   ·exact .inl h0
   refine .inr ?_;have hl0 : 0 < ys.length:=List.length_pos_iff.2 h0
   have cell : ∀ (i : Nat) y,ys[i]? = some y → ∀ (j : Nat) cc,(K.emb te y)[j]? = some cc → ∃ u,w.cell? (a.add (i * K.cells te + j)) = some u ∧ FzC K w (fun g=>g < w.heap.size) d u cc:=by
    intro i y hy j cc hcc;obtain ⟨c,⟨hk,hcell⟩,_⟩:=hys i y hy;have hj : j < c.length:=by rw [hk.1];exact (List.getElem?_eq_some_iff.1 hcc).1
    exact ⟨c[j],hcell j _ (List.getElem?_eq_getElem hj),hk.2 j _ cc (List.getElem?_eq_getElem hj) hcc⟩
   obtain ⟨u0, hu0, _⟩ := cell 0 ys[0] (List.getElem?_eq_getElem hl0) 0 ((K.emb te ys[0])[0]'(by rw [hlen0]; exact hpos)) (List.getElem?_eq_getElem _)
   have hsp : a.spot = none:=by
    have h1:=World.cell?_spot hu0;have h2 : (a.add (0 * K.cells te + 0)) = a:=by simp [Addr.add]
    rw [h2] at h1;exact h1
   obtain ⟨g,o,sp⟩:=a;simp only at hsp;subst hsp;have hadd : ∀ j,(⟨g,o,none⟩ : Addr).add j = ⟨g,o + j,none⟩:=fun j=>by unfold Addr.add;split <;> simp_all
   have hg : g < w.heap.size:=by
    rw [hadd] at hu0;unfold World.cell? at hu0;rcases Nat.lt_or_ge g w.heap.size with h | h
    ·exact h
    simp [Array.getElem?_eq_none h] at hu0
   refine ⟨g,o,rfl,hg,fun i y hy j cc hcc=>?_⟩;obtain ⟨u,h1,h2⟩:=cell i y hy j cc hcc;rw [hadd] at h1;exact ⟨u,h1,h2⟩
 obtain ⟨j,hj,he⟩:=List.getElem_of_mem hy;obtain ⟨_,_,hw⟩:=hys j y (by rw [List.getElem?_eq_getElem hj,he]);exact hw
def OpF {α : Type} (P : Program) (K : Kit Ty D) (fs : List Field) (off d n : Nat) (em : α → List (AV Ty D)) (wf : α → Prop) : Prop :=
 ∀ (H : Type) (enc : TypeId × Value → H) (w : World) (base : Nat) (spare : Nat → Bool) (held : Bool) (fuel : Nat) (cs : List Value),cs.length = off + n →
  (∀ f ∈ fs,∃ x,DataW.trod enc P w base spare held fuel f.type ((cs.drop f.offset).take (P.cellsOf f.type)) = some x) → ∃ y : α,CellsAt K w d (cs.drop off) (em y) ∧ wf y
theorem opF_one {α : Type} {f : Field} {off d n : Nat} {em : α → List (AV Ty D)} {wf : α → Prop} (hoff : f.offset = off) (hc : P.cellsOf f.type = n) (ho : OpM P K f.type d em wf) : OpF P K [f] off d n em wf:=by
 intro H enc w base spare held fuel cs hl h;obtain ⟨x,hx⟩:=h f (by simp);obtain ⟨y,hk,hw⟩:=ho H enc w base spare held fuel _ x hx;rw [hoff,hc,List.take_of_length_le (by rw [List.length_drop];omega)] at hk;exact ⟨y,hk,hw⟩
theorem CellsAt.app {w : World} {d : Nat} {c1 c2 : List Value} {a1 a2 : List (AV Ty D)} (h1 : CellsAt K w d c1 a1) (h2 : CellsAt K w d c2 a2) : CellsAt K w d (c1 ++ c2) (a1 ++ a2):=by
 refine ⟨by rw [List.length_append,List.length_append,h1.1,h2.1],fun j u c hu hc=>?_⟩;rcases Nat.lt_or_ge j c1.length with h | h
 ·rw [List.getElem?_append_left h] at hu;rw [List.getElem?_append_left (by rw [← h1.1];exact h)] at hc;exact h1.2 j u c hu hc
 rw [List.getElem?_append_right h] at hu;rw [List.getElem?_append_right (by rw [← h1.1];exact h),← h1.1] at hc;exact h2.2 _ u c hu hc
theorem opF_cons {α β : Type} {f : Field} {fs : List Field} {off d n m : Nat} {ea : α → List (AV Ty D)} {eb : β → List (AV Ty D)} {wa : α → Prop} {wb : β → Prop} (hoff : f.offset = off) (hc : P.cellsOf f.type = n) (ho : OpM P K f.type d ea wa) (hr : OpF P K fs (off + n) d m eb wb) :
  OpF P K (f :: fs) off d (n + m) (fun p : α × β=>ea p.1 ++ eb p.2) (fun p=>wa p.1 ∧ wb p.2):=by
 intro H enc w base spare held fuel cs hl h;obtain ⟨x,hx⟩:=h f (by simp);obtain ⟨y,hk,hw⟩:=ho H enc w base spare held fuel _ x hx;obtain ⟨z,hk2,hw2⟩:=hr H enc w base spare held fuel cs (by omega) (fun g hg=>h g (List.mem_cons_of_mem _ hg));rw [hoff,hc] at hk;refine ⟨(y,z),?_,hw,hw2⟩;have:=hk.app hk2;rw [← List.drop_drop,List.take_append_drop] at this;exact this
theorem op_tuple {α : Type} {t : TypeId} {fs : List Field} {d n : Nat} {em : α → List (AV Ty D)} {wf : α → Prop} (hu : P.underlying t = some (.struct fs.toArray)) (hc : P.cellsOf t = n) (ho : OpF P K fs 0 d n em wf) : OpM P K t d em wf:=by
 intro H enc w base spare held fuel cs x h;obtain ⟨xs,m,_,_,hl,hlen,hf⟩:=DataW.trod_struct hu h
 obtain ⟨y,hk,hw⟩:=ho H enc w base spare held m cs (by omega) (fun fl hfl=>by
  obtain ⟨i,hi,he⟩:=List.getElem_of_mem hfl;have h1:=hf i fl (by simpa using (List.getElem?_eq_getElem hi).trans (congrArg some he));have hlen2 : xs.length = fs.length:=by simpa using hlen
  exact ⟨xs[i]'(by omega), by rw [h1, List.getElem?_eq_getElem]⟩)
 exact ⟨y,by simpa using hk,hw⟩
theorem op_iso {α β : Type} {t : TypeId} {d : Nat} {em : α → List (AV Ty D)} {em' : β → List (AV Ty D)} {wf : α → Prop} {wf' : β → Prop} (g : α → β) (h : OpM P K t d em wf) (he : ∀ y,em' (g y) = em y) (hw : ∀ y,wf y → wf' (g y)) : OpM P K t d em' wf':=fun H enc w base spare held fuel cs x hx=>by
 obtain ⟨y,h1,h2⟩:=h H enc w base spare held fuel cs x hx;exact ⟨g y,by rw [he];exact h1,hw y h2⟩
theorem va_ag {w : World} {d : Nat} {cs : List Value} {av : List (AV Ty D)} (h : CellsAt K w d cs av) : Va K (Out Ty D w) (.agg cs.toArray) (.ag av):=by
 refine ⟨cs,rfl,h.1,fun j u c hu hc=>?_⟩;have hf:=h.2 j u c hu hc;cases d with
 | zero =>
  cases c with
  | sc x=>exact ⟨by simp,hf⟩
  | _=>exact hf.elim
 | succ d =>
  cases c with
  | sc x=>exact ⟨by simp,hf⟩
  | row g t l=>exact ⟨by simp,⟨d + 1,hf⟩⟩
  | _=>exact hf.elim
theorem va_sc {w : World} {d : Nat} {v u : Value} (h : CellsAt K w d [v] [.sc u]) : Va K (Out Ty D w) v (.sc u):=by
 have hf:=h.2 0 v _ rfl rfl;cases d <;> exact hf
theorem va_row {w : World} {d : Nat} {v : Value} {t : Ty} {l : List (D t)} (h : CellsAt K w d [v] [.row 0 t l]) : Va K (Out Ty D w) v (.row 0 t l):=⟨d,h.2 0 v _ rfl rfl⟩
end
end Go.Proofs.YtbbfkodckpfjcaaGreat.M2
