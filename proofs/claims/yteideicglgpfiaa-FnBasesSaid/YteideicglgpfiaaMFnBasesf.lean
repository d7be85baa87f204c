/- FnBases: functions of the translation as Lean functions with what their calls come to, plain lemmas on them, and, at the end, the row. Parts of one proof, merged by a program of this session; each part's own sentence stands at its head. -/
import Derived.Below
import Derived.Test.YteideicglgpfiaaRows
import Derived.WalkKit
import Derived.ProofKit
import Derived.OpenShut
import Derived.ShutString
import Derived.ChangeOld
import Derived.SizedLaws
import Derived.ChangeSlices
import Derived.Test.YteideicglgpfiaaMFnBasese
namespace Go.Proofs.Yteideicglgpfiaa.Pu
set_option linter.unusedVariables false
set_option linter.unusedSimpArgs false
open Go.RowKit Go.Proofs.Yteideicglgpfiaa.PK Go.Proofs.YteideicglgpfiaaW.PrintWords
theorem nodup_le : ∀ {L M : List Int},L.Nodup → (∀ x ∈ L,x ∈ M) → L.length ≤ M.length
 | [],_,_,_=>Nat.zero_le _
 | x :: L,M,h,hs=>by
  have hx:=hs x List.mem_cons_self;obtain ⟨h1,h2⟩:=List.nodup_cons.1 h;have h3:=nodup_le (L:=L) (M:=M.erase x) h2 fun y hy=>(List.mem_erase_of_ne (by rintro rfl;exact h1 hy)).2 (hs y (List.mem_cons_of_mem _ hy));rw [List.length_erase_of_mem hx] at h3;have:=List.length_pos_of_mem hx;simp only [List.length_cons];omega
theorem nodup_snoc {L : List Int} {x : Int} (h : L.Nodup) (hx : ¬ x ∈ L) : (L ++ [x]).Nodup:=by
 rw [List.nodup_append];exact ⟨h,by simp,fun a ha b hb=>by obtain rfl:=List.mem_singleton.1 hb;rintro rfl;exact hx ha⟩
def bothB (a : List S88) (q r : Int) : List Nat:=(List.range' 0 a.length).filter fun i=>keptB a q i && keptB a r i
def shareB (a : List S88) (q r : Int) : Nat:=(bothB a q r).length
theorem both_mem {a : List S88} {q r : Int} {i : Nat} : i ∈ bothB a q r ↔ i < a.length ∧ keptB a q i = true ∧ keptB a r i = true:=by
 unfold bothB;rw [List.mem_filter,List.mem_range',Bool.and_eq_true];constructor
 ·rintro ⟨⟨j,h1,h2⟩,h3⟩;exact ⟨by omega,h3⟩
 rintro ⟨h1,h3⟩;exact ⟨⟨i,h1,by omega⟩,h3⟩
theorem both_nodup (a : List S88) (q r : Int) : ((bothB a q r).map fun i : Nat=>(i : Int)).Nodup:=by
 unfold List.Nodup;rw [List.pairwise_map];refine List.Pairwise.imp (R:=fun x y=>x < y) (fun h=>by omega) ?_;unfold bothB;exact List.Pairwise.filter _ (List.pairwise_lt_range' (s:=0) (n:=a.length))
theorem share_ge {a : List S88} {q r : Int} {L : List Int} (hn : L.Nodup) (h : ∀ x ∈ L,0 ≤ x ∧ x.toNat < a.length ∧ keptB a q x.toNat = true ∧ keptB a r x.toNat = true) : L.length ≤ shareB a q r:=by
 have:=nodup_le (M:=(bothB a q r).map fun i : Nat=>(i : Int)) hn fun x hx=>List.mem_map.2 ⟨x.toNat,both_mem.2 (h x hx).2,by have:=(h x hx).1;omega⟩
 rwa [List.length_map] at this
theorem share_le {a : List S88} {q r : Int} {M : List Int} (h : ∀ i : Nat,i < a.length → keptB a q i = true → keptB a r i = true → (i : Int) ∈ M) : shareB a q r ≤ M.length:=by
 have:=nodup_le (M:=M) (both_nodup a q r) fun x hx=>by
  obtain ⟨i,hi,rfl⟩:=List.mem_map.1 hx;obtain ⟨h1,h2,h3⟩:=both_mem.1 hi;exact h i h1 h2 h3
 rwa [List.length_map] at this
theorem iKnots_ev' (a : List S88) (r : Int) (hn : a.length ≤ 1048576) (hx : ∀ x ∈ a,x.f1.length ≤ 1048576) :
  ∃ L,Ev (fun k=>impl_knotsOf.f k a r) L ∧ L.length ≤ 1048577 ∧ L.Nodup ∧ (∀ x ∈ L,0 ≤ x ∧ x.toNat < a.length) ∧ ∀ i : Nat,i < a.length → ((i : Int) ∈ L ↔ keptB a r i = true):=by
 unfold impl_knotsOf.f keptB;simp only [iRoot_eq a r (by omega),Option.bind_some]
 by_cases hr : rootB a r = true
 ·obtain ⟨r0,rl,_⟩:=root_lt hr;simp only [if_pos hr,if_pos r0,if_pos (show r < (a.length : Int) by omega),rd_T88];have hm:=hx _ (getD_mem (z:=z88) rl);generalize (a.getD r.toNat z88).f1 = kids at hm ⊢
  have main : ∀ (d i : Nat) (acc : List Int),i + d = kids.length → acc.length ≤ 1 + i → acc.Nodup → (∀ x ∈ acc,0 ≤ x ∧ x.toNat < a.length) →
    ∃ L,Ev (fun k=>impl_knotsOf.l0 k acc kids kids.length (i : Int) a) L ∧ L.length ≤ 1048577 ∧ L.Nodup ∧ (∀ x ∈ L,0 ≤ x ∧ x.toNat < a.length) ∧ ∀ j : Nat,j < a.length → ((j : Int) ∈ L ↔ (j : Int) ∈ acc ∨ (j : Int) ∈ kids.drop i):=by
   intro d
   induction d with
   | zero =>
    intro i acc hi hl hd hb;refine ⟨acc,ev_some fun k=>by simp only [impl_knotsOf.l0];rw [if_neg (by omega)],by omega,hd,hb,fun j _=>?_⟩;rw [List.drop_eq_nil_of_le (by omega)];simp
   | succ d ih =>
    intro i acc hi hl hd hb;have hil : i < kids.length:=by omega
    have st : ∀ k,impl_knotsOf.l0 (k + 1) acc kids kids.length (i : Int) a = if 0 ≤ kids.getD i 0 ∧ kids.getD i 0 ≤ (a.length : Int) - 1 then (impl_hasInt.f k acc (kids.getD i 0)).bind fun t=>if t = true then impl_knotsOf.l0 k acc kids kids.length ((i + 1 : Nat) : Int) a else impl_knotsOf.l0 k (acc ++ [kids.getD i 0]) kids kids.length ((i + 1 : Nat) : Int) a else impl_knotsOf.l0 k acc kids kids.length ((i + 1 : Nat) : Int) a:=fun k=>by
     simp only [impl_knotsOf.l0];rw [if_pos (by omega),if_pos (by omega),if_pos (by omega),rd_nat,w64 (x:=(a.length : Int) - 1) (by omega) (by omega),wsucc (n:=kids.length) hil (by omega)];simp only [in_eq,Option.bind_some,decide_eq_true_eq,if_pos (show acc.length < 17592186044416 by omega)]
    rw [drop_cons 0 hil]
    by_cases h : 0 ≤ kids.getD i 0 ∧ kids.getD i 0 ≤ (a.length : Int) - 1
    ·by_cases h2 : kids.getD i 0 ∈ acc
     ·obtain ⟨L,h3,h4,h6,h7,h5⟩:=ih (i + 1) acc (by omega) (by omega) hd hb;refine ⟨L,Ev.step (fun k=>by rw [st k,if_pos h]) (ev_bind (iHasInt_ev acc _ (by omega)) ?_),h4,h6,h7,fun j hj=>?_⟩
      ·rw [decide_eq_true h2];simp only [if_true];exact h3
      rw [h5 j hj,List.mem_cons];constructor
      ·rintro (h | h)
       ·exact .inl h
       exact .inr (.inr h)
      rintro (h | h | h)
      ·exact .inl h
      ·exact .inl (by rw [h];exact h2)
      exact .inr h
     obtain ⟨L,h3,h4,h6,h7,h5⟩:=ih (i + 1) (acc ++ [kids.getD i 0]) (by omega) (by simp;omega) (nodup_snoc hd h2) (fun x hx=>by
      rcases List.mem_append.1 hx with hx | hx
      ·exact hb x hx
      obtain rfl:=List.mem_singleton.1 hx;exact ⟨h.1,by omega⟩)
     refine ⟨L,Ev.step (fun k=>by rw [st k,if_pos h]) (ev_bind (iHasInt_ev acc _ (by omega)) ?_),h4,h6,h7,fun j hj=>?_⟩
     ·rw [decide_eq_false h2];exact h3
     rw [h5 j hj,List.mem_cons,List.mem_append,List.mem_singleton,or_assoc]
    obtain ⟨L,h3,h4,h8,h7,h5⟩:=ih (i + 1) acc (by omega) (by omega) hd hb;refine ⟨L,Ev.step (fun k=>by rw [st k,if_neg h]) h3,h4,h8,h7,fun j hj=>?_⟩;rw [h5 j hj,List.mem_cons];constructor
    ·rintro (h | h)
     ·exact .inl h
     exact .inr (.inr h)
    rintro (h6 | h6 | h6)
    ·exact .inl h6
    ·exact absurd (by omega) h
    exact .inr h6
  obtain ⟨L,h1,h2,h4,h5,h3⟩:=main kids.length 0 [r] (by omega) (by simp) (by simp) (fun x hx=>by obtain rfl:=List.mem_singleton.1 hx;exact ⟨r0,rl⟩);refine ⟨L,h1,h2,h4,h5,fun i hi=>?_⟩;rw [h3 i hi,hr];simp
 simp only [if_neg hr,Bool.eq_false_iff.mpr hr];exact ⟨[],Ev.now _,by simp,List.nodup_nil,fun x hx=>(by cases hx),fun i hi=>by simp⟩
theorem count_eq {a : List S88} {q r : Int} {L O : List Int} (hd : L.Nodup) (hb : ∀ x ∈ L,0 ≤ x ∧ x.toNat < a.length) (hL : ∀ i : Nat,i < a.length → ((i : Int) ∈ L ↔ keptB a q i = true)) (hO : ∀ i : Nat,i < a.length → ((i : Int) ∈ O ↔ keptB a r i = true)) :
  (L.filter fun x=>decide (x ∈ O)).length = shareB a q r:=by
 refine Nat.le_antisymm (share_ge (List.Pairwise.filter _ hd) fun x hx=>?_) (share_le fun i hi h1 h2=>?_)
 ·obtain ⟨h1,h2⟩:=List.mem_filter.1 hx;obtain ⟨h3,h4⟩:=hb x h1;have e : ((x.toNat : Nat) : Int) = x:=by omega
  exact ⟨h3,h4,(hL _ h4).1 (by rw [e];exact h1),(hO _ h4).1 (by rw [e];exact of_decide_eq_true h2)⟩
 exact List.mem_filter.2 ⟨(hL i hi).2 h1,decide_eq_true ((hO i hi).2 h2)⟩
theorem share_none (a : List S88) (q : Int) : shareB a (-1) q = 0:=by
 have h:=share_le (a:=a) (q:=-1) (r:=q) (M:=[]) (fun i hi h1 _=>by
  unfold keptB at h1;rw [Bool.and_eq_true] at h1;have:=(root_lt h1.1).1
  omega)
 exact Nat.le_zero.1 h
theorem mem_erase {l : List Int} {c : Nat} {v x : Int} (h : x ∈ l.set c v) (hv : x ≠ v) : x ∈ l.eraseIdx c:=by
 induction l generalizing c with
 | nil=>simp at h
 | cons y l ih =>
  cases c with
  | zero =>
   rcases List.mem_cons.1 h with h | h
   ·exact absurd h hv
   exact h
  | succ c =>
   rcases List.mem_cons.1 h with h | h
   ·exact List.mem_cons.2 (.inl h)
   exact List.mem_cons_of_mem _ (ih h)
theorem put_share {a : List S88} {r s n : Int} (h : canPut a r s n) : 2 ≤ shareB (putB a r s n).1 (putB a r s n).2 (putB a r s n).2 ∧ shareB (putB a r s n).1 (putB a r s n).2 r ≤ 3:=by
 have hq:=put_new h;obtain ⟨ha,hr,⟨s0,s1⟩,_⟩:=id h;obtain ⟨t4,_⟩:=top_right ha hr;have e:=put_eq h;rw [e] at hq;rw [e];simp only at hq ⊢
 have hk : ∀ i : Nat,keptB (a ++ [⟨true,(leafB a r s).set (s % 4).toNat n⟩,⟨false,(topB a r).set (s / 4).toNat (a.length : Int)⟩]) ((a.length : Int) + 1) i = true ↔ i = a.length + 1 ∨ (i : Int) ∈ (topB a r).set (s / 4).toNat (a.length : Int):=fun i=>by
  unfold keptB;rw [hq,Bool.true_and,Bool.or_eq_true,decide_eq_true_eq,decide_eq_true_eq,show ((a.length : Int) + 1).toNat = a.length + 1 by omega,getD_app1];constructor
  ·rintro (h | h)
   ·exact .inl (by omega)
   exact .inr h
  rintro (h | h)
  ·exact .inl (by omega)
  exact .inr h
 constructor
 ·have:=share_ge (a:=a ++ [⟨true,(leafB a r s).set (s % 4).toNat n⟩,⟨false,(topB a r).set (s / 4).toNat (a.length : Int)⟩]) (q:=(a.length : Int) + 1) (r:=(a.length : Int) + 1) (L:=[(a.length : Int),(a.length : Int) + 1]) (by simp;omega) (fun x hx=>by
   have k1:=(hk (a.length + 1)).2 (.inl rfl);have k2:=(hk a.length).2 (.inr (List.mem_iff_getElem.2 ⟨(s / 4).toNat,by rw [List.length_set];omega,by rw [List.getElem_set_self]⟩));rcases List.mem_cons.1 hx with rfl | hx
   ·rw [Int.toNat_natCast];exact ⟨by omega,by simp,k2,k2⟩
   obtain rfl:=List.mem_singleton.1 hx;rw [show ((a.length : Int) + 1).toNat = a.length + 1 by omega]
   exact ⟨by omega,by simp,k1,k1⟩)
  exact this
 have:=share_le (a:=a ++ [⟨true,(leafB a r s).set (s % 4).toNat n⟩,⟨false,(topB a r).set (s / 4).toNat (a.length : Int)⟩]) (q:=(a.length : Int) + 1) (r:=r) (M:=(topB a r).eraseIdx (s / 4).toNat) (fun i hi h1 h2=>by
  have hlt : i < a.length:=by
   rcases hr with hr | hr
   ·unfold keptB at h2;rw [Bool.and_eq_true] at h2;have:=(root_lt h2.1).1;omega
   obtain ⟨r0,rl,rf⟩:=root_lt hr;unfold keptB at h2;rw [getD_app rl,Bool.and_eq_true,Bool.or_eq_true,decide_eq_true_eq,decide_eq_true_eq] at h2;rcases h2.2 with h2 | h2
   ·omega
   have h3:=(knot_of ha rl).2 _ h2;rw [rf] at h3;rcases kid_top.1 h3 with h3 | h3
   ·omega
   omega
  rcases (hk i).1 h1 with h1 | h1
  ·omega
  exact mem_erase h1 (by omega))
 rw [List.length_eraseIdx_of_lt (by omega),t4] at this;exact this
end Go.Proofs.Yteideicglgpfiaa.Pu

namespace Go.Proofs.Yteideicglgpfiaa.M2.Mp
set_option linter.unusedVariables false
set_option linter.unusedSimpArgs false
open Go.RowKit Go.Proofs.Yteideicglgpfiaa.PK Go.Proofs.YteideicglgpfiaaW.PrintWords Go.Proofs.Yteideicglgpfiaa.Pu
def Inv (v : List S53) (a : List S88) (n : Int) : Prop:=storeB v a n = true ∧ (∀ x ∈ v,x.f0 ≤ 3) ∧ n ≤ 10
theorem swept_ids {v : List S53} {a : List S88} : ∀ x ∈ sweptV v a,∃ y ∈ v,x.f0 = y.f0:=by
 intro x hx;unfold sweptV zipR at hx;obtain ⟨i,hi,rfl⟩:=List.mem_map.1 hx;rw [List.mem_range'_1] at hi;exact ⟨v.getD i z53,by rw [gdE _ (show i < v.length by omega)];exact List.getElem_mem _,rfl⟩
theorem enter_inv {v : List S53} {a : List S88} {n t w s c : Int} (hI : Inv v a n) (ht : t ≠ 1) (hw : w ≤ 3) (hc : c ≤ 9) {v' : List S53} {a' : List S88} {n' : Int} (h : enterB v a n t w s c = some (v',a',n')) : Inv v' a' n':=by
 refine ⟨(enter_right h).1,?_⟩;obtain ⟨h1,h2,h3⟩:=hI;unfold enterB at h
 split at h
 rotate_left
 ·cases h
 try rw [if_neg ht] at h
 split at h
 ·split at h
  ·cases h
  injection h with h;injection h with e1 h;injection h with e2 e3;subst e1 e2 e3;refine ⟨fun x hx=>?_,h3⟩;rcases mem_ins.1 hx with rfl | ⟨hx,_⟩
  ·exact hw
  exact h2 x hx
 split at h
 ·cases h
 split at h
 ·injection h with h;injection h with e1 h;injection h with e2 e3;subst e1 e2 e3;refine ⟨fun x hx=>?_,h3⟩;obtain ⟨y,hy,e⟩:=swept_ids x hx;rw [e];rcases List.mem_append.1 hy with hy | hy
  ·exact h2 y (List.mem_of_mem_take hy)
  exact h2 y (List.mem_of_mem_drop hy)
 rename_i hg _;have hne : ¬ volB v w = -1:=fun e=>hg (.inl e);obtain ⟨j,j1,j2,j3⟩:=volB_some hne;simp only at h;injection h with h;injection h with e1 h;injection h with e2 e3;subst e1 e2 e3;refine ⟨fun x hx=>?_,by split <;> omega⟩;obtain ⟨y,hy,e⟩:=swept_ids x hx;rw [e];rcases List.mem_or_eq_of_mem_set hy with hy | rfl
 ·exact h2 y hy
 show (v.getD (volB v w).toNat z53).f0 ≤ 3;rw [j2];have hm : v.getD (((j : Nat) : Int)).toNat z53 ∈ v:=by rw [Int.toNat_natCast,gdE _ j1];exact List.getElem_mem j1
 exact h2 _ hm
theorem entI {v : List S53} {a : List S88} {n : Int} (h : Inv v a n) (ha : a.length ≤ 1000) (t w s c : Int) (ht : t ≠ 1) (hw : w ≤ 3) (hc : c ≤ 9) : EvX (fun k=>spec_Enter.f k n t w s c v a) (fun r=>Inv r.1 r.2.1 r.2.2.1 ∧ r.2.1.length ≤ a.length + 2):=by
 refine evx_mono (enterX v a n t w s c (by have:=(right_sz h.1).1;omega) (by omega) (right_sz h.1).2) fun r hr=>?_;subst hr;unfold entR;cases e : enterB v a n t w s c with
 | none=>exact ⟨h,by show a.length ≤ _;omega⟩
 | some q=>exact ⟨enter_inv (v':=q.1) (a':=q.2.1) (n':=q.2.2) h ht hw hc e,(enter_right (v':=q.1) (a':=q.2.1) (n':=q.2.2) e).2⟩
theorem recI {b : List Int} (hb : Cb b) (c : List Int) (i h : Int) (hc : c = b ∧ Cur b i) : EvX (fun k=>spec_l09Rec.f k c i h) (fun t=>(t.1 ≠ 1 ∧ t.2.1 ≤ 3 ∧ t.2.2.2.1 ≤ 9) ∧ (t.2.2.2.2.1 = b ∧ Cur b t.2.2.2.2.2.1)):=by
 obtain ⟨rfl,hc⟩:=hc;simp only [spec_l09Rec.f];refine evx_bind (pickIntX _ c i h (by decide) hc hb) fun t1 ⟨h1,h2⟩=>?_
 have hk : t1.1 ≠ 1:=by
  simp only [List.mem_cons,List.not_mem_nil,or_false] at h1;omega
 refine evx_bind (belowC hb 3 _ _ _ (by omega) h2) fun t2 ⟨h3,h4⟩=>?_;rw [m64i (x:=1 + t2.1) (by omega) (by omega)];refine evx_ite (fun _=>?_) (fun _=>evx_ite (fun _=>?_) (fun _=>evx_ite (fun _=>?_) (fun _=>?_)))
 ·obtain ⟨e,h4⟩:=h4;rw [e];refine evx_bind (pickIntX _ c _ _ (by decide) h4 hb) fun t3 ⟨_,h5⟩=>evx_some ?_;exact ⟨⟨hk,by show 1 + t2.1 ≤ 3;omega,by show (0 : Int) ≤ 9;decide⟩,h5⟩
 ·refine evx_bind (belowC hb 16 _ _ _ (by omega) h4) fun t4 ⟨_,h5⟩=>?_;refine evx_bind (belowC hb 9 _ _ _ (by omega) h5) fun t5 ⟨h6,h7⟩=>evx_some ?_;refine ⟨⟨hk,by show 1 + t2.1 ≤ 3;omega,?_⟩,h7⟩;show M2.w64 (1 + t5.1) ≤ 9;rw [m64i (by omega) (by omega)];omega
 ·refine evx_bind (belowC hb 16 _ _ _ (by omega) h4) fun t4 ⟨_,h5⟩=>evx_some ?_;exact ⟨⟨hk,by show 1 + t2.1 ≤ 3;omega,by show (0 : Int) ≤ 9;decide⟩,h5⟩
 exact evx_some ⟨⟨hk,by show 1 + t2.1 ≤ 3;omega,by show (0 : Int) ≤ 9;decide⟩,h4⟩
theorem vol_id {v : List S53} {a : List S88} {n : Int} (h : Inv v a n) {i : Int} (h0 : 0 ≤ i) (h1 : i < (v.length : Int)) : (rd_T53 v i).f0 ≤ 3:=h.2.1 _ (by
 show v.getD i.toNat z53 ∈ v
 rw [gdE _ (show i.toNat < v.length by omega)];exact List.getElem_mem _)
theorem storeI {b : List Int} (hb : Cb b) (c : List Int) (i h : Int) (hc : c = b ∧ Cur b i) : EvX (fun k=>spec_l12Store.f k c i h) (fun r=>(Inv r.1 r.2.1 r.2.2.1 ∧ r.2.1.length ≤ 28) ∧ (r.2.2.2.1 = b ∧ Cur b r.2.2.2.2.1)):=by
 have main : ∀ (d i : Nat),i + d = 14 → ∀ (c : List Int) (j g : Int) (p1 : List S53) (p2 : List S88) (p3 : Int) (v : List S53) (a : List S88) (n : Int),(c = b ∧ Cur b j) → Inv v a n → a.length ≤ 2 * i →
   EvX (fun k=>spec_l12Store.c3 k (i : Int) c j g p1 p2 p3 v a n) (fun r=>(Inv r.1 r.2.1 r.2.2.1 ∧ r.2.1.length ≤ 28) ∧ (r.2.2.2.1 = b ∧ Cur b r.2.2.2.2.1)):=by
  intro d
  induction d with
  | zero =>
   intro i hi c j g p1 p2 p3 v a n hc hR hA;refine evx_step (fun k=>by rw [spec_l12Store.c3]) (evx_bind (belowC hb 14 c j g (by omega) hc) fun t ht=>?_);have h1:=ht.1;have h2:=ht.2;exact evx_neg (by omega) (evx_some ⟨⟨hR,by show a.length ≤ 28;omega⟩,h2⟩)
  | succ d ih =>
   intro i hi c j g p1 p2 p3 v a n hc hR hA;have ih2:=ih (i + 1) (by omega);rw [← m64 (i:=i) (n:=14) (by omega) (by omega)] at ih2;have hA2 : a.length ≤ 1000:=by omega
   refine evx_step (fun k=>by rw [spec_l12Store.c3]) (evx_bind (belowC hb 14 c j g (by omega) hc) fun t ht=>?_);have h1:=ht.1;have h2:=ht.2;clear ht;refine evx_ite (fun hlt=>?_) (fun _=>evx_some ⟨⟨hR,by show a.length ≤ 28;omega⟩,h2⟩);refine evx_bind (recI hb _ _ _ h2) fun t3 ⟨⟨r1,r2,r3⟩,h3⟩=>?_;have w1 : ∀ x : Int,0 ≤ x → x < 9 → M2.w64 (1 + x) ≤ 9:=fun x q1 q2=>by rw [m64i (by omega) (by omega)];omega
   have w2 : ∀ x : Int,0 ≤ x → x < 3 → M2.w64 (1 + x) ≤ 3:=fun x q1 q2=>by rw [m64i (by omega) (by omega)];omega
   repeat' first
    | exact evx_bind (entI hR hA2 _ _ _ _ (by first | assumption | decide) (by first | assumption | exact w2 _ (And.left ‹_›) (And.right ‹_›) | exact vol_id hR (And.left ‹_›) (And.right ‹_›)) (by first | assumption | decide | exact w1 _ (And.left ‹_›) (And.right ‹_›))) (fun r hr=>ih2 _ _ _ _ _ _ _ _ _ (by assumption) hr.1 (by have:=hr.2;omega))
    | refine evx_bind (onceC hb _ _ _ _ (by omega) (by assumption)) (fun t ht=>?_)
    | refine evx_bind (belowC hb _ _ _ _ (by omega) (by assumption)) (fun t ⟨ht1,ht2⟩=>?_)
    | refine evx_pos (by omega) ?_
    | refine evx_neg (by omega) ?_
    | refine evx_ite (fun hif=>?_) (fun hif=>?_)
 simp only [spec_l12Store.f,spec_StoreNew.f];exact main 14 0 (by omega) c i h [] [] 0 [] [] 1 hc ⟨right_iff.2 ⟨⟨Nat.zero_le _,rfl,by omega,List.Pairwise.nil,fun x hx=>by cases hx⟩,fun j hj=>absurd hj (Nat.not_lt_zero _)⟩,(fun x hx=>by cases hx),by decide⟩ (Nat.zero_le _)
def RecI (t w s c : Int) : Prop:=(t ≠ 1 ∧ w ≤ 3 ∧ c ≤ 9) ∨ (t = 1 ∧ w = 0 ∧ s = 4 ∧ c = 0)
theorem storeRecI (b : List Int) (hb : Cb b) : EvX (fun k=>spec_DrawStoreRec.f k b) (fun r=>(Inv r.1 r.2.1 r.2.2.1 ∧ r.2.1.length ≤ 28) ∧ RecI r.2.2.2.1 r.2.2.2.2.1 r.2.2.2.2.2.1 r.2.2.2.2.2.2):=by
 simp only [spec_DrawStoreRec.f];refine evx_bind (newX b hb) fun t1 h1=>?_;refine evx_bind (storeI hb _ _ _ h1) fun t2 ⟨hR,h2⟩=>?_;refine evx_bind (recI hb _ _ _ h2) fun t3 ⟨r1,h3⟩=>?_
 repeat' first
  | exact evx_some ⟨hR,.inl r1⟩
  | exact evx_some ⟨hR,.inr ⟨rfl,rfl,rfl,rfl⟩⟩
  | exact evx_some ⟨hR,.inl ⟨r1.1,vol_id hR.1 (And.left ‹_›) (And.right ‹_›),r1.2.2⟩⟩
  | refine evx_bind (onceC hb _ _ _ _ (by omega) (by assumption)) (fun t ht=>?_)
  | refine evx_bind (belowC hb _ _ _ _ (by omega) (by assumption)) (fun t ⟨ht1,ht2⟩=>?_)
  | refine evx_pos (by omega) ?_
  | refine evx_neg (by omega) ?_
  | refine evx_ite (fun hif=>?_) (fun hif=>?_)
theorem right_small {v : List S53} {a : List S88} {n : Int} (h : storeB v a n = true) : a.length ≤ 15:=by
 obtain ⟨hh,hf⟩:=right_iff.1 h
 have hn : ((List.range a.length).map fun i : Nat=>(i : Int)).Nodup:=by
  rw [List.nodup_iff_pairwise_ne,List.pairwise_map];exact List.nodup_range.imp fun h e=>h (by omega)
 have hl:=nodup_le (M:=v.flatMap fun x=>x.f1 :: (a.getD x.f1.toNat z88).f1) hn fun x hx=>by
  obtain ⟨i,hi,rfl⟩:=List.mem_map.1 hx;rw [List.mem_range] at hi;obtain ⟨r,hr,hb,hk⟩:=keep_iff.1 (hf i hi);obtain ⟨y,hy,rfl⟩:=List.mem_map.1 hr
  exact List.mem_flatMap.2 ⟨y,hy,by
   rcases hk with hk | hk
   ·rw [hk];exact List.mem_cons_self
   exact List.mem_cons_of_mem _ hk⟩
 rw [List.length_map,List.length_range] at hl
 have hm : ∀ u : List S53,(u.flatMap fun x=>x.f1 :: (a.getD x.f1.toNat z88).f1).length ≤ 5 * u.length:=by
  intro u
  induction u with
  | nil=>exact Nat.le_refl _
  | cons x u ih =>
   rw [List.flatMap_cons,List.length_append,List.length_cons,List.length_cons]
   have : (a.getD x.f1.toNat z88).f1.length ≤ 4:=by
    by_cases hi : x.f1.toNat < a.length
    ·rw [gdE _ hi];exact Nat.le_of_eq (woods_len hh.2.1 _ (List.getElem_mem hi))
    rw [List.getD_eq_getElem?_getD,List.getElem?_eq_none (by omega)];exact Nat.zero_le _
   omega
 have:=hm v;have:=hh.1;omega
def entL : List S40 → List S53 → List S88 → Int → Option (List S53 × List S88 × Int)
 | [],v,a,n=>some (v,a,n)
 | r :: L,v,a,n=>(enterB v a n r.f0 r.f1 r.f2 r.f3).bind fun q=>entL L q.1 q.2.1 q.2.2
def allR (L : List S40) (v : List S53) (a : List S88) (n : Int) : List S53 × List S88 × Int × Bool :=
 match entL L v a n with
 | some q=>(q.1,q.2.1,q.2.2,true)
 | none=>(v,a,n,false)
theorem iAllX (L : List S40) (v : List S53) (a : List S88) (n : Int) (hL : L.length ≤ 1048576) (hv : v.length ≤ 1048576) (hn : a.length ≤ 1000000) (hx : Sz a) : EvX (fun k=>impl_EnterAll.f k v a n L) (fun r=>r = allR L v a n):=by
 simp only [impl_EnterAll.f];refine evx_bind (iCopyX v a n hv (by omega) hx) fun t1 e1=>?_;subst e1
 have main : ∀ (d i : Nat),i + d = L.length → ∀ (p1 : List S53) (p2 : List S88) (p3 : Int) (v1 : List S53) (a1 : List S88) (n1 : Int),v1.length ≤ 1048576 → a1.length ≤ 1000000 → Sz a1 →
   EvX (fun k=>impl_EnterAll.c3 k L (L.length : Int) (i : Int) v a n p1 p2 p3 v1 a1 n1) (fun r=>r = match entL (L.drop i) v1 a1 n1 with
    | some q=>(q.1,q.2.1,q.2.2,true)
    | none=>(v,a,n,false)):=by
  intro d
  induction d with
  | zero =>
   intro i hi p1 p2 p3 v1 a1 n1 q1 q2 q3;rw [List.drop_eq_nil_of_le (by omega)];refine evx_step (fun k=>by rw [impl_EnterAll.c3]) ?_;refine evx_neg (by omega) (evx_some ?_);rfl
  | succ d ih =>
   intro i hi p1 p2 p3 v1 a1 n1 q1 q2 q3;have hil : i < L.length:=by omega
   rw [drop_one z40 hil];refine evx_step (fun k=>by rw [impl_EnterAll.c3]) (evx_pos (by omega) (evx_pos (by omega) (evx_pos (by omega) ?_)));rw [show rd_T40 L (i : Int) = L.getD i z40 from rfl,m64 (n:=L.length) hil (by omega)];generalize L.getD i z40 = r;refine evx_bind (iEnterX v1 a1 n1 r.f0 r.f1 r.f2 r.f3 q1 q2 q3) fun t2 e2=>?_;unfold entR at e2;unfold entL;cases e : enterB v1 a1 n1 r.f0 r.f1 r.f2 r.f3 with
   | none =>
    rw [e] at e2;subst e2;refine evx_neg (by simp) (evx_bind (iCopyX v a n hv (by omega) hx) fun t e=>evx_some ?_);subst e;rfl
   | some q =>
    rw [e] at e2;subst e2;have hR:=(enter_right (v':=q.1) (a':=q.2.1) (n':=q.2.2) e).1;have h1:=right_small hR;have h2:=right_sz hR;exact evx_pos rfl (ih (i + 1) (by omega) _ _ _ q.1 q.2.1 q.2.2 (by omega) (by omega) h2.2)
 have h:=main L.length 0 (by omega) [] [] 0 v a n hv hn hx;exact h
theorem same_refl (v : List S53) (a : List S88) (n : Int) : sameB v a n v a n = true:=by
 unfold sameB;rw [if_pos ⟨rfl,rfl⟩]
 have : ∀ d i,sameFrom v a v a d i = true:=by
  intro d
  induction d with
  | zero=>intro i;rfl
  | succ d ih =>
   intro i;unfold sameFrom;simp [ih (i + 1)]
 exact this _ _
theorem iSameX (v : List S53) (a : List S88) (n : Int) (w : List S53) (b : List S88) (m : Int) (hv : v.length ≤ 1048576) (ha : a.length ≤ 1048576) (hb : b.length ≤ 1048576) : EvX (fun k=>impl_SameStore.f k v a n w b m) (fun r=>r = sameB v a n w b m) :=
 ⟨_,ev_rel (iSame_ev v a n w b m hv (by omega) (by omega)) (fun k r hh mm hm=>impl_SameStore.rel k v a n w b m r hh mm hm),rfl⟩
end Go.Proofs.Yteideicglgpfiaa.M2.Mp

namespace Go.Proofs.Yteideicglgpfiaa.Pu
set_option linter.unusedVariables false
set_option linter.unusedSimpArgs false
open Go.RowKit Go.Proofs.Yteideicglgpfiaa.PK Go.Proofs.YteideicglgpfiaaW.PrintWords
theorem chunk_mem {v : List S53} {a : List S88} {n : Int} (h : Half v a n) {x : S53} (hx : x ∈ v) (s : Int) : chunkB v a x.f0 s = getB a x.f1 s:=by
 obtain ⟨i,hi,rfl⟩:=List.getElem_of_mem hx;have e:=volB_at h.2.2.2.1 hi;rw [gdE _ hi] at e;unfold chunkB;rw [e,if_neg (by omega),Int.toNat_natCast,gdE _ hi]
theorem swept_mem {v : List S53} {a : List S88} {n : Int} (h : Half v a n) {y : S53} (hy : y ∈ v) (s : Int) : chunkB (sweptV v a) (sweptA v a) y.f0 s = getB a y.f1 s:=by
 obtain ⟨g1,g2,g3,g4⟩:=right_swept h;obtain ⟨i,hi,rfl⟩:=List.getElem_of_mem hy;have hl : (sweptV v a).length = v.length:=zipR_len _ _;obtain ⟨e1,e2⟩:=g3 i hi;have hm : (sweptV v a).getD i z53 ∈ sweptV v a:=by rw [gdE _ (by omega)];exact List.getElem_mem _
 have h1:=chunk_mem g1 hm s;rw [e1,gdE _ hi] at h1;rw [h1,all_get e2 s,gdE _ hi]
theorem chunk_none {v : List S53} {a : List S88} {id s : Int} (h : volB v id = -1) : chunkB v a id s = 0:=by
 unfold chunkB;rw [if_pos (by omega)]
theorem volB_mem {v : List S53} {id : Int} {j : Nat} (h1 : j < v.length) (h2 : (v.getD j z53).f0 = id) : ∃ x ∈ v,x.f0 = id ∧ x = v.getD j z53:=⟨v.getD j z53,by rw [gdE _ h1];exact List.getElem_mem h1,h2,rfl⟩
def putV (v : List S53) (a : List S88) (j : Nat) (s c : Int) : List S53:=v.set j ⟨(v.getD j z53).f0,(putB a (v.getD j z53).f1 s c).2⟩
def putA (v : List S53) (a : List S88) (j : Nat) (s c : Int) : List S88:=(putB a (v.getD j z53).f1 s c).1
theorem enter_cases {v : List S53} {a : List S88} {n t w s c : Int} {q : List S53 × List S88 × Int} (h : enterB v a n t w s c = some q) :
  storeB v a n = true ∧ recOk t w s c = true ∧ ((t = 1 ∧ q = ([],[],if s = 0 then 1 else s)) ∨
   (t = 2 ∧ volB v w = -1 ∧ ¬ (s > 0 ∧ volB v s = -1) ∧ v.length < 3 ∧ q = (insV v ⟨w,rootOf v s⟩,a,n)) ∨
   (∃ j,j < v.length ∧ (v.getD j z53).f0 = w ∧ t = 3 ∧ q = (sweptV (v.take j ++ v.drop (j + 1)) a,sweptA (v.take j ++ v.drop (j + 1)) a,n)) ∨
   (∃ j,j < v.length ∧ (v.getD j z53).f0 = w ∧ (t = 4 ∨ t = 5 ∧ c = 0) ∧ (0 ≤ s ∧ s ≤ 15) ∧ 0 ≤ c ∧ c < 1000000000 ∧ q = (sweptV (putV v a j s c) (putA v a j s c),sweptA (putV v a j s c) (putA v a j s c),if c ≥ n then c + 1 else n))):=by
 unfold enterB at h
 split at h
 rotate_left
 ·cases h
 rename_i h0;have hro:=h0.2;unfold recOk at hro;rw [decide_eq_true_eq] at hro;refine ⟨h0.1,h0.2,?_⟩
 split at h
 ·rename_i t1;injection h with h;exact .inl ⟨t1,h.symm⟩
 rename_i t1
 split at h
 ·rename_i t2
  split at h
  ·cases h
  rename_i hg;injection h with h
  have e1 : volB v w = -1:=by
   by_cases e : volB v w = -1
   ·exact e
   exact absurd (.inr (.inl e)) hg
  have e2 : ¬ v.length = 3:=fun e=>hg (.inr (.inr e));have:=(right_iff.1 h0.1).1.1;exact .inr (.inl ⟨t2,e1,fun g=>hg (.inl g),by omega,h.symm⟩)
 rename_i t2
 split at h
 ·cases h
 rename_i hg;obtain ⟨j,j1,j2,j3⟩:=volB_some (fun e=>hg (.inl e));have hc : ¬ c = 1000000000:=fun e=>hg (.inr e);have e4 : (volB v w).toNat = j:=by omega
 rw [e4] at h
 split at h
 ·rename_i t3;injection h with h;exact .inr (.inr (.inl ⟨j,j1,j3,t3,h.symm⟩))
 rename_i t3;simp only at h;injection h with h;exact .inr (.inr (.inr ⟨j,j1,j3,by omega,by omega,by omega,by omega,h.symm⟩))
theorem put_mem {v : List S53} {a : List S88} {j : Nat} {s c : Int} (hj : j < v.length) : ⟨(v.getD j z53).f0,(putB a (v.getD j z53).f1 s c).2⟩ ∈ putV v a j s c:=by
 unfold putV;exact List.mem_of_getElem? (i:=j) (by rw [List.getElem?_set,if_pos rfl,if_pos hj])
theorem put_chunk {v : List S53} {a : List S88} {n s c : Int} {j : Nat} (h : Half v a n) (hj : j < v.length) (hs : 0 ≤ s ∧ s ≤ 15) (hc : 0 ≤ c) (hm : c < 1000000000) (i : Int) (hi : 0 ≤ i ∧ i ≤ 15) :
  chunkB (sweptV (putV v a j s c) (putA v a j s c)) (sweptA (putV v a j s c) (putA v a j s c)) (v.getD j z53).f0 i = if i = s then c else chunkB v a (v.getD j z53).f0 i:=by
 obtain ⟨hcan,hp⟩:=half_put (s:=s) (c:=c) h hj hs hc hm;have h1:=swept_mem hp (put_mem (a:=a) (s:=s) (c:=c) hj) i;have hm2 : v.getD j z53 ∈ v:=by rw [gdE _ hj];exact List.getElem_mem hj
 rw [chunk_mem h hm2];exact h1.trans (put_get hcan hi.1 hi.2)
theorem put_other {v : List S53} {a : List S88} {n s c : Int} {j : Nat} (h : Half v a n) (hj : j < v.length) (hs : 0 ≤ s ∧ s ≤ 15) (hc : 0 ≤ c) (hm : c < 1000000000) {y : S53} (hy : y ∈ v) (hne : ¬ y.f0 = (v.getD j z53).f0) (i : Int) :
  chunkB (sweptV (putV v a j s c) (putA v a j s c)) (sweptA (putV v a j s c) (putA v a j s c)) y.f0 i = chunkB v a y.f0 i:=by
 obtain ⟨hcan,hp⟩:=half_put (s:=s) (c:=c) h hj hs hc hm
 have hy2 : y ∈ putV v a j s c:=by
  obtain ⟨q,hq,rfl⟩:=List.getElem_of_mem hy;have hne2 : ¬ j = q:=fun e=>hne (by subst e;rw [gdE _ hj]);unfold putV;exact List.mem_of_getElem? (i:=q) (by rw [List.getElem?_set,if_neg hne2,List.getElem?_eq_getElem hq])
 refine (swept_mem hp hy2 i).trans ?_;rw [chunk_mem h hy];exact put_old hcan (h.2.2.2.2 y hy).2.1
theorem ins_chunk {v : List S53} {a : List S88} {n : Int} {x : S53} (h : Half (insV v x) a n) (i : Int) : chunkB (insV v x) a x.f0 i = getB a x.f1 i:=chunk_mem h (mem_ins.2 (.inl rfl)) i
theorem root_chunk {v : List S53} {a : List S88} {n : Int} (h : Half v a n) {s : Int} (hs : s > 0) (hn : ¬ volB v s = -1) (i : Int) : getB a (rootOf v s) i = chunkB v a s i:=by
 obtain ⟨j,j1,j2,j3⟩:=volB_some hn;unfold rootOf chunkB;rw [if_pos hs,if_neg (by omega)]
theorem insV_len {v : List S53} {x : S53} (h : ∀ y ∈ v,¬ y.f0 = x.f0) : (insV v x).length = v.length + 1:=by
 have : ∀ u : List S53,(∀ y ∈ u,¬ y.f0 = x.f0) → (u.filter (fun y=>decide (y.f0 < x.f0))).length + (u.filter fun y=>decide (y.f0 > x.f0)).length = u.length:=by
  intro u
  induction u with
  | nil=>intro _;rfl
  | cons y u ih =>
   intro hu;have h1:=hu y List.mem_cons_self;have h2:=ih fun z hz=>hu z (List.mem_cons_of_mem _ hz);rw [List.filter_cons,List.filter_cons]
   by_cases h3 : y.f0 < x.f0
   ·rw [if_pos (decide_eq_true h3),if_neg (by rw [decide_eq_false (by omega)];decide),List.length_cons,List.length_cons];omega
   rw [if_neg (by rw [decide_eq_false h3];decide),if_pos (decide_eq_true (by omega)),List.length_cons,List.length_cons];omega
 have:=this v h;unfold insV;rw [List.length_append,List.length_append,List.length_singleton];omega
end Go.Proofs.Yteideicglgpfiaa.Pu

namespace Go.Proofs.Yteideicglgpfiaa.Pu
set_option linter.unusedVariables false
set_option linter.unusedSimpArgs false
open Go.RowKit Go.Proofs.Yteideicglgpfiaa.PK Go.Proofs.YteideicglgpfiaaW.PrintWords
def putsB (id : Int) (L : List Int) (j d : Nat) : List S40:=((List.range' j d).filter fun j=>decide (L.getD j 0 > 0)).map fun (j : Nat)=>(⟨4,id,(j : Int),L.getD j 0⟩ : S40)
theorem putsB_le (id : Int) (L : List Int) (j d : Nat) : (putsB id L j d).length ≤ d:=by
 unfold putsB;rw [List.length_map];exact Nat.le_trans (List.length_filter_le _ _) (by simp)
theorem puts_step (id : Int) (L : List Int) (j d : Nat) (acc : List S40) : acc ++ putsB id L j (d + 1) = (if L.getD j 0 > 0 then acc ++ [(⟨4,id,(j : Int),L.getD j 0⟩ : S40)] else acc) ++ putsB id L (j + 1) d:=by
 unfold putsB;rw [List.range'_succ]
 by_cases h : L.getD j 0 > 0
 ·rw [if_pos h,List.filter_cons_of_pos (p:=fun j=>decide (L.getD j 0 > 0)) (a:=j) (decide_eq_true h),List.map_cons,List.append_assoc];rfl
 rw [if_neg h,List.filter_cons_of_neg (p:=fun j=>decide (L.getD j 0 > 0)) (a:=j) (by rw [decide_eq_true_iff];exact h)]
def volR (a : List S88) (x : S53) : List S40:=(⟨2,x.f0,0,0⟩ : S40) :: putsB x.f0 (allB a x.f1) 0 16
def baseB (v : List S53) (a : List S88) (n : Int) : List S40:=(⟨1,0,n,0⟩ : S40) :: v.flatMap (volR a)
theorem volR_le (a : List S88) (x : S53) : (volR a x).length ≤ 17:=by
 have:=putsB_le x.f0 (allB a x.f1) 0 16;unfold volR;simp only [List.length_cons];omega
theorem vols_le (a : List S88) : ∀ v : List S53,(v.flatMap (volR a)).length ≤ 17 * v.length
 | []=>by simp
 | x :: v=>by
  have h1:=volR_le a x;have h2:=vols_le a v;rw [List.flatMap_cons,List.length_append,List.length_cons];omega
theorem baseB_le (v : List S53) (a : List S88) (n : Int) (hv : v.length ≤ 1048576) : (baseB v a n).length ≤ 17825793:=by
 have:=vols_le a v;unfold baseB;simp only [List.length_cons];omega
theorem iBase_ev (v : List S53) (a : List S88) (n : Int) (hv : v.length ≤ 1048576) (ha : a.length ≤ 9223372036854775807) : Ev (fun k=>impl_BaseRecs.f k v a n) (baseB v a n):=by
 have inner : ∀ (i : Nat) (L : List Int),i < v.length → L.length = 16 → ∀ r,∀ (d j : Nat) (acc : List S40),j + d = 16 → acc.length + d ≤ 4398046511103 → Ev (fun k=>impl_BaseRecs.l0 k (acc ++ putsB (v.getD i z53).f0 L j d) v (v.length : Int) ((i + 1 : Nat) : Int) v a n) r →
   Ev (fun k=>impl_BaseRecs.l1 k acc v (v.length : Int) (i : Int) L (L.length : Int) (j : Int) v a n (v.getD i z53).f0 (v.getD i z53).f1) r:=by
  intro i L hi hL r d
  induction d with
  | zero =>
   intro j acc hj hb hr;refine Ev.step (fun k=>?_) hr;simp only [impl_BaseRecs.l1];rw [if_neg (by omega),wsucc (n:=v.length) hi (by omega)];simp [putsB]
  | succ d ih =>
   intro j acc hj hb hr;rw [puts_step] at hr;have er : rd L (j : Int) = L.getD j 0:=rfl
   by_cases h : L.getD j 0 > 0
   ·simp only [if_pos h] at hr;refine Ev.step (fun k=>?_) (ih (j + 1) _ (by omega) (by rw [List.length_append];simp;omega) hr);simp only [impl_BaseRecs.l1];rw [if_pos (by omega),if_pos (by omega),if_pos (by omega),er,if_pos h,if_pos (by omega),wsucc (n:=16) (by omega) (by omega)]
   simp only [if_neg h] at hr;refine Ev.step (fun k=>?_) (ih (j + 1) _ (by omega) (by omega) hr);simp only [impl_BaseRecs.l1];rw [if_pos (by omega),if_pos (by omega),if_pos (by omega),er,if_neg h,wsucc (n:=16) (by omega) (by omega)]
 have main : ∀ (d i : Nat) (acc : List S40),i + d = v.length → acc.length + 17 * d ≤ 4398046511103 → Ev (fun k=>impl_BaseRecs.l0 k acc v (v.length : Int) (i : Int) v a n) (acc ++ (v.drop i).flatMap (volR a)):=by
  intro d
  induction d with
  | zero=>intro i acc hi hb;exact ev_some fun k=>by simp only [impl_BaseRecs.l0];rw [if_neg (by omega),List.drop_eq_nil_of_le (by omega)];simp
  | succ d ih =>
   intro i acc hi hb;have hp:=putsB_le (v.getD i z53).f0 (allB a (v.getD i z53).f1) 0 16;have h:=ih (i + 1) ((acc ++ [(⟨2,(v.getD i z53).f0,0,0⟩ : S40)]) ++ putsB (v.getD i z53).f0 (allB a (v.getD i z53).f1) 0 16) (by omega) (by rw [List.length_append,List.length_append];simp only [List.length_cons,List.length_nil];omega);rw [drop_get z53 (by omega),List.flatMap_cons]
   have e1 : acc ++ (volR a (v.getD i z53) ++ (v.drop (i + 1)).flatMap (volR a)) = ((acc ++ [(⟨2,(v.getD i z53).f0,0,0⟩ : S40)]) ++ putsB (v.getD i z53).f0 (allB a (v.getD i z53).f1) 0 16) ++ (v.drop (i + 1)).flatMap (volR a):=by
    simp [volR]
   rw [e1];refine Ev.step (f:=fun k=>(impl_AllAt.f k a (v.getD i z53).f1).bind fun t=>impl_BaseRecs.l1 k (acc ++ [(⟨2,(v.getD i z53).f0,0,0⟩ : S40)]) v (v.length : Int) (i : Int) t (t.length : Int) 0 v a n (v.getD i z53).f0 (v.getD i z53).f1) (fun k=>?_) (ev_bind (iAllAt_ev a _ ha) ?_)
   ·simp only [impl_BaseRecs.l0];rw [if_pos (by omega),if_pos (by omega),if_pos (by omega),if_pos (by omega),rdIV_nat]
   exact inner i _ (by omega) (allB_len _ _) _ 16 0 _ (by omega) (by rw [List.length_append];simp only [List.length_cons,List.length_nil];omega) h
 have h:=main v.length 0 [(⟨1,0,n,0⟩ : S40)] (by omega) (by simp only [List.length_cons,List.length_nil];omega);exact h
theorem sBase_ev (v : List S53) (a : List S88) (n : Int) (hv : v.length ≤ 1048576) (ha : a.length ≤ 9223372036854775807) : Ev (fun k=>spec_BaseRecs.f k v a n) (baseB v a n):=by
 have inner : ∀ (i : Nat) (L : List Int),i < v.length → L.length = 16 → ∀ r,∀ (d j : Nat) (acc : List S40),j + d = 16 → acc.length + d ≤ 4398046511103 → Ev (fun k=>spec_BaseRecs.l0 k (acc ++ putsB (v.getD i z53).f0 L j d) ((i + 1 : Nat) : Int) v a n) r →
   Ev (fun k=>spec_BaseRecs.l1 k acc (i : Int) L (j : Int) v a n) r:=by
  intro i L hi hL r d
  induction d with
  | zero =>
   intro j acc hj hb hr;refine Ev.step (fun k=>?_) hr;simp only [spec_BaseRecs.l1];rw [if_neg (by omega),wsucc (n:=v.length) hi (by omega)];simp [putsB]
  | succ d ih =>
   intro j acc hj hb hr;rw [puts_step] at hr;have er : rd L (j : Int) = L.getD j 0:=rfl
   by_cases h : L.getD j 0 > 0
   ·simp only [if_pos h] at hr;refine Ev.step (fun k=>?_) (ih (j + 1) _ (by omega) (by rw [List.length_append];simp;omega) hr);simp only [spec_BaseRecs.l1];rw [if_pos (by omega),if_pos (by omega),er,if_pos h,if_pos (by omega),if_pos (by omega),if_pos (by omega),wsucc (n:=16) (by omega) (by omega),rdIV_nat]
   simp only [if_neg h] at hr;refine Ev.step (fun k=>?_) (ih (j + 1) _ (by omega) (by omega) hr);simp only [spec_BaseRecs.l1];rw [if_pos (by omega),if_pos (by omega),er,if_neg h,wsucc (n:=16) (by omega) (by omega)]
 have main : ∀ (d i : Nat) (acc : List S40),i + d = v.length → acc.length + 17 * d ≤ 4398046511103 → Ev (fun k=>spec_BaseRecs.l0 k acc (i : Int) v a n) (acc ++ (v.drop i).flatMap (volR a)):=by
  intro d
  induction d with
  | zero=>intro i acc hi hb;exact ev_some fun k=>by simp only [spec_BaseRecs.l0];rw [if_neg (by omega),List.drop_eq_nil_of_le (by omega)];simp
  | succ d ih =>
   intro i acc hi hb;have hp:=putsB_le (v.getD i z53).f0 (allB a (v.getD i z53).f1) 0 16;have h:=ih (i + 1) ((acc ++ [(⟨2,(v.getD i z53).f0,0,0⟩ : S40)]) ++ putsB (v.getD i z53).f0 (allB a (v.getD i z53).f1) 0 16) (by omega) (by rw [List.length_append,List.length_append];simp only [List.length_cons,List.length_nil];omega);rw [drop_get z53 (by omega),List.flatMap_cons]
   have e1 : acc ++ (volR a (v.getD i z53) ++ (v.drop (i + 1)).flatMap (volR a)) = ((acc ++ [(⟨2,(v.getD i z53).f0,0,0⟩ : S40)]) ++ putsB (v.getD i z53).f0 (allB a (v.getD i z53).f1) 0 16) ++ (v.drop (i + 1)).flatMap (volR a):=by
    simp [volR]
   rw [e1];refine Ev.step (f:=fun k=>(spec_AllAt.f k a (v.getD i z53).f1).bind fun t=>spec_BaseRecs.l1 k (acc ++ [(⟨2,(v.getD i z53).f0,0,0⟩ : S40)]) (i : Int) t 0 v a n) (fun k=>?_) (ev_bind (sAllAt_ev a _ ha) ?_)
   ·simp only [spec_BaseRecs.l0];rw [if_pos (by omega),if_pos (by omega),if_pos (by omega),rdIV_nat]
   exact inner i _ (by omega) (allB_len _ _) _ 16 0 _ (by omega) (by rw [List.length_append];simp only [List.length_cons,List.length_nil];omega) h
 have h:=main v.length 0 [(⟨1,0,n,0⟩ : S40)] (by omega) (by simp only [List.length_cons,List.length_nil];omega);exact h
end Go.Proofs.Yteideicglgpfiaa.Pu

namespace Go.Proofs.Yteideicglgpfiaa.M2.Mp
set_option linter.unusedVariables false
set_option linter.unusedSimpArgs false
open Go.RowKit Go.Proofs.Yteideicglgpfiaa.PK Go.Proofs.YteideicglgpfiaaW.PrintWords Go.Proofs.Yteideicglgpfiaa.Pu
def idsB (v : List S53) : List Int:=v.map fun x=>x.f0
theorem ids_swept (v : List S53) (a : List S88) : idsB (sweptV v a) = idsB v:=by
 unfold idsB sweptV;apply List.ext_getElem
 ·rw [List.length_map,List.length_map,zipR_len]
 intro i h1 h2;have hi : i < v.length:=by rw [List.length_map] at h2;exact h2
 have:=zipR_get (rs:=(sweepB a (rootsB v)).2) hi;rw [gdE _ (by rw [zipR_len];exact hi)] at this;simp only [List.getElem_map];rw [this,gdE _ hi]
theorem ids_put (v : List S53) (a : List S88) {j : Nat} (hj : j < v.length) (s c : Int) : idsB (putV v a j s c) = idsB v:=by
 unfold idsB putV;rw [List.map_set];apply List.ext_getElem?;intro i;rw [List.getElem?_set]
 by_cases e : j = i
 ·subst e;rw [if_pos rfl,if_pos (by rw [List.length_map];exact hj),List.getElem?_map,List.getElem?_eq_getElem hj,gdE _ hj];rfl
 rw [if_neg e]
theorem ids_mem {v u : List S53} (h : idsB v = idsB u) {y : S53} (hy : y ∈ u) : ∃ x ∈ v,x.f0 = y.f0:=by
 have : y.f0 ∈ idsB v:=by rw [h];exact List.mem_map.2 ⟨y,hy,rfl⟩
 obtain ⟨x,hx,e⟩:=List.mem_map.1 this;exact ⟨x,hx,e⟩
theorem ins_last {v : List S53} {x : S53} (h : ∀ y ∈ v,y.f0 < x.f0) : insV v x = v ++ [x]:=by
 unfold insV
 rw [List.filter_eq_self.2 fun y hy=>decide_eq_true (h y hy),List.filter_eq_nil_iff.2 fun y hy=>by
  have:=h y hy
  rw [decide_eq_true_iff];omega,List.append_nil]
theorem get_nonneg {a : List S88} (ha : arenaB a = true) (r s : Int) : 0 ≤ getB a r s:=by
 unfold getB
 split
 ·rename_i h;obtain ⟨h1,h2,h3⟩:=h;obtain ⟨r0,rl,rf⟩:=root_lt h2;unfold numB
  split
  ·exact Int.le_refl _
  rename_i hk;rcases kid_of ha rl rf (j:=(s / 4).toNat) (by omega) with h4 | ⟨h4,h5,h6⟩
  ·omega
  have hi : ((a.getD r.toNat z88).f1.getD (s / 4).toNat 0).toNat < a.length:=by omega
  obtain ⟨k1,k2⟩:=knot_of ha hi;have hm : (a.getD ((a.getD r.toNat z88).f1.getD (s / 4).toNat 0).toNat z88).f1.getD (s % 4).toNat 0 ∈ (a.getD ((a.getD r.toNat z88).f1.getD (s / 4).toNat 0).toNat z88).f1:=getD_mem (by omega);have:=k2 _ hm;rw [h6] at this;exact kid_leaf.1 this
 exact Int.le_refl _
theorem entL_cons (r : S40) (L : List S40) (v : List S53) (a : List S88) (n : Int) : entL (r :: L) v a n = (enterB v a n r.f0 r.f1 r.f2 r.f3).bind fun q=>entL L q.1 q.2.1 q.2.2:=rfl
theorem entL_app (L M : List S40) : ∀ (v : List S53) (a : List S88) (n : Int),entL (L ++ M) v a n = (entL L v a n).bind fun q=>entL M q.1 q.2.1 q.2.2:=by
 induction L with
 | nil=>intro v a n;rfl
 | cons r L ih =>
  intro v a n;rw [List.cons_append,entL_cons,entL_cons];cases enterB v a n r.f0 r.f1 r.f2 r.f3 with
  | none=>rfl
  | some q=>exact ih q.1 q.2.1 q.2.2
theorem entL_right : ∀ (L : List S40) (v : List S53) (a : List S88) (n : Int) {q : List S53 × List S88 × Int},storeB v a n = true → entL L v a n = some q → storeB q.1 q.2.1 q.2.2 = true:=by
 intro L
 induction L with
 | nil =>
  intro v a n q h e;injection e with e;rw [← e];exact h
 | cons r L ih =>
  intro v a n q h e;unfold entL at e;cases e1 : enterB v a n r.f0 r.f1 r.f2 r.f3 with
  | none=>rw [e1] at e;cases e
  | some p =>
   rw [e1] at e;exact ih p.1 p.2.1 p.2.2 (enter_right (v':=p.1) (a':=p.2.1) (n':=p.2.2) e1).1 e
def Rep (a : List S88) (n : Int) (u V : List S53) (A : List S88) : Prop:=storeB V A n = true ∧ idsB V = idsB u ∧ ∀ y ∈ u,∀ s,0 ≤ s ∧ s ≤ 15 → chunkB V A y.f0 s = getB a y.f1 s
theorem puts_run {a : List S88} {n : Int} {u : List S53} {x : S53} (ha : arenaB a = true) (hn : n ≤ 1000000000) (hx : 1 ≤ x.f0 ∧ x.f0 ≤ 9) (hlt : ∀ s,getB a x.f1 s < n) (hu : ∀ y ∈ u,¬ y.f0 = x.f0) :
  ∀ (d j : Nat),j + d = 16 → ∀ (V : List S53) (A : List S88),storeB V A n = true → idsB V = idsB (u ++ [x]) → (∀ y ∈ u,∀ s,0 ≤ s ∧ s ≤ 15 → chunkB V A y.f0 s = getB a y.f1 s) →
   (∀ s : Int,0 ≤ s ∧ s ≤ 15 → chunkB V A x.f0 s = if s < j then getB a x.f1 s else 0) → ∃ V' A',entL (putsB x.f0 (allB a x.f1) j d) V A n = some (V',A',n) ∧ Rep a n (u ++ [x]) V' A':=by
 intro d
 induction d with
 | zero =>
  intro j hj V A h1 h2 h3 h4;refine ⟨V,A,rfl,h1,h2,fun y hy s hs=>?_⟩;rcases List.mem_append.1 hy with hy | hy
  ·exact h3 y hy s hs
  rw [List.mem_singleton.1 hy,h4 s hs,if_pos (by omega)]
 | succ d ih =>
  intro j hj V A h1 h2 h3 h4;have hst:=puts_step x.f0 (allB a x.f1) j d [];rw [List.nil_append] at hst;have hc:=allB_get a x.f1 (show j < 16 by omega)
  by_cases hp : (allB a x.f1).getD j 0 > 0
  ·rw [if_pos hp,List.nil_append] at hst;rw [hst,entL_app];rw [hc] at hp ⊢;have hcn:=hlt (j : Int);obtain ⟨hh,hf⟩:=right_iff.1 h1;obtain ⟨z,hz,ez⟩:=ids_mem h2 (y:=x) (by simp);have hv : ¬ volB V x.f0 = -1:=fun e=>volB_none e z hz ez;obtain ⟨q,q1,q2,q3⟩:=volB_some hv
   have hE : enterB V A n 4 x.f0 (j : Int) (getB a x.f1 (j : Int)) = some (sweptV (putV V A q (j : Int) (getB a x.f1 (j : Int))) (putA V A q (j : Int) (getB a x.f1 (j : Int))),sweptA (putV V A q (j : Int) (getB a x.f1 (j : Int))) (putA V A q (j : Int) (getB a x.f1 (j : Int))),n):=by
    unfold enterB;rw [if_pos ⟨h1,by unfold recOk;exact decide_eq_true (by omega)⟩,if_neg (by decide),if_neg (by decide),if_neg (fun g=>g.elim hv (fun g=>by omega)),if_neg (by decide),if_neg (show ¬ getB a x.f1 (j : Int) ≥ n by omega)];rw [q2];rfl
   have hR:=(enter_right hE).1
   have hone : entL [(⟨4,x.f0,(j : Int),getB a x.f1 (j : Int)⟩ : S40)] V A n = some (sweptV (putV V A q (j : Int) (getB a x.f1 (j : Int))) (putA V A q (j : Int) (getB a x.f1 (j : Int))),sweptA (putV V A q (j : Int) (getB a x.f1 (j : Int))) (putA V A q (j : Int) (getB a x.f1 (j : Int))),n):=by
    unfold entL;show (enterB V A n 4 x.f0 (j : Int) (getB a x.f1 (j : Int))).bind _ = _;rw [hE];rfl
   rw [hone];refine ih (j + 1) (by omega) _ _ hR ?_ (fun y hy s hs=>?_) (fun s hs=>?_)
   ·rw [ids_swept,ids_put V A q1];exact h2
   ·obtain ⟨Y,hY,eY⟩:=ids_mem h2 (y:=y) (List.mem_append.2 (.inl hy));rw [← h3 y hy s hs,← eY];exact Pu.put_other hh q1 (by omega) (by omega) (by omega) hY (by rw [q3,eY];exact hu y hy) s
   have:=Pu.put_chunk hh q1 (s:=(j : Int)) (c:=getB a x.f1 (j : Int)) (by omega) (by omega) (by omega) s hs;rw [q3] at this;rw [this]
   by_cases e : s = (j : Int)
   ·subst e;rw [if_pos rfl,if_pos (by omega)]
   rw [if_neg e,h4 s hs]
   by_cases e2 : s < (j : Int)
   ·rw [if_pos e2,if_pos (by omega)]
   rw [if_neg e2,if_neg (by omega)]
  rw [if_neg hp,List.nil_append] at hst;rw [hst];refine ih (j + 1) (by omega) V A h1 h2 h3 fun s hs=>?_;rw [h4 s hs]
  by_cases e2 : s < (j : Int)
  ·rw [if_pos e2,if_pos (by omega)]
  rw [if_neg e2]
  by_cases e : s = (j : Int)
  ·subst e;rw [if_pos (by omega)];rw [hc] at hp;have:=get_nonneg ha x.f1 (j : Int);omega
  rw [if_neg (by omega)]
theorem vol_run {a : List S88} {n : Int} {u V : List S53} {A : List S88} {x : S53} (ha : arenaB a = true) (hn : n ≤ 1000000000) (hx : 1 ≤ x.f0 ∧ x.f0 ≤ 9) (hlt : ∀ s,getB a x.f1 s < n) (hu : ∀ y ∈ u,y.f0 < x.f0) (hl : u.length < 3) (h : Rep a n u V A) :
  ∃ V' A',entL (volR a x) V A n = some (V',A',n) ∧ Rep a n (u ++ [x]) V' A':=by
 obtain ⟨h1,h2,h3⟩:=h;obtain ⟨hh,hf⟩:=right_iff.1 h1
 have hV : ∀ Y ∈ V,Y.f0 < x.f0:=fun Y hY=>by
  obtain ⟨y,hy,e⟩:=ids_mem h2.symm hY;have:=hu y hy;omega
 have hnone : volB V x.f0 = -1:=by
  by_cases e : volB V x.f0 = -1
  ·exact e
  obtain ⟨q,q1,q2,q3⟩:=volB_some e;have hm : V.getD q z53 ∈ V:=by rw [gdE _ q1];exact List.getElem_mem q1
  have:=hV _ hm;omega
 have hVl : V.length = u.length:=by
  have:=congrArg List.length h2;unfold idsB at this
  rwa [List.length_map,List.length_map] at this
 have hE : enterB V A n 2 x.f0 0 0 = some (V ++ [⟨x.f0,-1⟩],A,n):=by
  unfold enterB;rw [if_pos ⟨h1,by unfold recOk;exact decide_eq_true (by omega)⟩,if_neg (by decide),if_pos rfl,if_neg (fun g=>by rcases g with g | g | g <;> omega)];have er : rootOf V 0 = -1:=by unfold rootOf;rw [if_neg (by decide)]
  rw [er,ins_last (x:=⟨x.f0,-1⟩) hV]
 have hR:=(enter_right hE).1;obtain ⟨gh,gf⟩:=right_iff.1 hR
 obtain ⟨V',A',e1,e2⟩:=puts_run ha hn hx hlt (fun y hy=>by have:=hu y hy;omega) 16 0 (by omega) (V ++ [⟨x.f0,-1⟩]) A hR (by unfold idsB at h2 ⊢;rw [List.map_append,List.map_append,h2];rfl) (fun y hy s hs=>by
   obtain ⟨Y,hY,eY⟩:=ids_mem h2 hy;have q1:=chunk_mem gh (x:=Y) (List.mem_append.2 (.inl hY)) s;have q2:=chunk_mem hh hY s;rw [← h3 y hy s hs,← eY,q1,q2]) (fun s hs=>by
   have q1:=chunk_mem gh (x:=⟨x.f0,-1⟩) (List.mem_append.2 (.inr (List.mem_singleton.2 rfl))) s;rw [if_neg (by omega)]
   exact q1.trans (get_none rfl))
 refine ⟨V',A',?_,e2⟩;unfold volR entL;show (enterB V A n 2 x.f0 0 0).bind _ = _;rw [hE];exact e1
theorem base_run {v : List S53} {a : List S88} {n : Int} (hR : storeB v a n = true) : ∀ (w u V : List S53) (A : List S88),v = u ++ w → Rep a n u V A → ∃ V' A',entL (w.flatMap (volR a)) V A n = some (V',A',n) ∧ Rep a n v V' A':=by
 obtain ⟨hh,hf⟩:=right_iff.1 hR;intro w
 induction w with
 | nil =>
  intro u V A e h;rw [List.append_nil] at e;exact ⟨V,A,rfl,by rw [e];exact h⟩
 | cons x w ih =>
  intro u V A e h;have hx : x ∈ v:=by rw [e];simp
  obtain ⟨q1,q2,q3⟩:=hh.2.2.2.2 x hx;have hasc:=hh.2.2.2.1;rw [e,List.pairwise_append] at hasc;have hvl:=hh.1;have hl:=congrArg List.length e;rw [List.length_append,List.length_cons] at hl;obtain ⟨V1,A1,e1,r1⟩:=vol_run hh.2.1 hh.2.2.1.2 q1 q3 (fun y hy=>hasc.2.2 y hy x List.mem_cons_self) (by omega) h;obtain ⟨V2,A2,e2,r2⟩:=ih (u ++ [x]) V1 A1 (by rw [e,List.append_assoc];rfl) r1;refine ⟨V2,A2,?_,r2⟩;rw [List.flatMap_cons,entL_app,e1];exact e2
theorem bases {v V : List S53} {a A : List S88} {n m : Int} (hR : storeB v a n = true) (hV : storeB V A m = true) : ∃ V' A',entL (baseB v a n) V A m = some (V',A',n) ∧ Rep a n v V' A':=by
 obtain ⟨hh,hf⟩:=right_iff.1 hR;have hn:=hh.2.2.1;have h0 : storeB ([] : List S53) [] n = true:=right_iff.2 ⟨⟨Nat.zero_le _,rfl,hn,List.Pairwise.nil,fun x hx=>by cases hx⟩,fun j hj=>absurd hj (Nat.not_lt_zero _)⟩;obtain ⟨V1,A1,e1,r1⟩:=base_run hR v [] [] [] rfl ⟨h0,rfl,fun y hy=>by cases hy⟩;refine ⟨V1,A1,?_,r1⟩;unfold baseB entL;show (enterB V A m 1 0 n 0).bind _ = _
 have hE : enterB V A m 1 0 n 0 = some ([],[],n):=by
  unfold enterB;rw [if_pos ⟨hV,by unfold recOk;exact decide_eq_true (by omega)⟩,if_pos rfl,if_neg (by omega)]
 rw [hE];exact e1
theorem rep_same {v V : List S53} {a A : List S88} {n : Int} (hv : Half v a n) (h : Rep a n v V A) : sameB V A n v a n = true:=by
 obtain ⟨h1,h2,h3⟩:=h;obtain ⟨hh,hf⟩:=right_iff.1 h1
 have hl : V.length = v.length:=by
  have:=congrArg List.length h2;unfold idsB at this
  rwa [List.length_map,List.length_map] at this
 have hid : ∀ i,i < v.length → (V.getD i z53).f0 = (v.getD i z53).f0:=fun i hi=>by
  have : (idsB V)[i]? = (idsB v)[i]?:=by rw [h2]
  unfold idsB at this;rw [List.getElem?_map,List.getElem?_map,List.getElem?_eq_getElem (show i < V.length by omega),List.getElem?_eq_getElem hi] at this;rw [gdE _ (show i < V.length by omega),gdE _ hi];exact Option.some.inj this
 unfold sameB;rw [if_pos ⟨hl,rfl⟩]
 have main : ∀ d i,i + d = V.length → sameFrom V A v a d i = true:=by
  intro d
  induction d with
  | zero=>intro i _;rfl
  | succ d ih =>
   intro i hi;have hil : i < v.length:=by omega
   have e : allB A (V.getD i z53).f1 = allB a (v.getD i z53).f1:=allB_ext fun s h0 h1=>by
    have hm : V.getD i z53 ∈ V:=by rw [gdE _ (show i < V.length by omega)];exact List.getElem_mem _
    have hm2 : v.getD i z53 ∈ v:=by rw [gdE _ hil];exact List.getElem_mem _
    have q1:=chunk_mem hh hm s;rw [hid i hil] at q1;rw [← q1];exact h3 _ hm2 s ⟨h0,h1⟩
   unfold sameFrom;rw [hid i hil,e,ih (i + 1) (by omega),decide_eq_true rfl,decide_eq_true rfl];rfl
 exact main _ 0 (by omega)
theorem sameR_ev (l : List S40) (hn : l.length ≤ 9223372036854775807) : Ev (fun k=>PK.laws_sameRecs.f k l l) true:=by
 unfold PK.laws_sameRecs.f;simp only [if_true]
 have main : ∀ (d i : Nat),i + d = l.length → Ev (fun k=>PK.laws_sameRecs.l0 k l l (i : Int)) true:=by
  intro d
  induction d with
  | zero=>intro i hi;exact ev_some fun k=>by simp only [PK.laws_sameRecs.l0];rw [if_neg (by omega)]
  | succ d ih =>
   intro i hi;refine Ev.step (fun k=>?_) (ih (i + 1) (by omega));simp only [PK.laws_sameRecs.l0,beq_self_eq_true,Bool.not_true,Bool.or_false,Bool.false_eq_true,if_false];rw [if_pos (by omega),if_pos (by omega),if_pos (by omega),wsucc (n:=l.length) (by omega) hn]
 exact main l.length 0 (by omega)
theorem allR_some {L : List S40} {v : List S53} {a : List S88} {n : Int} {q : List S53 × List S88 × Int} (h : entL L v a n = some q) : allR L v a n = (q.1,q.2.1,q.2.2,true):=by
 unfold allR;rw [h]
theorem fnBasesX (b : List Int) : EvX (fun k=>laws_FnBases.f k b) (fun r=>r = true):=by
 simp only [laws_FnBases.f,impl_StoreNew.f];refine evx_bind (bigX b) fun t ht=>?_;refine evx_ite (fun _=>evx_some rfl) (fun hbig=>?_)
 have hlen : b.length ≤ 1048576:=by
  rw [ht] at hbig;simp only [decide_eq_true_eq] at hbig;omega
 have hb : Cb b:=by show b.length ≤ _;omega
 refine evx_bind (storeRecI b hb) fun t2 ⟨⟨hR,ha⟩,hrec⟩=>?_;obtain ⟨v,a,n,t,w,s,c⟩:=t2;have hR : Inv v a n:=hR;have ha : a.length ≤ 28:=ha;have hv:=(right_sz hR.1).1;have hx:=(right_sz hR.1).2;obtain ⟨hh,hf⟩:=right_iff.1 hR.1;refine evx_bind (Q:=fun r=>r = baseB v a n) ⟨_,ev_rel (c:=id) (iBase_ev v a n (by omega) (by omega)) (fun k r hhh m hm=>impl_BaseRecs.rel k v a n r hhh m hm),rfl⟩ fun L hL=>?_
 have hLl : L.length ≤ 52:=by
  rw [hL];unfold baseB;have:=vols_le a v;rw [List.length_cons];omega
 have hL0 : 0 < L.length:=by rw [hL];unfold baseB;simp
 refine evx_bind (Q:=fun t=>t = (([] : List S53),([] : List S88),(1 : Int))) (evx_some rfl) fun t4 e4=>?_;subst e4;have hN : storeB ([] : List S53) [] 1 = true:=right_iff.2 ⟨⟨Nat.zero_le _,rfl,by omega,List.Pairwise.nil,fun x hx=>by cases hx⟩,fun j hj=>absurd hj (Nat.not_lt_zero _)⟩;have hs0 : Sz ([] : List S88):=fun x hx=>by cases hx
 obtain ⟨V1,A1,b1,r1⟩:=bases hR.1 hN;obtain ⟨V2,A2,b2,r2⟩:=bases hR.1 hR.1;rw [← hL] at b1 b2;refine evx_bind (iAllX L [] [] 1 (by omega) (by simp) (by simp) hs0) fun t5 e5=>?_;rw [allR_some b1] at e5;subst e5;refine evx_bind (iAllX L v a n (by omega) (by omega) (by omega) hx) fun t6 e6=>?_;rw [allR_some b2] at e6;subst e6;refine evx_bind (placesX b hb) fun p ⟨hp,hp2⟩=>?_;have hp0 : 0 ≤ rd_T3 p 0 ∧ rd_T3 p 0 < 10000:=hp2 _ (by show p.getD 0 0 ∈ p;exact getD_mem' (by omega));have hw : M2.w64 ((L.length : Int) + 1) = (L.length : Int) + 1:=m64i (by omega) (by omega)
 obtain ⟨k,hk⟩ : ∃ k : Nat,Int.tmod (rd_T3 p 0) ((L.length : Int) + 1) = (k : Int):=⟨(Int.tmod (rd_T3 p 0) ((L.length : Int) + 1)).toNat,by
  have:=Int.tmod_nonneg ((L.length : Int) + 1) hp0.1;omega⟩
 have hkn : (k : Int) < (L.length : Int) + 1:=by rw [← hk];exact Int.tmod_lt_of_pos _ (by omega)
 simp only [hw,hk,Int.toNat_natCast,List.drop_zero,Nat.sub_zero];refine evx_pos (by omega) (evx_neg (by omega) ?_);refine evx_bind (Q:=fun t=>t = (([] : List S53),([] : List S88),(1 : Int))) (evx_some rfl) fun t8 e8=>?_;subst e8;refine evx_pos (by omega) (evx_pos (by omega) ?_);have tk : (L.drop k).take (L.length - k) = L.drop k:=List.take_of_length_le (by rw [List.length_drop];omega);rw [tk];have hsplit:=entL_app (L.take k) (L.drop k) ([] : List S53) [] 1;rw [List.take_append_drop,b1] at hsplit;cases e9 : entL (L.take k) ([] : List S53) [] 1 with
 | none=>rw [e9] at hsplit;cases hsplit
 | some q =>
  rw [e9] at hsplit;have hsplit : entL (L.drop k) q.1 q.2.1 q.2.2 = some (V1,A1,n):=hsplit.symm;have hq:=entL_right _ _ _ _ hN e9;have hqs:=right_sz hq;have hqa:=right_small hq;have hq1:=hqs.1;refine evx_bind (iAllX (L.take k) [] [] 1 (by rw [List.length_take];omega) (by simp) (by simp) hs0) fun t9 e9'=>?_;rw [allR_some e9] at e9';subst e9';refine evx_pos (by omega) (evx_pos (by omega) ?_);refine evx_bind (iAllX (L.drop k) q.1 q.2.1 q.2.2 (by rw [List.length_drop];omega) (by omega) (by omega) hqs.2) fun t10 e10=>?_;rw [allR_some hsplit] at e10;subst e10;have s1:=right_small r1.1;have s2:=right_small r2.1;have z1:=(right_sz r1.1).1;have z2:=(right_sz r2.1).1;refine evx_pos (by first | rfl | trivial) (evx_pos (by first | rfl | trivial) (evx_pos (by first | rfl | trivial) (evx_pos (by first | rfl | trivial) ?_)));refine evx_bind (iSameX V1 A1 n v a n (by omega) (by omega) (by omega)) fun t11 e11=>evx_pos (by rw [e11];exact rep_same hh r1) ?_;refine evx_bind (iSameX V2 A2 n v a n (by omega) (by omega) (by omega)) fun t12 e12=>evx_pos (by rw [e12];exact rep_same hh r2) ?_;refine evx_bind (iSameX V1 A1 n v a n (by omega) (by omega) (by omega)) fun t13 e13=>evx_pos (by rw [e13];exact rep_same hh r1) ?_;refine evx_bind (Q:=fun r=>r = baseB v a n) ⟨_,ev_rel (c:=id) (sBase_ev v a n (by omega) (by omega)) (fun k r hhh m hm=>spec_BaseRecs.rel k v a n r hhh m hm),rfl⟩ fun t14 e14=>?_;rw [e14,← hL];refine evx_bind (Q:=fun t=>t = true) ⟨_,ev_rel (c:=id) (sameR_ev L (by omega)) (fun k r hhh m hm=>laws_sameRecs.rel k L L r hhh m hm),rfl⟩ fun t15 e15=>evx_pos e15 (evx_pos (by omega) (evx_some ?_));rw [hL];rfl
end Go.Proofs.Yteideicglgpfiaa.M2.Mp
namespace Go.Proofs.Yteideicglgpfiaa.Pure
open Go.Proofs.Yteideicglgpfiaa.M2
theorem FnBases (l : List Int) (_ : ∀ n ∈ l,(Go.Lit.int .u8 n).wf = true) : ∃ k,laws_FnBases.f k l = some true:=Mp.evx_out (Mp.fnBasesX l)
end Go.Proofs.Yteideicglgpfiaa.Pure

/- From a function's contract to a call of it from without: what it answers; what was there stays. -/
namespace Go.Proofs.Yteideicglgpfiaa.M2
open Go Go.RowKit
set_option linter.unusedVariables false
section
variable {Ty : Type} {D : Ty → Type} {P : Program} {K : Kit Ty D}
theorem hp0 (k : Nat) : hpOf ([] : List (Blk Ty D)) k = none := rfl
theorem blk0 (nm : Nm) : blkAt K (hpOf ([] : List (Blk Ty D))) nm = none := by
  unfold blkAt; cases nm.sub <;> rfl
theorem own0 (γ : Nm → Hdr) (g : Nat) (nm : Nm) : ¬ Own K (hpOf ([] : List (Blk Ty D))) γ g nm := by
  rintro ⟨⟨b, hb⟩, _⟩; rw [blk0] at hb; cases hb
/-- The memory of a call from without. -/
def Out (Ty : Type) (D : Ty → Type) (w : World) : Mem Ty D := ⟨w, fun _ g => g < w.heap.size, hpOf [], fun _ => (none, 0), (· < ([] : List (Blk Ty D)).length)⟩
theorem top {f : FuncId} {ins : List (AV Ty D)} {v : Value} (h : Contract P K f ins [] (.sc v) [] []) (w : World) (args : Array Value) (hsz : args.size = ins.length)
    (ha : ∀ (k : Nat) u x, args[k]? = some u → ins[k]? = some x → x ≠ .dd ∧ Va K (Out Ty D w) u x) : Calls P f args w fun e w' => e = .returned v ∧ Below w.heap.size w w' := by
  have hl : Lay K (Out Ty D w) := by
    refine ⟨fun nm b hb => ?_, fun g nm nm' h => (own0 _ _ _ h).elim, fun g hg => hg, fun g hg => ⟨hg, fun nm => own0 _ _ _⟩, fun id b hb => ?_⟩
    · rw [show blkAt K (Out Ty D w).H nm = none from blk0 nm] at hb; cases hb
    · cases hb
  refine (h.2.2 w (fun _ g => g < w.heap.size) (fun _ => (none, 0)) args hl (fun g hg _ => hg) hsz ha).mono fun e w' he => ?_
  obtain ⟨u, γ', he, _, _, hv, hk, _⟩ := he
  have hu : u = v := hv.1
  exact ⟨by rw [he, hu], hk.os, hk.tape, hk.output, hk.size, fun k hk' => hk.block k hk' (fun ⟨nm, ho⟩ => own0 _ _ _ ho)⟩
/-- A row of scalars that was there. -/
theorem fz_flat {w : World} {t : Ty} {l : List (D t)} {n : D t → Value} (hc : K.cells t = 1) (he : ∀ x, K.emb t x = [.sc (n x)]) (hs : ∀ x, scalar (n x) = true) {g o c len : Nat} (hg : g < w.heap.size) (hl : l.length = len) (hle : len ≤ c)
    (hcell : ∀ (i : Nat) x, l[i]? = some x → w.cell? ⟨g, o + i, none⟩ = some (n x)) (q : Nat) : Fz K w (fun g => g < w.heap.size) (.slice (some ⟨g, o, none⟩) len c) (.row q t l) := by
  subst hl
  refine ⟨1, _, _, rfl, hle, .inr ⟨g, o, rfl, hg, fun i x hx j cc hj => ?_⟩⟩
  rw [he] at hj
  cases j with
  | succ j => simp at hj
  | zero =>
    simp at hj; subst hj
    refine ⟨n x, ?_, rfl, hs x⟩
    rw [hc, ← hcell i x hx]; congr 2; omega
theorem fz_nil {w : World} {S : Nat → Prop} {t : Ty} {a : Option Addr} {c : Nat} (q : Nat) : Fz K w S (.slice a 0 c) (.row q t []) := ⟨1, a, c, rfl, Nat.zero_le _, .inl rfl⟩
end
end Go.Proofs.Yteideicglgpfiaa.M2

/- The law FnBases holds, for every input: from its function's contract and the plain statement of what it answers. -/
namespace Go.Proofs.Yteideicglgpfiaa.fnBases
set_option linter.unusedVariables false
set_option linter.unusedSimpArgs false
open Go Go.ChangeShapes Go.WideShapes Go.ChangeAt Go.RowKit
open Go.Proofs.Yteideicglgpfiaa.M2 (top fz_nil fz_flat Fz Va Vc Out kit AV Ty D Contract)
theorem own : ownKnob Try.prog.godebug = none := by kernel_rfl
theorem laidOut : laidOutB Try.prog = true := by kernel_rfl
/-- Bytes that were there. -/
theorem bytes {H : Type} {enc : TypeId × Value → H} {W : World} {fuel : Nat} {v : Value} {x : DataW H × List MemPlace} (h : DataW.trod enc Try.prog W 0 (fun _ => true) true fuel 45 v.cells.toList = some x) {a : Option Addr} {len cap : Nat} (hv : v = .slice a len cap) :
    ∃ l : List Int, (∀ n ∈ l, (Lit.int .u8 n).wf = true) ∧ Fz kit W (fun g => g < W.heap.size) v (.row 0 .t5 l) := by
  subst hv
  rcases open_ints Try.underlying45 Try.underlying5 (by kernel_rfl) h with ⟨hcs, _⟩ | ⟨y, l, c, zs, hcs, _, hl, hm, hz, _, hcell, hwz⟩
  · simp [Value.cells] at hcs
    obtain ⟨rfl, rfl, rfl⟩ := hcs
    exact ⟨[], by simp, fz_nil 0⟩
  · simp [Value.cells] at hcs
    obtain ⟨rfl, rfl, rfl⟩ := hcs
    have hz : zs.length = cap := by simpa using hz
    refine ⟨zs.take len, fun n hn => hwz n (List.mem_of_mem_take hn), ?_⟩
    have hlen : (zs.take len).length = len := by rw [List.length_take]; omega
    cases len with
    | zero => rw [List.take_zero]; exact fz_nil 0
    | succ m =>
      have h0 := hcell 0 (by omega)
      have hsp : y.spot = none := by
        have := World.cell?_spot h0
        simpa [Addr.add] using this
      obtain ⟨g, o, sp⟩ := y
      simp only at hsp
      subst hsp
      have hadd : ∀ j, (⟨g, o, none⟩ : Addr).add j = ⟨g, o + j, none⟩ := fun j => by unfold Addr.add; split <;> simp_all
      have hg : g < W.heap.size := by
        rw [hadd] at h0
        unfold World.cell? at h0
        rcases Nat.lt_or_ge g W.heap.size with h | h
        · exact h
        · simp [Array.getElem?_eq_none h] at h0
      have key := fz_flat (K := kit) (w := W) (t := .t5) (l := zs.take (m + 1)) (n := fun x : Int => .int .u8 x) rfl (fun x => rfl) (fun x => rfl) (g := g) (o := o) (c := cap) (len := m + 1) hg hlen (by omega) (fun i (x : Int) (hx : (List.take (m + 1) zs : List Int)[i]? = some x) => by
        have hx : (List.take (m + 1) zs : List Int)[i]? = some x := hx
        have hi : i < (zs.take (m + 1)).length := (List.getElem?_eq_some_iff.1 hx).1
        rw [← hadd, hcell i (by rw [hlen] at hi; omega)]
        rw [List.getElem?_take] at hx
        split at hx
        · have hx : zs[i]? = some x := hx
          congr 2
          rw [List.getD_eq_getElem?_getD, hx]; rfl
        · cases hx) 0
      exact key
set_option maxRecDepth 100000 in
theorem lifted (os : Os) (started : os.Started) (H : Type) (enc : TypeId × Value → H) :
    ReturnsInHanded {} Try.checked os 8 .any (Rows.fnBasesSpec.pre6 enc Try.prog Try.f8 Rows.fnBasesRow.domain false) (Rows.fnBasesSpec.post enc Try.prog Try.f8 false true false false) := by
  refine returnsInHanded_of_change_sized (C := Try.checked) own started (by kernel_rfl) Try.func8
    (ChangeSpec.witness6 (enc := enc) (C := Try.checked) false ⟨#[], #[.slice none 0 0], []⟩ 8 (by kernel_rfl) (by kernel_rfl) (by kernel_rfl) (by kernel_rfl)) ?_
  intro W base args ds gs before hval0 hW hcnd hsz0 _
  have hval : ∀ (j : Nat) t v, Try.f8.params[j]? = some t → args[j]? = some v → Value.okWide Try.prog W .any base t v := hval0
  have hW' := hW
  obtain ⟨p, q, hA0, hV, rfl, hfz, hnd⟩ := hW
  have hA : DataW.TrodAll enc Try.prog W 0 (fun _ => true) true Try.f8.params.toList args.toList ds p := hA0
  rw [Try.params8] at hA hval
  obtain ⟨v0, vs0, d0, ds0, p0, q0, hargs, rfl, rfl, h0, r0⟩ := trodAll_cons hA
  obtain ⟨rfl, rfl, rfl⟩ := trodAll_nil r0
  obtain rfl : args = #[v0] := by cases args; simp_all
  obtain ⟨rfl, rfl⟩ := trodVars_none hV
  obtain ⟨a0, len0, cap0, e0⟩ := okWide_slice Try.underlying45 (hval 0 45 v0 rfl rfl)
  have k0 := h0
  have lt0 : ∀ x ∈ p0, x.block < W.heap.size := by obtain ⟨m, hm⟩ := k0; exact DataW.trod_lt m _ _ _ hm
  obtain ⟨l, wl, fz⟩ : ∃ l : List Int, (∀ n ∈ l, (Lit.int .u8 n).wf = true) ∧ Fz kit W (fun g => g < W.heap.size) v0 (.row 0 .t5 l) := by
    obtain ⟨fuel, hf⟩ := h0
    exact bytes hf e0
  clear hA0 hval0 hsz0
  obtain ⟨k, hp⟩ := Pure.FnBases l wl
  have con : Contract Try.prog kit 8 [.row 0 .t5 l] [] (.sc (.bool true)) [] [] := M2.laws_FnBases.con k l true hp
  refine (top con W #[v0] rfl (fun j u x hu hx => by
    cases j with
    | succ j => simp at hu
    | zero =>
      have hu : v0 = u := by simpa using hu
      have hx : (.row 0 .t5 l : AV Ty D) = x := by simpa using hx
      subst hu hx
      exact ⟨by simp, fz⟩)).mono fun e W' ⟨he, bel⟩ => ?_
  subst he
  exact ⟨_, rfl, _, _, _, [], _, [], hW', trodAll_mk1 (shut_bool Try.underlying4 _), (trodAll_cons_mk (Below.trod laidOut (by kernel_rfl) (of_decide_eq_true (by kernel_rfl)) k0 bel lt0) trodAll_mk0), rfl, bel.frame _, fun h => by cases h⟩
theorem over : Rows.fnBasesRow.holds Try.pinned (OpenSpec.ofChange Rows.fnBasesSpec) :=
  OpenClaim.holds_of_wide 8 Try.f8 rfl rfl rfl rfl rfl rfl rfl ⟨rfl, rfl, rfl, rfl, rfl⟩ rfl rfl rfl rfl rfl (by kernel_rfl) Try.func8 (by kernel_rfl)
    (of_decide_eq_true (by kernel_rfl)) (by unfold Func.isWrapper; first | (rw [if_pos (by decide +kernel)]; kernel_rfl) | (rw [if_neg (by decide +kernel)]; exact ⟨rfl, rfl⟩))
    (fun os started H enc _ => lifted os started H enc)
end Go.Proofs.Yteideicglgpfiaa.fnBases
namespace Go.Proofs.Yteideicglgpfiaa
/-- The row, under a short name, for the claim. -/
theorem fnBases_holds : Rows.FnBasesSaid := fnBases.over
end Go.Proofs.Yteideicglgpfiaa
