/- FnExactReadOf: functions of the translation as Lean functions with what their calls come to, plain lemmas on them, and, at the end, the row. Parts of one proof, merged by a program of this session; each part's own sentence stands at its head. -/
import Derived.Lib.ConvBytes
import Derived.Sort.LotA
import Derived.RowKit
import Derived.IntWalk
import Derived.Laws.BytesArg
import Derived.Shelf.GgSortMore.Stable
import Derived.Shelf.GgSortFunc.SmallK
import Derived.Shelf.GgSortFunc.Compose
import Derived.Test.YtbbfkodckpfjcaaGreatMFnExactReadOfa
namespace Go.Proofs.YtbbfkodckpfjcaaGreat.M2
open Go
set_option linter.unusedVariables false
set_option linter.unusedSimpArgs false
section
variable {Ty : Type} {D : Ty → Type} {P : Program} {K : Kit Ty D}
def BRel (M : Mem Ty D) (all : List Pl) (s g id : Nat) (o b : Option (Blk Ty D)) : Prop :=
 (o = none ∧ b = none) ∨ (∃ cs cs',o = some (.box cs) ∧ renL all s g cs = some cs' ∧ b = some (.box cs')) ∨ ∃ t l v t0 l0 ver,o = some (.rowb t l v) ∧ M.H id = some (.rowb t0 l0 ver) ∧ b = some (.rowb t l (ver + 1))
theorem backA_inv {M : Mem Ty D} {all : List Pl} {s g : Nat} {k : List (Nat × Option (Blk Ty D)) → Ac Ty D} {vo wo rs'} : ∀ (ps : List Pl) (os : List (Option (Blk Ty D))) (ws : List (Nat × Option (Blk Ty D))) (rs : List Nat),
  Runs P K M.H (backA all s g ps os ws k) rs vo wo rs' → ∃ ws1 rs1,Runs P K M.H (k (ws1 ++ ws)) rs1 vo wo rs' ∧ (∀ id b,(id,b) ∈ ws1 → ∃ j : Nat,ps[j]? = some (.blk id) ∧ BRel M all s g id ((os[j]?).getD none) b) ∧
   ∀ (j : Nat) id,ps[j]? = some (.blk id) → ∃ b,(id,b) ∈ ws1 ∧ BRel M all s g id ((os[j]?).getD none) b:=by
 intro ps
 induction ps with
 | nil =>
  intro os ws rs h;cases os with
  | nil=>simp only [backA] at h;exact ⟨[],rs,h,by simp,by simp⟩
  | cons o os=>simp only [backA] at h;exact h.nobad.elim
 | cons p ps ih =>
  intro os ws rs h;cases os with
  | nil=>cases p <;> (simp only [backA] at h;exact h.nobad.elim)
  | cons o os =>
   have step : ∀ (id : Nat) (b : Option (Blk Ty D)) (rs : List Nat),p = .blk id → BRel M all s g id o b → Runs P K M.H (backA all s g ps os ((id,b) :: ws) k) rs vo wo rs' →
     ∃ ws1 rs1,Runs P K M.H (k (ws1 ++ ws)) rs1 vo wo rs' ∧ (∀ id b,(id,b) ∈ ws1 → ∃ j : Nat,(p :: ps)[j]? = some (.blk id) ∧ BRel M all s g id (((o :: os)[j]?).getD none) b) ∧
      ∀ (j : Nat) id,(p :: ps)[j]? = some (.blk id) → ∃ b,(id,b) ∈ ws1 ∧ BRel M all s g id (((o :: os)[j]?).getD none) b:=by
    intro id b rs hp hb h;obtain ⟨ws1,rs1,h1,h2,h3⟩:=ih os _ _ h;refine ⟨ws1 ++ [(id,b)],rs1,by simpa using h1,fun id' b' hm=>?_,fun j id' hj=>?_⟩
    ·rcases List.mem_append.1 hm with hm | hm
     ·obtain ⟨j,hj,hr⟩:=h2 id' b' hm;exact ⟨j + 1,by simpa using hj,by simpa using hr⟩
     simp at hm;obtain ⟨rfl,rfl⟩:=hm;exact ⟨0,by simp [hp],by simpa using hb⟩
    cases j with
    | zero=>simp [hp] at hj;subst hj;exact ⟨b,by simp,by simpa using hb⟩
    | succ j =>
     obtain ⟨b',hm,hr⟩:=h3 j id' (by simpa using hj);exact ⟨b',List.mem_append.2 (.inl hm),by simpa using hr⟩
   cases p with
   | void =>
    have h' : Runs P K M.H (backA all s g ps os ws k) rs vo wo rs':=by cases o with
     | none=>simpa only [backA] using h
     | some b=>cases b <;> simpa only [backA] using h
    obtain ⟨ws1,rs1,h1,h2,h3⟩:=ih os _ _ h';refine ⟨ws1,rs1,h1,fun id' b' hm=>?_,fun j id' hj=>?_⟩
    ·obtain ⟨j,hj,hr⟩:=h2 id' b' hm;exact ⟨j + 1,by simpa using hj,by simpa using hr⟩
    cases j with
    | zero=>simp at hj
    | succ j =>
     obtain ⟨b',hm,hr⟩:=h3 j id' (by simpa using hj);exact ⟨b',hm,by simpa using hr⟩
   | inner a b c d=>cases o with
     | none=>simp only [backA] at h;exact h.nobad.elim
     | some b=>cases b <;> (simp only [backA] at h;exact h.nobad.elim)
   | blk id =>
    cases o with
    | none=>simp only [backA] at h;exact step id none rs rfl (.inl ⟨rfl,rfl⟩) h
    | some b =>
     cases b with
     | box cs =>
      simp only [backA] at h
      split at h
      ·rename_i cs' hcs;exact step id _ rs rfl (.inr (.inl ⟨cs,cs',rfl,hcs,rfl⟩)) h
      exact h.nobad.elim
     | rowb t l v =>
      simp only [backA] at h;obtain ⟨b0,rs1,hb0,h⟩:=h.get_inv
      split at h
      ·rename_i t0 l0 ver;exact step id _ _ rfl (.inr (.inr ⟨t,l,v,t0,l0,ver,rfl,hb0,rfl⟩)) h
      exact h.nobad.elim
theorem newsA_inv {M : Mem Ty D} {all : List Pl} {s g : Nat} {k : List (Nat × Option (Blk Ty D)) → Ac Ty D} {vo wo rs'} : ∀ (bs : List (Blk Ty D)) (q : Nat) (ws : List (Nat × Option (Blk Ty D))) (rs : List Nat),
  Runs P K M.H (newsA all s g q bs ws k) rs vo wo rs' → ∃ ws1 rs1,Runs P K M.H (k (ws1 ++ ws)) rs1 vo wo rs' ∧ (bs = [] ∨ q + bs.length ≤ 64) ∧ (∀ id b,(id,b) ∈ ws1 → ∃ j : Nat,∃ b0,bs[j]? = some b0 ∧ id = s + (q + j) ∧ ∃ b',renB all s g b0 = some b' ∧ b = some b') ∧
   ∀ (j : Nat) b0,bs[j]? = some b0 → ∃ b',renB all s g b0 = some b' ∧ (s + (q + j),some b') ∈ ws1:=by
 intro bs
 induction bs with
 | nil=>intro q ws rs h;simp only [newsA] at h;exact ⟨[],rs,h,.inl rfl,by simp,by simp⟩
 | cons b bs ih =>
  intro q ws rs h;simp only [newsA] at h
  split at h
  ·rename_i b' hq hb';obtain ⟨ws1,rs1,h1,h2,h3,h4⟩:=ih _ _ _ h;have hq' : q < 64:=Nat.le_of_ble_eq_true hq;refine ⟨ws1 ++ [(s + q,some b')],rs1,by simpa using h1,.inr ?_,fun id b1 hm=>?_,fun j b0 hj=>?_⟩
   ·rcases h2 with rfl | h2
    ·simp;omega
    simp;omega
   ·rcases List.mem_append.1 hm with hm | hm
    ·obtain ⟨j,b0,hj,he,hr⟩:=h3 id b1 hm;exact ⟨j + 1,b0,by simpa using hj,by omega,hr⟩
    simp at hm;obtain ⟨rfl,rfl⟩:=hm;exact ⟨0,b,rfl,by omega,b',hb',rfl⟩
   cases j with
   | zero=>simp at hj;subst hj;exact ⟨b',hb',by simp⟩
   | succ j =>
    obtain ⟨b1,h5,h6⟩:=h4 j b0 (by simpa using hj);exact ⟨b1,h5,List.mem_append.2 (.inl (by rw [show q + (j + 1) = q + 1 + j by omega];exact h6))⟩
  exact h.nobad.elim
theorem put_none {H : Heap Ty D} : ∀ {ws : List (Nat × Option (Blk Ty D))} {x : Nat},(∀ b,(x,b) ∉ ws) → Heap.put H ws x = H x:=by
 intro ws
 induction ws generalizing H with
 | nil=>intro x _;rfl
 | cons p ws ih =>
  intro x h;obtain ⟨a,b⟩:=p;simp only [Heap.put];rw [ih (fun b' hb'=>h b' (List.mem_cons_of_mem _ hb')),bif_eq,if_neg];intro e;subst e;exact h b (List.mem_cons_self ..)
theorem put_mem {H : Heap Ty D} : ∀ {ws : List (Nat × Option (Blk Ty D))} {x : Nat} {b : Option (Blk Ty D)},(∀ b',(x,b') ∈ ws → b' = b) → (x,b) ∈ ws → Heap.put H ws x = b:=by
 intro ws
 induction ws generalizing H with
 | nil=>intro x b _ h;simp at h
 | cons p ws ih =>
  intro x b hu hm;obtain ⟨a,c⟩:=p;simp only [Heap.put]
  by_cases hin : (x,b) ∈ ws
  ·exact ih (fun b' hb'=>hu b' (List.mem_cons_of_mem _ hb')) hin
  rcases List.mem_cons.1 hm with e | e
  ·cases e;rw [put_none (fun b' hb'=>by have:=hu b' (List.mem_cons_of_mem _ hb');subst this;exact hin hb'),bif_eq,if_pos rfl]
  exact absurd e hin
theorem renL_spec {all : List Pl} {s g : Nat} : ∀ {cs cs' : List (AV Ty D)},renL all s g cs = some cs' → cs.length = cs'.length ∧ ∀ (j : Nat) c c',cs[j]? = some c → cs'[j]? = some c' → renV all s g c = some c':=by
 intro cs
 induction cs with
 | nil=>intro cs' h;simp only [renL,Option.some.injEq] at h;subst h;simp
 | cons c cs ih =>
  intro cs' h;simp only [renL] at h
  split at h
  ·rename_i v hv
   split at h
   ·rename_i vs hvs;simp only [Option.some.injEq] at h;subst h;obtain ⟨h1,h2⟩:=ih hvs;refine ⟨by simp [h1],fun j c1 c1' hj hj'=>?_⟩;cases j with
    | zero=>simp at hj hj';subst hj;subst hj';exact hv
    | succ j=>exact h2 j c1 c1' (by simpa using hj) (by simpa using hj')
   simp at h
  simp at h
theorem renV_row {all : List Pl} {s g g0 : Nat} {t : Ty} {l : List (D t)} {c' : AV Ty D} (h : renV all s g (.row g0 t l) = some c') : g0 = 1 ∧ c' = .row g t l:=by
 match g0,h with
 | 0,h=>simp [renV] at h
 | 1,h=>simp only [renV,Option.some.injEq] at h;exact ⟨rfl,h.symm⟩
 | n + 2,h=>simp [renV] at h
theorem renV_pt {all : List Pl} {s g k i j : Nat} {c' : AV Ty D} (h : renV all s g (.pt k i j) = some c') : i = 0 ∧ j = 0 ∧ ∃ id,renId all s k = some id ∧ c' = .pt id 0 0:=by
 match i,j,h with
 | 0,0,h =>
  simp only [renV] at h
  split at h
  ·rename_i id hid;simp at h;exact ⟨rfl,rfl,id,hid,h.symm⟩
  simp at h
 | 0,n + 1,h=>simp [renV] at h
 | n + 1,0,h=>simp [renV] at h
 | n + 1,q + 1,h=>simp [renV] at h
theorem renV_nd {all : List Pl} {s g : Nat} {c : AV Ty D} (h : renV all s g c = some .dd) : False:=by
 unfold renV at h
 split at h <;> first
  | (simp at h;done)
  | (split at h <;> simp at h)
def loc (ps : List Pl) (s m : Nat) (id : Nat) : Option Nat:=if s ≤ id ∧ id < s + m then some (ps.length + (id - s)) else findPl id 0 ps
def γB (M : Mem Ty D) (ps : List Pl) (s m : Nat) (γ' : Nm → Hdr) (nm : Nm) : Hdr :=
 match loc ps s m nm.id with
 | some k=>γ' ⟨k,nm.sub⟩
 | none=>M.γ nm
theorem call_nx (hk : KitOk P K) {M : Mem Ty D} (hl : Lay K M) {h : Hd Ty D} (hs : Hs K M none h) (hni : noInner h.ps = true) {s : Nat} (hfresh : ∀ q,q < 64 → ¬ M.B (s + q)) {out v : AV Ty D} {outs : List (Option (Blk Ty D))} {news : List (Blk Ty D)}
  (hol : outs.length = h.bs.length) {ws1 ws2 : List (Nat × Option (Blk Ty D))} (hm : news = [] ∨ 0 + news.length ≤ 64)
  (hb1 : ∀ id b,(id,b) ∈ ws1 → ∃ j : Nat,h.ps[j]? = some (.blk id) ∧ BRel M h.ps s h.g id ((outs[j]?).getD none) b) (hb2 : ∀ (j : Nat) id,h.ps[j]? = some (.blk id) → ∃ b,(id,b) ∈ ws1 ∧ BRel M h.ps s h.g id ((outs[j]?).getD none) b)
  (hn1 : ∀ id b,(id,b) ∈ ws2 → ∃ j : Nat,∃ b0,news[j]? = some b0 ∧ id = s + (0 + j) ∧ ∃ b',renB h.ps s h.g b0 = some b' ∧ b = some b') (hn2 : ∀ (j : Nat) b0,news[j]? = some b0 → ∃ b',renB h.ps s h.g b0 = some b' ∧ (s + (0 + j),some b') ∈ ws2)
  (hren : renV h.ps s h.g out = some v) {u : Value} {w' : World} {γ' : Nm → Hdr}
  (hlay : Lay K ⟨w',fun _=>SC K M h 1,hpBack outs news,γ',(· < outs.length + news.length)⟩) (hV : V K ⟨w',fun _=>SC K M h 1,hpBack outs news,γ',(· < outs.length + news.length)⟩ u out)
  (hkept : Kept M.w w' (fun g=>∃ nm,Own K (hpOf h.bs) (γC M h.ps) g nm)) (hfr : ∀ g nm,Own K (hpBack outs news) γ' g nm → M.w.heap.size ≤ g ∨ ∃ nm',Own K (hpOf h.bs) (γC M h.ps) g nm')
  (hpass : ∀ k b,k < h.bs.length → hpBack outs news k = some b → γ' ⟨k,none⟩ = γC M h.ps ⟨k,none⟩ ∧ ∃ b0,h.bs[k]? = some b0 ∧ lenKept b0 b) :
  ∃ M',Nx K M M' (ws2 ++ ws1) s ∧ M'.w = w' ∧ V K M' u v ∧ v ≠ .dd:=by
 let m:=news.length
 have hm64 : ∀ q,q < m → q < 64:=fun q hq=>by
  rcases hm with e | e
  ·simp [m,e] at hq
  show q < 64;simp only [m] at hq;omega
 have plen : h.ps.length = outs.length:=by rw [hs.len,hol]
 have inB : ∀ {j : Nat} {id},h.ps[j]? = some (.blk id) → M.B id:=fun {j id} hj=>by
  rcases hs.pl j _ hj (by simp) with ⟨t,l,ver,h1,_⟩ | ⟨cs,_,h1,_⟩ <;> exact hl.bd _ _ h1
 have notNew : ∀ {id},M.B id → ¬ (s ≤ id ∧ id < s + m):=fun {id} hB hc=>by
  have:=hfresh (id - s) (hm64 _ (by omega));rw [Nat.add_sub_cancel' hc.1] at this;exact this hB
 have locNew : ∀ q,q < m → loc h.ps s m (s + q) = some (h.ps.length + q):=fun q hq=>by
  unfold loc;rw [if_pos ⟨by omega,by omega⟩,Nat.add_sub_cancel_left]
 have locOld : ∀ {j : Nat} {id},h.ps[j]? = some (.blk id) → loc h.ps s m id = some j:=fun {j id} hj=>by
  unfold loc;rw [if_neg (notNew (inB hj))];cases hf : findPl id 0 h.ps with
  | none=>exact absurd hj (findPl_none hf j)
  | some k =>
   obtain ⟨_,hk'⟩:=findPl_some hf;rw [Nat.sub_zero] at hk';rw [hs.dist k j id hk' hj]
 have locInv : ∀ {id k},loc h.ps s m id = some k → (h.ps[k]? = some (.blk id) ∧ k < outs.length) ∨ ∃ q,q < m ∧ id = s + q ∧ k = h.ps.length + q:=fun {id k} hk'=>by
  unfold loc at hk'
  split at hk'
  ·rename_i hc;simp only [Option.some.injEq] at hk';exact .inr ⟨id - s,by omega,by omega,hk'.symm⟩
  obtain ⟨_,h2⟩:=findPl_some hk';rw [Nat.sub_zero] at h2;exact .inl ⟨h2,by rw [← plen];exact (List.getElem?_eq_some_iff.1 h2).1⟩
 have renLoc : ∀ {k id},k < outs.length + news.length → renId h.ps s k = some id → loc h.ps s m id = some k:=fun {k id} hlt hr=>by
  unfold renId at hr
  split at hr
  ·rename_i hlt'
   split at hr
   ·rename_i id' hp;simp only [Option.some.injEq] at hr;subst hr;exact locOld hp
   simp at hr
  rename_i hlt';simp only [Option.some.injEq] at hr;subst hr
  have hge : h.ps.length ≤ k:=by
   rcases Nat.lt_or_ge k h.ps.length with hh | hh
   ·have : Nat.blt k h.ps.length = true:=Nat.ble_eq_true_of_le hh;rw [this] at hlt';simp at hlt'
   exact hh
  rw [locNew (k - h.ps.length) (by simp only [m];omega),Nat.add_sub_cancel' hge]
 have locB : ∀ {id k},loc h.ps s m id = some k → (M.B id ∨ s ≤ id ∧ id < s + 64):=fun {id k} hk'=>by
  rcases locInv hk' with ⟨hp,_⟩ | ⟨q,hq,rfl,_⟩
  ·exact .inl (inB hp)
  exact .inr ⟨by omega,by have:=hm64 q hq;omega⟩
 -- the heap behind the call
 let H' : Heap Ty D:=Heap.put M.H (ws2 ++ ws1)
 have Hnone : ∀ id,loc h.ps s m id = none → H' id = M.H id:=fun id hn=>put_none (fun b hb=>by
  rcases List.mem_append.1 hb with hb | hb
  ·obtain ⟨j,b0,hj,e,_⟩:=hn1 id b hb;have hjm : j < m:=(List.getElem?_eq_some_iff.1 hj).1;rw [e,Nat.zero_add,locNew j hjm] at hn;simp at hn
  obtain ⟨j,hj,_⟩:=hb1 id b hb
  rw [locOld hj] at hn;simp at hn)
 have HoldU : ∀ {j : Nat} {id},h.ps[j]? = some (.blk id) → BRel M h.ps s h.g id (hpBack outs news j) (H' id):=fun {j id} hj=>by
  obtain ⟨b,hb,hr⟩:=hb2 j id hj;have hjl : j < outs.length:=by rw [← plen];exact (List.getElem?_eq_some_iff.1 hj).1
  have e : hpBack outs news j = (outs[j]?).getD none:=by simp [hpBack,hjl]
  have uniq : ∀ b',(id,b') ∈ ws2 ++ ws1 → b' = b:=fun b' hb'=>by
   rcases List.mem_append.1 hb' with hb' | hb'
   ·obtain ⟨q,b0,hq,ee,_⟩:=hn1 id b' hb';have hqm : q < m:=(List.getElem?_eq_some_iff.1 hq).1;exact absurd ⟨by omega,by omega⟩ (notNew (inB hj))
   obtain ⟨j',hj',hr'⟩:=hb1 id b' hb';have:=hs.dist j' j id hj' hj;subst this;rcases hr with ⟨e1,e2⟩ | ⟨cs,cs',e1,e2,e3⟩ | ⟨t,l,v,t0,l0,ver,e1,e2,e3⟩ <;> rcases hr' with ⟨f1,f2⟩ | ⟨ds,ds',f1,f2,f3⟩ | ⟨t',l',v',t0',l0',ver',f1,f2,f3⟩
   ·rw [e2,f2]
   ·rw [e1] at f1;simp at f1
   ·rw [e1] at f1;simp at f1
   ·rw [e1] at f1;simp at f1
   ·rw [e1] at f1;cases f1;rw [e2] at f2;cases f2;rw [e3,f3]
   ·rw [e1] at f1;simp at f1
   ·rw [e1] at f1;simp at f1
   ·rw [e1] at f1;simp at f1
   rw [e1] at f1;cases f1;rw [e2] at f2;cases f2;rw [e3,f3]
  rw [e,show H' id = b from put_mem uniq (List.mem_append.2 (.inr hb))];exact hr
 have Hnew : ∀ q b0,news[q]? = some b0 → ∃ b',renB h.ps s h.g b0 = some b' ∧ H' (s + q) = some b':=fun q b0 hq=>by
  obtain ⟨b',hb',hmem⟩:=hn2 q b0 hq;rw [Nat.zero_add] at hmem;have hqm : q < m:=(List.getElem?_eq_some_iff.1 hq).1;refine ⟨b',hb',put_mem (fun b1 hb=>?_) (List.mem_append.2 (.inl hmem))⟩;rcases List.mem_append.1 hb with hb | hb
  ·obtain ⟨j,c0,hj,e,c',hc',rfl⟩:=hn1 _ b1 hb;have : j = q:=by omega
   subst this;rw [hq] at hj;cases hj;rw [hb'] at hc';cases hc';rfl
  obtain ⟨j,hj,_⟩:=hb1 _ b1 hb;exact absurd ⟨by omega,by omega⟩ (notNew (inB hj))
 let M' : Mem Ty D:=⟨w',M.S,H',γB M h.ps s m γ',fun id=>M.B id ∨ (s ≤ id ∧ id < s + 64)⟩
 -- blocks told anew: what they were behind the callee
 have blkOf : ∀ {id k},loc h.ps s m id = some k → ∀ b',H' id = some b' → (∃ t l v v',hpBack outs news k = some (.rowb t l v) ∧ b' = .rowb t l v') ∨ ∃ cs cs',hpBack outs news k = some (.box cs) ∧ renL h.ps s h.g cs = some cs' ∧ b' = .box cs':=by
  intro id k hk' b' hb';rcases locInv hk' with ⟨hp,hlt⟩ | ⟨q,hq,rfl,rfl⟩
  ·rcases HoldU hp with ⟨_,e2⟩ | ⟨cs,cs',e1,e2,e3⟩ | ⟨t,l,v,t0,l0,ver,e1,e2,e3⟩
   ·rw [hb'] at e2;simp at e2
   ·rw [hb'] at e3;cases e3;exact .inr ⟨cs,cs',e1,e2,rfl⟩
   rw [hb'] at e3;cases e3;exact .inl ⟨t,l,v,_,e1,rfl⟩
  obtain ⟨b',hr,hH⟩:=Hnew q _ (List.getElem?_eq_getElem hq);rw [hb'] at hH;cases hH
  have e : hpBack outs news (h.ps.length + q) = some news[q]:=by
   have : ¬ (h.ps.length + q < outs.length):=by omega
   have e2 : h.ps.length + q - outs.length = q:=by omega
   simp [hpBack,this,e2,List.getElem?_eq_getElem hq]
  rw [e];cases hb0 : news[q] with
  | box cs =>
   rw [hb0] at hr;simp only [renB] at hr
   split at hr
   ·rename_i cs' hcs;cases hr;exact .inr ⟨cs,cs',rfl,hcs,rfl⟩
   simp at hr
  | rowb t l v=>rw [hb0] at hr;simp only [renB,Option.some.injEq] at hr;subst hr;exact .inl ⟨t,l,v,0,rfl,rfl⟩
 have γk : ∀ {id k},loc h.ps s m id = some k → ∀ sub,M'.γ ⟨id,sub⟩ = γ' ⟨k,sub⟩:=fun {id k} hk' sub=>by simp [M',γB,hk']
 have γn : ∀ (nm : Nm),loc h.ps s m nm.id = none → M'.γ nm = M.γ nm:=fun nm hn=>by simp [M',γB,hn]
 -- values
 have RV : ∀ {u : Value} {c c' : AV Ty D},Vc K ⟨w',fun _=>SC K M h 1,hpBack outs news,γ',(· < outs.length + news.length)⟩ u c → renV h.ps s h.g c = some c' → c' ≠ .dd ∧ Vc K M' u c':=by
  intro u c c' hv hr;cases c with
  | sc x=>simp only [renV,Option.some.injEq] at hr;subst hr;exact ⟨by simp,hv⟩
  | row g t l =>
   obtain ⟨rfl,rfl⟩:=renV_row hr;refine ⟨by simp,?_⟩;have hf : Fz K w' (SC K M h 1) u (.row 1 t l):=hv;exact hf.tag
  | sl k cut =>
   have : cut = none ∧ ∃ id,renId h.ps s k = some id ∧ c' = .sl id none:=by
    cases cut with
    | none =>
     simp only [renV] at hr
     split at hr
     ·rename_i id hid;simp at hr;exact ⟨rfl,id,hid,hr.symm⟩
     simp at hr
    | some p=>simp [renV] at hr
   obtain ⟨rfl,id,hid,rfl⟩:=this;have hlt : k < outs.length + news.length:=hv.1.1;have hloc:=renLoc hlt hid;refine ⟨by simp,⟨locB hloc,hv.1.2⟩,fun t l ver hb=>?_⟩;rcases blkOf hloc _ hb with ⟨t',l',v,v',e1,e2⟩ | ⟨cs,cs',_,_,e⟩
   ·cases e2;have:=hv.2 _ _ _ e1;show u = Go.Proofs.YtbbfkodckpfjcaaGreat.M2.hv (M'.γ ⟨id,none⟩) l.length;rw [γk hloc];exact this
   simp at e
  | pt k i j =>
   obtain ⟨rfl,rfl,id,hid,rfl⟩:=renV_pt hr;have hlt : k < outs.length + news.length:=hv.1.1;have hloc:=renLoc hlt hid;refine ⟨by simp,⟨locB hloc,hv.1.2⟩,fun cs hb _=>?_,fun t l ver hb=>?_⟩
   ·rcases blkOf hloc _ hb with ⟨t',l',v,v',e1,e2⟩ | ⟨cs0,cs',e1,e2,e3⟩
    ·simp at e2
    obtain ⟨g,hg,hp⟩:=hv.2.1 cs0 e1 rfl;exact ⟨g,by rw [γk hloc];exact hg,hp⟩
   rcases blkOf hloc _ hb with ⟨t',l',v,v',e1,e2⟩ | ⟨cs0,cs',e1,e2,e3⟩
   ·cases e2;obtain ⟨hi,g,o,hg,hp⟩:=hv.2.2 _ _ _ e1;exact ⟨hi,g,o,by rw [γk hloc];exact hg,hp⟩
   simp at e3
  | ag cs=>exact hv.elim
  | tu cs=>exact hv.elim
  | fn f cs=>exact hv.elim
  | ifc t v=>exact hv.elim
  | _=>simp [renV] at hr
 have ownNew : ∀ {g id k sub},loc h.ps s m id = some k → Own K H' M'.γ g ⟨id,sub⟩ → Own K (hpBack outs news) γ' g ⟨k,sub⟩:=by
  rintro g id k sub hloc ⟨⟨b,hb⟩,hc,o,hg⟩;rw [γk hloc] at hc hg;refine ⟨?_,hc,o,hg⟩
  have hH : ∃ b0,H' id = some b0:=by
   cases e : H' id with
   | some b0=>exact ⟨b0,rfl⟩
   | none=>rw [blkAt_none e] at hb;simp at hb
  obtain ⟨b0,hb0⟩:=hH;rcases blkOf hloc b0 hb0 with ⟨t,l,v,v',e1,rfl⟩ | ⟨cs,cs',e1,e2,rfl⟩
  ·cases sub with
   | none=>exact ⟨_,by simp only [blkAt];exact e1⟩
   | some ij =>
    obtain ⟨i,j⟩:=ij;refine ⟨b,?_⟩;simp only [blkAt,hb0] at hb;simp only [blkAt,e1];exact hb
  cases sub with
  | none=>exact ⟨_,by simp only [blkAt];exact e1⟩
  | some ij=>obtain ⟨i,j⟩:=ij;simp [blkAt,hb0] at hb
 have ownOld : ∀ {g nm},loc h.ps s m nm.id = none → Own K H' M'.γ g nm → Own K M.H M.γ g nm:=by
  rintro g nm hn ⟨⟨b,hb⟩,hc,o,hg⟩;rw [γn nm hn] at hc hg;exact ⟨⟨b,by rw [← hb];exact (blkAt_congr (Hnone _ hn)).symm⟩,hc,o,hg⟩
 have ownCal : ∀ {g nm},Own K (hpOf h.bs) (γC M h.ps) g nm → ∃ x k,Own K M.H M.γ g x ∧ loc h.ps s m x.id = some k:=by
  intro g nm hO;obtain ⟨x,hx,hO'⟩:=ownC hk hs hO;obtain ⟨k,hkk | ⟨v,i,j,hkk⟩⟩:=back_id (M:=M) hx
  ·exact ⟨x,k,hO',locOld hkk⟩
  exact absurd hkk (noInner_spec hni _ _ _ _ _)
 have tr : Tr K M M':={
  fz:=fun g hg=>hkept.block g (hl.frz g hg).1 (fun ⟨nm,hO⟩=>by
   obtain ⟨x,_,hO',_⟩:=ownCal hO
   exact (hl.frz g hg).2 x hO')
  one:=hl.one
  s:=fun _ _ h=>h
  b:=fun _ h=>.inl h
  box:=fun id cs' hB hb=>by
   cases hloc : loc h.ps s m id with
   | none=>rw [show M'.H id = M.H id from Hnone id hloc] at hb;exact ⟨⟨cs',hb,rfl⟩,γn ⟨id,none⟩ hloc⟩
   | some k =>
    rcases locInv hloc with ⟨hp,hlt⟩ | ⟨q,hq,rfl,rfl⟩
    ·rcases blkOf hloc _ hb with ⟨_,_,_,_,_,e⟩ | ⟨cs,cs2,e1,e2,e3⟩
     ·simp at e
     cases e3;obtain ⟨hγ,b0,hb0,hlk⟩:=hpass k _ (by omega) e1;rcases hs.pl k _ hp (by simp) with ⟨t,l,ver,h1,h2⟩ | ⟨c0,c1,h1,h2,h3,_⟩
     ·rw [hb0] at h2;cases h2;obtain ⟨_,_,e,_⟩:=hlk;simp at e
     rw [hb0] at h2;cases h2;obtain ⟨_,e,hll⟩:=hlk;cases e;have:=(renL_spec e2).1;exact ⟨⟨c0,h1,by omega⟩,by rw [γk hloc,hγ];simp [γC,back,hp]⟩
    exact absurd hB (hfresh q (hm64 q hq))
  row:=fun id t l' ver' hB hb=>by
   cases hloc : loc h.ps s m id with
   | none=>rw [show M'.H id = M.H id from Hnone id hloc] at hb;exact ⟨l',ver',hb,γn ⟨id,none⟩ hloc,rfl,Nat.le_refl _,fun _ i x j g t2 l2 hx hj=>⟨x,g,l2,hx,hj,rfl,γn ⟨id,some (i,j)⟩ hloc⟩⟩
   | some k =>
    rcases locInv hloc with ⟨hp,hlt⟩ | ⟨q,hq,rfl,rfl⟩
    ·rcases HoldU hp with ⟨_,e2⟩ | ⟨cs,cs',_,_,e3⟩ | ⟨t1,l1,v,t0,l0,ver,e1,e2,e3⟩
     ·rw [show H' id = some (.rowb t l' ver') from hb] at e2;simp at e2
     ·rw [show H' id = some (.rowb t l' ver') from hb] at e3;simp at e3
     rw [show H' id = some (.rowb t l' ver') from hb] at e3;cases e3;obtain ⟨hγ,b0,hb0,hlk⟩:=hpass k _ (by omega) e1;rcases hs.pl k _ hp (by simp) with ⟨t2,l2,ver2,h1,h2⟩ | ⟨c0,c1,h1,h2,_⟩
     ·rw [hb0] at h2;cases h2;obtain ⟨_,_,e,hll⟩:=hlk;cases e;rw [e2] at h1;cases h1;exact ⟨_,ver,e2,by rw [γk hloc,hγ];simp [γC,back,hp],hll,Nat.le_succ _,fun e=>absurd e (by omega)⟩
     rw [e2] at h1;simp at h1
    exact absurd hB (hfresh q (hm64 q hq)) }
 refine ⟨M',⟨tr,⟨fun nm b hb=>?_,fun g nm nm' ho ho'=>?_,hl.one,fun g hg=>?_,fun id b hb=>?_⟩,rfl,fun id hB=>hB,rfl,⟨hkept.os,hkept.tape,hkept.output,hkept.size,fun g hg hO=>hkept.block g hg (fun ⟨nm,h'⟩=>by
   obtain ⟨x,_,hO',_⟩:=ownCal h'
   exact hO ⟨x,hO'⟩)⟩,fun g nm ho=>?_⟩,rfl,?_,?_⟩
 ·cases hloc : loc h.ps s m nm.id with
  | none =>
   have hb' : blkAt K M.H nm = some b:=by rw [← hb];exact (blkAt_congr (Hnone _ hloc)).symm
   refine NmOk.keep tr (hl.ok nm b hb') (γn nm hloc) (fun _ sub=>γn ⟨nm.id,sub⟩ hloc) (fun g o hg hc=>?_);have hO : Own K M.H M.γ g nm:=⟨⟨b,hb'⟩,hc,o,hg⟩;refine hkept.block g (hO.lt hl).1 (fun ⟨nm',hO'⟩=>?_);obtain ⟨x,k,hOx,hkx⟩:=ownCal hO';have:=hl.inj g _ _ hO hOx;subst this;rw [hloc] at hkx;simp at hkx
  | some k =>
   obtain ⟨id,sub⟩:=nm;simp only at hloc
   have hH : ∃ b0,H' id = some b0:=by
    cases e : H' id with
    | some b0=>exact ⟨b0,rfl⟩
    | none=>rw [blkAt_none (show M'.H id = none from e)] at hb;simp at hb
   obtain ⟨b0,hb0⟩:=hH;rcases blkOf hloc b0 hb0 with ⟨t,l,v,v',e1,rfl⟩ | ⟨cs,cs',e1,e2,rfl⟩
   ·have rowCase : ∀ t1 l1 (ve ve' : Nat),blkAt K (hpBack outs news) ⟨k,sub⟩ = some (.rowb t1 l1 ve) → NmOk K M' ⟨id,sub⟩ (.rowb t1 l1 ve'):=by
     intro t1 l1 ve ve' hbk;obtain ⟨hle,hr⟩:=hlay.ok ⟨k,sub⟩ _ hbk;refine ⟨by rw [γk hloc];exact hle,fun hc=>?_⟩;rw [γk hloc] at hc ⊢;obtain ⟨g,o,arr,ee,f1,f2,f3,f4⟩:=hr hc;refine ⟨g,o,arr,ee,f1,f2,f3,fun i x hx j c hj=>?_⟩;obtain ⟨u,hu,hR⟩:=f4 i x hx j c hj;refine ⟨u,hu,?_⟩;cases c with
     | sc _=>exact hR
     | row g2 t2 l2=>exact ⟨hR.1,hR.2.trans (congrArg (fun hh=>hv hh l2.length) (γk hloc (some (i,j))).symm)⟩
     | _=>exact hR.elim
    cases sub with
    | none =>
     have : b = .rowb t l v':=by simp only [blkAt] at hb;rw [show M'.H id = _ from hb0] at hb;simpa using hb.symm
     subst this;exact rowCase t l v v' (by simp only [blkAt];exact e1)
    | some ij =>
     obtain ⟨i,j⟩:=ij
     have hb1' : blkAt K (hpBack outs news) ⟨k,some (i,j)⟩ = some b:=by
      simp only [blkAt] at hb ⊢;rw [show M'.H id = _ from hb0] at hb;rw [e1];exact hb
     have : ∃ t2 l2,b = .rowb t2 l2 0:=by
      simp only [blkAt,e1] at hb1'
      split at hb1'
      ·split at hb1'
       ·simp at hb1';exact ⟨_,_,hb1'.symm⟩
       simp at hb1'
      simp at hb1'
     obtain ⟨t2,l2,rfl⟩:=this;exact rowCase t2 l2 0 0 hb1'
   cases sub with
   | some ij=>obtain ⟨i,j⟩:=ij;simp only [blkAt] at hb;rw [show M'.H id = _ from hb0] at hb;simp at hb
   | none =>
    have : b = .box cs':=by simp only [blkAt] at hb;rw [show M'.H id = _ from hb0] at hb;simpa using hb.symm
    subst this;obtain ⟨hcap,g,arr,ee,f1,f2,f3,f4⟩:=hlay.ok ⟨k,none⟩ _ (show blkAt K (hpBack outs news) ⟨k,none⟩ = some (.box cs) by simp only [blkAt];exact e1);obtain ⟨r1,r2⟩:=renL_spec e2;refine ⟨by rw [γk hloc];exact hcap,g,arr,ee,by rw [γk hloc];exact f1,f2,by omega,fun j c' hj'=>?_⟩;have hlt : j < cs.length:=by rw [r1];exact (List.getElem?_eq_some_iff.1 hj').1
    have hc:=List.getElem?_eq_getElem hlt;obtain ⟨hd,u,hu,hVc⟩:=f4 j _ hc;obtain ⟨h5,h6⟩:=RV hVc (r2 j _ c' hc hj');exact ⟨h5,u,hu,h6⟩
 ·have cross : ∀ {g nm id k sub},loc h.ps s m nm.id = none → Own K H' M'.γ g nm → loc h.ps s m id = some k → Own K H' M'.γ g ⟨id,sub⟩ → False:=by
   intro g nm id k sub hn hO hloc hO2;have h1:=ownOld hn hO;rcases hfr g _ (ownNew hloc hO2) with h2 | ⟨x,h2⟩
   ·have:=(h1.lt hl).1;omega
   obtain ⟨y,k',hOy,hky⟩:=ownCal h2;have:=hl.inj g _ _ h1 hOy;subst this;rw [hn] at hky;simp at hky
  cases h1 : loc h.ps s m nm.id with
  | none =>
   cases h2 : loc h.ps s m nm'.id with
   | none=>exact hl.inj g _ _ (ownOld h1 ho) (ownOld h2 ho')
   | some k=>exact (cross h1 ho (sub:=nm'.sub) h2 ho').elim
  | some k =>
   cases h2 : loc h.ps s m nm'.id with
   | none=>exact (cross h2 ho' (sub:=nm.sub) h1 ho).elim
   | some k' =>
    have:=hlay.inj g _ _ (ownNew (sub:=nm.sub) h1 ho) (ownNew (sub:=nm'.sub) h2 ho');simp only [Nm.mk.injEq] at this;obtain ⟨e1,e2⟩:=this;subst e1
    have hid : nm.id = nm'.id:=by
     rcases locInv h1 with ⟨hp,_⟩ | ⟨q,hq,f1,f2⟩ <;> rcases locInv h2 with ⟨hp',_⟩ | ⟨q',hq',f1',f2'⟩
     ·rw [hp] at hp';simp at hp';exact hp'
     ·have:=(List.getElem?_eq_some_iff.1 hp).1;omega
     ·have:=(List.getElem?_eq_some_iff.1 hp').1;omega
     omega
    cases nm;cases nm';simp_all
 ·refine ⟨Nat.lt_of_lt_of_le (hl.frz g hg).1 hkept.size,fun nm ho=>?_⟩;cases h1 : loc h.ps s m nm.id with
  | none=>exact (hl.frz g hg).2 nm (ownOld h1 ho)
  | some k =>
   rcases hfr g _ (ownNew (sub:=nm.sub) h1 ho) with h2 | ⟨x,h2⟩
   ·have:=(hl.frz g hg).1;omega
   obtain ⟨y,_,hOy,_⟩:=ownCal h2;exact (hl.frz g hg).2 y hOy
 ·cases h1 : loc h.ps s m id with
  | none=>rw [show M'.H id = M.H id from Hnone id h1] at hb;exact .inl (hl.bd id b hb)
  | some k=>exact locB h1
 ·cases h1 : loc h.ps s m nm.id with
  | none=>exact .inr ⟨nm,ownOld h1 ho⟩
  | some k =>
   rcases hfr g _ (ownNew (sub:=nm.sub) h1 ho) with h2 | ⟨x,h2⟩
   ·exact .inl h2
   obtain ⟨y,_,hOy,_⟩:=ownCal h2;exact .inr ⟨y,hOy⟩
 ·have RA : ∀ {u : Value} {c c' : AV Ty D},Va K ⟨w',fun _=>SC K M h 1,hpBack outs news,γ',(· < outs.length + news.length)⟩ u c → renV h.ps s h.g c = some c' → c' ≠ .dd ∧ Va K M' u c':=by
   intro u c c' hv hr
   have gen : Vc K ⟨w',fun _=>SC K M h 1,hpBack outs news,γ',(· < outs.length + news.length)⟩ u c → c' ≠ .dd ∧ Va K M' u c':=fun hv=>by
    obtain ⟨h1,h2⟩:=RV hv hr;refine ⟨h1,?_⟩;cases c' <;> first | exact h2 | exact h2.elim
   cases c with
   | ag cs =>
    simp only [renV] at hr
    split at hr
    ·rename_i cs' hcs;cases hr;obtain ⟨vs,e,hll,hc⟩:=hv;obtain ⟨r1,r2⟩:=renL_spec hcs;refine ⟨by simp,vs,e,by omega,fun j u c' hu hj=>?_⟩;have hlt : j < cs.length:=by rw [r1];exact (List.getElem?_eq_some_iff.1 hj).1
     exact RV (hc j u _ hu (List.getElem?_eq_getElem hlt)).2 (r2 j _ c' (List.getElem?_eq_getElem hlt) hj)
    simp at hr
   | _=>exact gen hv
  cases out with
  | tu cs =>
   simp only [renV] at hren
   split at hren
   ·rename_i cs' hcs;cases hren;obtain ⟨vs,e,hll,hc⟩:=hV;obtain ⟨r1,r2⟩:=renL_spec hcs;refine ⟨vs,e,by omega,fun j u c' hu hj=>?_⟩;have hlt : j < cs.length:=by rw [r1];exact (List.getElem?_eq_some_iff.1 hj).1
    exact RA (hc j u _ hu (List.getElem?_eq_getElem hlt)).2 (r2 j _ c' (List.getElem?_eq_getElem hlt) hj)
   simp at hren
  | fn f cs=>simp [renV] at hren
  | ifc t x=>simp [renV] at hren
  | _ =>
   simp only [V] at hV;have h2:=(RA (u:=u) hV hren).2;cases v <;> first | exact h2 | exact h2.elim
 intro e;subst e;exact renV_nd hren
end
end Go.Proofs.YtbbfkodckpfjcaaGreat.M2

namespace Go.Proofs.YtbbfkodckpfjcaaGreat.M2
open Go
set_option linter.unusedVariables false
set_option linter.unusedSimpArgs false
section
variable {Ty : Type} {D : Ty → Type} {P : Program} {K : Kit Ty D}
theorem call_inner (hk : KitOk P K) {M : Mem Ty D} (hl : Lay K M) {h : Hd Ty D} (hs : Hs K M none h) {s id ver i j : Nat} (hps : h.ps = [.inner id ver i j]) {out v : AV Ty D} {t2 : Ty} {l2 : List (D t2)} {v2 : Nat} {tt : Ty} {l : List (D tt)} {ve : Nat} (hb : M.H id = some (.rowb tt l ve))
  {cs' : List (AV Ty D)} (hsp : splice (K.emb tt (rdD K tt l i)) j [.row 0 t2 l2] = some cs') {z : D tt} (hmk : K.mkD tt cs' = some z)
  (hren : renV h.ps s h.g out = some v) {u : Value} {w' : World} {γ' : Nm → Hdr}
  (hlay : Lay K ⟨w',fun _=>SC K M h 1,hpBack [some (.rowb t2 l2 v2)] [],γ',(· < 1)⟩) (hV : V K ⟨w',fun _=>SC K M h 1,hpBack [some (.rowb t2 l2 v2)] [],γ',(· < 1)⟩ u out)
  (hkept : Kept M.w w' (fun g=>∃ nm,Own K (hpOf h.bs) (γC M h.ps) g nm))
  (hpass : ∀ k b,k < h.bs.length → hpBack [some (.rowb t2 l2 v2)] [] k = some b → γ' ⟨k,none⟩ = γC M h.ps ⟨k,none⟩ ∧ ∃ b0,h.bs[k]? = some b0 ∧ lenKept b0 b) :
  ∃ M',Nx K M M' [(id,some (.rowb tt (l.set i z) ve))] s ∧ M'.w = w' ∧ V K M' u v ∧ v ≠ .dd:=by
 obtain ⟨tt',l',x,t2',l2',g,h1,h2,h3,h4⟩:=hs.pl 0 _ (by rw [hps];rfl) (by simp);rw [hb] at h1;cases h1;have hi : i < l.length:=(List.getElem?_eq_some_iff.1 h2).1;have hxi : l[i]? = some l[i]:=List.getElem?_eq_getElem hi;rw [hxi] at h2;cases h2;rw [rdD_eq hxi] at hsp;obtain ⟨rfl,hf2,hf⟩:=emb_row0 hk h3;have hb0 : hpBack [some (.rowb t2 l2 v2)] [] 0 = some (.rowb t2 l2 v2):=rfl;obtain ⟨hγ,b0,hb0',hlk⟩:=hpass 0 _ (by rw [← hs.len,hps];simp) hb0;rw [h4] at hb0';cases hb0';obtain ⟨_,_,e,hlen⟩:=hlk;cases e;have hγ' : γ' ⟨0,none⟩ = M.γ ⟨id,some (i,j)⟩:=by rw [hγ];simp [γC,back,hps]
 have hbs:=blkAt_sub hb hxi h3
 have ownCal : ∀ {g nm},Own K (hpOf h.bs) (γC M h.ps) g nm → Own K M.H M.γ g ⟨id,some (i,j)⟩:=by
  intro g nm hO;obtain ⟨y,hy,hO'⟩:=ownC hk hs hO
  have : y = ⟨id,some (i,j)⟩:=by
   unfold back at hy;rw [hps] at hy;obtain ⟨k,sub⟩:=nm;cases k with
   | zero =>
    simp only [List.getElem?_cons_zero] at hy;cases sub with
    | none=>simp at hy;exact hy.symm
    | some _=>simp at hy
   | succ k=>simp at hy
  rw [this] at hO';exact hO'
 obtain ⟨hle,hr⟩:=hl.ok ⟨id,none⟩ _ (show blkAt K M.H ⟨id,none⟩ = some (.rowb tt l ver) by simp only [blkAt];exact hb);obtain ⟨g0,p0,arr0,e0,hg0,hh0,hs0,hc0⟩:=hr (by omega);have hown0 : Own K M.H M.γ g0 ⟨id,none⟩:=⟨⟨_,by simp only [blkAt];exact hb⟩,by omega,p0,hg0⟩;obtain ⟨hle',hr'⟩:=hlay.ok ⟨0,none⟩ _ (show blkAt K _ ⟨0,none⟩ = some (.rowb t2 l2 v2) from hb0)
 have hnx:=Lay.one_row (ver':=ver) (l2':=l2) hk hl (z:=z) (hd':=M.γ ⟨id,some (i,j)⟩) w' (hl.bd _ _ hb) hb hi h3 (fun j'=>by rw [hk.mkOk tt cs' z hmk,splice_one hsp]) (.inr ⟨rfl,hlen,rfl⟩) hkept.os hkept.tape hkept.output hkept.size
  (fun g hg hno=>hkept.block g hg (fun ⟨nm,hO⟩=>(hno _ (ownCal hO)).2 rfl))
  (by
   intro g oo hg arr ee hh;rw [hg0] at hg;cases hg;refine ⟨arr,?_,rfl,fun _ _=>rfl,?_⟩
   ·rw [← hh];exact hkept.block g0 (hown0.lt hl).1 (fun ⟨nm,hO⟩=>by
     have:=hl.inj g0 _ _ hown0 (ownCal hO)
     simp at this)
   rw [hh0] at hh;cases hh;obtain ⟨u,hu,hR⟩:=hc0 i _ hxi j _ h3
   rw [hu,hR.2,hlen])
  (by
   rw [show (Mem.mk w' (fun _=>SC K M h 1) (hpBack [some (Blk.rowb t2 l2 v2)] []) γ' (· < 1)).γ ⟨0,none⟩ = M.γ ⟨id,some (i,j)⟩ from hγ'] at hle' hr';refine ⟨hle',fun hc=>?_⟩;obtain ⟨g,oo,arr,ee,f1,f2,f3,f4⟩:=hr' hc;refine ⟨g,oo,oo,arr,ee,f1,f1,hc,f2,f3,fun q y hy c cc hcc=>?_⟩;obtain ⟨u,hu,hR⟩:=f4 q y hy c cc hcc;refine ⟨u,hu,?_⟩;rcases hk.cell t2 y cc (List.mem_of_getElem? hcc) with ⟨v,rfl,_⟩ | ⟨t3,l3,rfl,_,hff⟩
   ·exact ⟨v,rfl,hR⟩
   rw [hf2] at hff;simp at hff) s
 have RV : ∀ {u : Value} {c c' : AV Ty D},Vc K ⟨w',fun _=>SC K M h 1,hpBack [some (.rowb t2 l2 v2)] [],γ',(· < 1)⟩ u c → renV h.ps s h.g c = some c' → c' ≠ .dd ∧ Vc K ⟨w',M.S,Heap.put M.H [(id,some (.rowb tt (l.set i z) ver))],fun nm=>if nm = ⟨id,some (i,j)⟩ then M.γ ⟨id,some (i,j)⟩ else M.γ nm,M.B⟩ u c':=by
  intro u c c' hv hr
  have noRen : ∀ k,k < 1 → renId h.ps s k = none:=by
   intro k hk';have : k = 0:=by omega
   subst this;unfold renId;rw [hps];rfl
  cases c with
  | sc x=>simp only [renV,Option.some.injEq] at hr;subst hr;exact ⟨by simp,hv⟩
  | row g t l =>
   obtain ⟨rfl,rfl⟩:=renV_row hr;have hf : Fz K w' (SC K M h 1) u (.row 1 t l):=hv;exact ⟨by simp,hf.tag⟩
  | sl k cut =>
   cases cut with
   | none =>
    have hlt : k < 1:=hv.1.1;simp only [renV,noRen k hlt] at hr;simp at hr
   | some p=>simp [renV] at hr
  | pt k i j =>
   obtain ⟨rfl,rfl,id,hid,rfl⟩:=renV_pt hr;rw [noRen k hv.1.1] at hid;simp at hid
  | ag cs=>exact hv.elim
  | tu cs=>exact hv.elim
  | fn f cs=>exact hv.elim
  | ifc t v=>exact hv.elim
  | _=>simp [renV] at hr
 refine ⟨_,hnx,rfl,?_,fun e=>by subst e;exact renV_nd hren⟩
 have RA : ∀ {u : Value} {c c' : AV Ty D},Va K ⟨w',fun _=>SC K M h 1,hpBack [some (.rowb t2 l2 v2)] [],γ',(· < 1)⟩ u c → renV h.ps s h.g c = some c' → c' ≠ .dd ∧ Va K ⟨w',M.S,Heap.put M.H [(id,some (.rowb tt (l.set i z) ver))],fun nm=>if nm = ⟨id,some (i,j)⟩ then M.γ ⟨id,some (i,j)⟩ else M.γ nm,M.B⟩ u c':=by
  intro u c c' hv hr
  have gen : Vc K ⟨w',fun _=>SC K M h 1,hpBack [some (.rowb t2 l2 v2)] [],γ',(· < 1)⟩ u c → c' ≠ .dd ∧ Va K ⟨w',M.S,Heap.put M.H [(id,some (.rowb tt (l.set i z) ver))],fun nm=>if nm = ⟨id,some (i,j)⟩ then M.γ ⟨id,some (i,j)⟩ else M.γ nm,M.B⟩ u c':=fun hv=>by
   obtain ⟨h1,h2⟩:=RV hv hr;refine ⟨h1,?_⟩;cases c' <;> first | exact h2 | exact h2.elim
  cases c with
  | ag cs =>
   simp only [renV] at hr
   split at hr
   ·rename_i cs' hcs;cases hr;obtain ⟨vs,e,hll,hc⟩:=hv;obtain ⟨r1,r2⟩:=renL_spec hcs;refine ⟨by simp,vs,e,by omega,fun j u c' hu hj=>?_⟩;have hlt : j < cs.length:=by rw [r1];exact (List.getElem?_eq_some_iff.1 hj).1
    exact RV (hc j u _ hu (List.getElem?_eq_getElem hlt)).2 (r2 j _ c' (List.getElem?_eq_getElem hlt) hj)
   simp at hr
  | _=>exact gen hv
 cases out with
 | tu cs =>
  simp only [renV] at hren
  split at hren
  ·rename_i cs' hcs;cases hren;obtain ⟨vs,e,hll,hc⟩:=hV;obtain ⟨r1,r2⟩:=renL_spec hcs;refine ⟨vs,e,by omega,fun j u c' hu hj=>?_⟩;have hlt : j < cs.length:=by rw [r1];exact (List.getElem?_eq_some_iff.1 hj).1
   exact RA (hc j u _ hu (List.getElem?_eq_getElem hlt)).2 (r2 j _ c' (List.getElem?_eq_getElem hlt) hj)
  simp at hren
 | fn f cs=>simp [renV] at hren
 | ifc t x=>simp [renV] at hren
 | _ =>
  simp only [V] at hV;have h2:=(RA (u:=u) hV hren).2;cases v <;> first | exact h2 | exact h2.elim
theorem Runs.call_inv {H : Heap Ty D} {f : FuncId} {ins : List (AV Ty D)} {bs : List (Blk Ty D)} {q : AV Ty D → List (Option (Blk Ty D)) → List (Blk Ty D) → Ac Ty D} {rs v ws rs'} (h : Runs P K H (.call f ins bs q) rs v ws rs') :
  ∃ out outs news,Contract P K f ins bs out outs news ∧ Runs P K H (q out outs news) rs v ws rs':=by cases h;exact ⟨_,_,_,‹_›,‹_›⟩
def plainV : AV Ty D → Bool
 | .tu _=>false
 | .fn _ _=>false
 | .ifc _ _=>false
 | _=>true
theorem Va_of_V {M : Mem Ty D} {u : Value} {x : AV Ty D} (h : V K M u x) (hx : plainV x = true) : Va K M u x:=by
 cases x <;> first | exact h | (simp [plainV] at hx;done)
theorem noTu_spec : ∀ {vs : List (AV Ty D)},noTu vs = true → ∀ v ∈ vs,plainV v = true:=by
 intro vs
 induction vs with
 | nil=>simp
 | cons v vs ih =>
  intro h w hw;rcases List.mem_cons.1 hw with rfl | hw
  ·cases w <;> simp_all [noTu,plainV]
  exact ih (by cases v <;> simp_all [noTu]) w hw
theorem call_ok (hk : KitOk P K) {o : Oper} {a : Act} {M : Mem Ty D} {ρ : Operand → AV Ty D} {c : Call} {f : FuncId} (hl : Lay K M) (he : Ops K M a ρ) (ho : o.op = .call c) (hc : c.callee = .value (.func f)) {s : Nat} (hfresh : ∀ q,q < 64 → ¬ M.B (s + q)) (hnt : noTu (fnArgs ρ c.args) = true) {rs v ws rs'}
  (h : Runs P K M.H (callA K f (fnArgs ρ c.args) s) rs v ws rs') : Comes1 P K o a M v ws s:=by
 unfold callA at h
 obtain ⟨ins,hd,rs1,h,hs,le,hil,hargs⟩:=handAll_inv hk hl _ _ _ (c.args.toList.map a.eval) _ _ ⟨rfl,by simp,by simp,.inl rfl⟩ (by simp [fnArgs]) (fun j u x hu hx=>by
  simp only [fnArgs,List.getElem?_map] at hu hx;cases hq : c.args.toList[j]? with
  | none=>rw [hq] at hu;simp at hu
  | some y =>
   rw [hq] at hu hx;simp only [Option.map_some,Option.some.injEq] at hu hx;subst hu;subst hx
   exact Va_of_V (he y) (noTu_spec hnt _ (List.mem_map.2 ⟨y,List.mem_of_getElem? hq,rfl⟩))) h
 simp only [List.reverse_nil,List.nil_append] at h
 split at h
 ·exact h.nobad.elim
 rename_i hclear
 have start : ∀ {out outs news},Contract P K f ins hd.bs out outs news → ∀ (next : Act → World → Prop) (Q : Exit → Act → World → Prop),
   (∀ u w' γ',Lay K ⟨w',fun _=>SC K M hd 1,hpBack outs news,γ',(· < outs.length + news.length)⟩ → V K ⟨w',fun _=>SC K M hd 1,hpBack outs news,γ',(· < outs.length + news.length)⟩ u out → Kept M.w w' (fun g=>∃ nm,Own K (hpOf hd.bs) (γC M hd.ps) g nm) →
    (∀ g nm,Own K (hpBack outs news) γ' g nm → M.w.heap.size ≤ g ∨ ∃ nm',Own K (hpOf hd.bs) (γC M hd.ps) g nm') →
    (∀ k b,k < hd.bs.length → hpBack outs news k = some b → γ' ⟨k,none⟩ = γC M hd.ps ⟨k,none⟩ ∧ ∃ b0,hd.bs[k]? = some b0 ∧ lenKept b0 b) → next (a.put o.dst u) w') → o.wp P a M.w next Q:=by
  intro out outs news hC next Q hn;obtain ⟨hent,hol,hC⟩:=hC
  have hrun : (execOp a.eval o).run P M.w = .ok (.enter f (c.args.map a.eval)) M.w:=by
   have:=hent (c.args.map a.eval) M.w;simp only [execOp,ho,resolve,hc,Act.eval,Deferred.ofValue,Sem.run_bind,Sem.run_pure,Result.andThen_ok,invoke]
   simpa using this
  unfold Oper.wp;rw [hrun,Oper.upon_enter];refine (hC M.w (SC K M hd) (γC M hd.ps) (c.args.map a.eval) (layC hk hl hs) (fun g hg hno=>⟨hg,hno⟩) (by rw [Array.size_map,hil];simp [fnArgs]) (fun k u x hu hx=>?_)).mono ?_
  ·exact argC hk hl hs hclear (hargs k u x (by simpa using hu) hx)
  rintro e w' ⟨u,γ',rfl,h1,_,h2,h3,h4,h5⟩;exact hn u w' γ' h1 h2 h3 h4 h5
 split at h
 ·rename_i id ver i j hps;obtain ⟨out,outs,news,hC,h⟩:=h.call_inv
  split at h
  ·rename_i t2 l2 v2
   split at h
   ·rename_i v' hren;obtain ⟨b,rs2,hb,h⟩:=h.get_inv
    split at h
    ·rename_i tt l ve;obtain ⟨cs',hsp,h⟩:=h.ofOpt;obtain ⟨z,hmk,h⟩:=h.ofOpt;obtain ⟨rfl,rfl⟩:=h.ret_inv;intro next Q hnext;refine start hC next Q (fun u w' γ' h1 h2 h3 h4 h5=>?_);obtain ⟨M',hnx,hw,hVv,hdd⟩:=call_inner hk hl hs (s:=s) hps hb hsp hmk hren h1 h2 h3 h5;rw [← hw];exact hnext u M' hnx (.inl ⟨hVv,hdd⟩)
    exact h.nobad.elim
   exact h.nobad.elim
  exact h.nobad.elim
 split at h
 ·rename_i hni;obtain ⟨out,outs,news,hC,h⟩:=h.call_inv
  split at h
  ·rename_i v' hren;obtain ⟨ws1,rs2,h,hb1,hb2⟩:=backA_inv _ _ _ _ h;rw [List.append_nil] at h;obtain ⟨ws2,rs3,h,hm,hn1,hn2⟩:=newsA_inv _ _ _ _ h;obtain ⟨rfl,rfl⟩:=h.ret_inv;intro next Q hnext;refine start hC next Q (fun u w' γ' h1 h2 h3 h4 h5=>?_);obtain ⟨M',hnx,hw,hVv,hdd⟩:=call_nx hk hl hs hni hfresh hC.2.1 hm hb1 hb2 hn1 hn2 hren h1 h2 h3 h4 h5;rw [← hw];exact hnext u M' hnx (.inl ⟨hVv,hdd⟩)
  exact h.nobad.elim
 exact h.nobad.elim
end
end Go.Proofs.YtbbfkodckpfjcaaGreat.M2

namespace Go.Proofs.YtbbfkodckpfjcaaGreat.M2
open Go
set_option linter.unusedVariables false
set_option linter.unusedSimpArgs false
section
variable {Ty : Type} {D : Ty → Type} {P : Program} {K : Kit Ty D}
theorem ifc_ok {o : Oper} {a : Act} {M : Mem Ty D} {ρ : Operand → AV Ty D} {t : TypeId} {x : Operand} (hl : Lay K M) (he : Ops K M a ρ) (ho : o.op = .makeInterface t x) {rs v ws rs'}
  (h : Runs P K M.H (ifcA P t (ρ x)) rs v ws rs') (s : Nat) : Comes1 P K o a M v ws s:=by
 unfold ifcA at h
 split at h
 ·rename_i e id hu hx;obtain ⟨rfl,rfl⟩:=h.ret_inv;have hv:=he x;rw [hx] at hv;refine Comes1.of_run hl (u:=.iface t (a.eval x)) ?_ ⟨_,rfl,by simp,hv⟩ (by simp);simp [execOp,ho,Instr.makeInterface,run_underlying hu]
 exact h.nobad.elim
theorem fun_ok {o : Oper} {a : Act} {M : Mem Ty D} {ρ : Operand → AV Ty D} {g : FuncId} {fs cs : Array Operand} (hl : Lay K M) (he : Ops K M a ρ) (ho : o.op = .makeFunc (.func g) fs cs) {rs v ws rs'}
  (h : Runs P K M.H (funA g (fs.toList.map ρ) (cs.toList.map ρ)) rs v ws rs') (s : Nat) : Comes1 P K o a M v ws s:=by
 obtain ⟨fl⟩:=fs;obtain ⟨cl⟩:=cs;simp only at h;unfold funA at h
 split at h
 ·rename_i b hf hc;obtain ⟨rfl,rfl⟩:=h.ret_inv;obtain rfl : fl = []:=List.map_eq_nil_iff.1 hf
  obtain ⟨y,rfl,hy⟩ : ∃ y,cl = [y] ∧ ρ y = .pt b 0 0:=by
   cases cl with
   | nil=>cases hc
   | cons y cl =>
    simp only [List.map_cons,List.cons.injEq] at hc;exact ⟨y,by rw [List.map_eq_nil_iff.1 hc.2],hc.1⟩
  have hv:=he y;rw [hy] at hv;refine Comes1.of_run hl (u:=.func (.func g) #[] #[a.eval y]) ?_ ⟨[a.eval y],rfl,rfl,fun j u c hu hj=>?_⟩ (by simp)
  ·simp [execOp,ho,Instr.makeFunc]
  cases j with
  | zero=>simp at hu hj;subst hu;subst hj;exact ⟨by simp,hv⟩
  | succ j=>simp at hu
 exact h.nobad.elim
theorem libArgs_eq {l : List (AV Ty D)} {t : TypeId} {id : Nat} {g : FuncId} {b : Nat} (h : libArgs l = some (t,id,g,b)) : l = [.ifc t (.sl id none),.fn g [.pt b 0 0]]:=by
 unfold libArgs at h
 split at h
 ·simp only [Option.some.injEq,Prod.mk.injEq] at h;obtain ⟨rfl,rfl,rfl,rfl⟩:=h;rfl
 cases h
theorem box_at {M : Mem Ty D} (hl : Lay K M) {b : Nat} {cs : List (AV Ty D)} (hb : M.H b = some (.box cs)) {p : Value} (hp : Vc K M p (.pt b 0 0)) :
  ∃ g,p = .pointer (some ⟨g,0,none⟩) ∧ g < M.w.heap.size ∧ (∀ nm,nm.id ≠ b → ¬ Own K M.H M.γ g nm) ∧ ∀ (j : Nat) c,cs[j]? = some c → ∃ u,M.w.cell? ⟨g,j,none⟩ = some u ∧ Vc K M u c:=by
 obtain ⟨g,hg,hv⟩:=hp.2.1 cs hb rfl;have hbk : blkAt K M.H ⟨b,none⟩ = some (.box cs):=by simp only [blkAt];exact hb
 obtain ⟨h1,g',arr,e,h2,h3,h4,h5⟩:=hl.ok ⟨b,none⟩ _ hbk;rw [hg] at h2;simp only [Option.some.injEq,Addr.mk.injEq,and_true] at h2;subst h2;have hown : Own K M.H M.γ g ⟨b,none⟩:=⟨⟨_,hbk⟩,by omega,0,hg⟩;refine ⟨g,hv,(hown.lt hl).1,fun nm hne ho=>hne ?_,fun j c hj=>?_⟩
 ·rw [← hl.inj g _ _ hown ho]
 obtain ⟨_,u,hu,hc⟩:=h5 j c hj;exact ⟨u,by rw [cellAt h3];exact hu,hc⟩
theorem libA_inv {M : Mem Ty D} (hl : Lay K M) {L : Lib Ty D} {t : TypeId} {id b : Nat} {rs v ws rs'} (h : Runs P K M.H (libA K L t id b) rs v ws rs') :
  K.elem t = some L.te ∧ ∃ l ver,M.H id = some (.rowb L.te l ver) ∧ l.length ≤ L.lim ∧ v = .tu [] ∧ ws = [(id,some (.rowb L.te (L.fn l) ver))] ∧
   ∀ u p,Vc K M u (.sl id none) → Vc K M p (.pt b 0 0) → ∃ gb,p = .pointer (some ⟨gb,0,none⟩) ∧ ∀ gg,Own K M.H M.γ gg ⟨id,none⟩ → Held M.w u gb gg L.path:=by
 unfold libA at h;obtain ⟨ht,h⟩:=h.test_inv
 have hte : K.elem t = some L.te:=by
  split at ht
  ·rename_i te e;rw [e,@of_decide_eq_true _ (K.dec te L.te) ht]
  cases ht
 refine ⟨hte,?_⟩;obtain ⟨blk,rs1,hb,h⟩:=h.get_inv
 split at h
 rotate_left
 ·exact h.nobad.elim
 rename_i t' l ver;obtain ⟨l',hcast,hr⟩:=h.ofOpt;clear h;obtain ⟨et,el⟩:=castL_eq hcast;subst et;simp only at el;subst el;obtain ⟨hlim,hr⟩:=hr.test_inv;obtain ⟨bb,rs2,hbb,h⟩:=hr.get_inv
 have uniq : ∀ u u',Vc K M u (.sl id none) → Vc K M u' (.sl id none) → u = u':=fun u u' h1 h2=>by
  have e1 : u = hv (M.γ ⟨id,none⟩) l'.length:=h1.2 _ _ _ hb;have e2 : u' = hv (M.γ ⟨id,none⟩) l'.length:=h2.2 _ _ _ hb;rw [e1,e2]
 have apart : ∀ x cs,M.H x = some (.box cs) → x ≠ id:=fun x cs hx e=>by rw [e,hb] at hx;cases hx
 split at h
 rotate_left
 ·exact h.nobad.elim
 rename_i c cs
 split at h
 ·rename_i id2 hpath;obtain ⟨hid,h⟩:=h.test_inv;obtain ⟨rfl,rfl⟩:=h.ret_inv;obtain rfl : id2 = id:=Nat.eq_of_beq_eq_true hid;refine ⟨l',ver,hb,of_decide_eq_true hlim,rfl,rfl,fun u p hu hp=>?_⟩;obtain ⟨gb,e,hlt,hno,hc⟩:=box_at hl hbb hp;refine ⟨gb,e,fun gg ho=>?_⟩;rw [hpath];obtain ⟨u',hu',hv'⟩:=hc 0 _ rfl;refine ⟨fun eg=>hno ⟨id2,none⟩ (fun e=>apart b _ hbb e.symm) (by rw [eg];exact ho),hlt,?_⟩;rw [hu',uniq u u' hu hv']
 ·rename_i off s hpath;obtain ⟨sb,rs3,hsb,h⟩:=h.get_inv
  split at h
  rotate_left
  ·exact h.nobad.elim
  rename_i ds
  split at h
  rotate_left
  ·exact h.nobad.elim
  rename_i id2 hds;obtain ⟨hid,h⟩:=h.test_inv;obtain ⟨rfl,rfl⟩:=h.ret_inv;obtain rfl : id2 = id:=Nat.eq_of_beq_eq_true hid;refine ⟨l',ver,hb,of_decide_eq_true hlim,rfl,rfl,fun u p hu hp=>?_⟩;obtain ⟨gb,e,hlt,hno,hc⟩:=box_at hl hbb hp;obtain ⟨q,hq,hvq⟩:=hc 0 _ rfl;obtain ⟨gs,e2,hlt2,hno2,hc2⟩:=box_at hl hsb hvq;obtain ⟨u',hu',hv'⟩:=hc2 off _ hds;refine ⟨gb,e,fun gg ho=>?_⟩;rw [hpath];refine ⟨fun eg=>hno ⟨id2,none⟩ (fun e=>apart b _ hbb e.symm) (by rw [eg];exact ho),hlt,gs,by rw [hq,e2],fun eg=>hno2 ⟨id2,none⟩ (fun e=>apart s _ hsb e.symm) (by rw [eg];exact ho),hlt2,?_⟩;rw [hu',uniq u u' hu hv']
 exact h.nobad.elim
theorem rc_sc {γ : Nm → Hdr} {nm : Nm} {i j : Nat} {u : Value} {c : AV Ty D} (h : Rc γ nm i j u c) (hc : ∃ v,c = .sc v ∧ scalar v = true) : u = scVal c:=by
 obtain ⟨v,rfl,_⟩:=hc;exact h.1
theorem flat_cell (hk : KitOk P K) {t : Ty} (hf : K.flat t = true) {x : D t} {j : Nat} {c : AV Ty D} (h : (K.emb t x)[j]? = some c) : ∃ v,c = .sc v ∧ scalar v = true:=by
 rcases hk.cell t x c (List.mem_of_getElem? h) with h1 | ⟨t2,l2,_,_,h2⟩
 ·exact h1
 rw [hf] at h2;cases h2
theorem lib_ok (hk : KitOk P K) {o : Oper} {a : Act} {M : Mem Ty D} {ρ : Operand → AV Ty D} {c : Call} {f g : FuncId} {L : Lib Ty D} {t : TypeId} {id b : Nat} (hl : Lay K M) (he : Ops K M a ρ) (ho : o.op = .call c) (hc : c.callee = .value (.func f))
  (hargs : libArgs (fnArgs ρ c.args) = some (t,id,g,b)) (hL : K.lib f g = some L) {rs v ws rs'} (h : Runs P K M.H (libA K L t id b) rs v ws rs') (s : Nat) : Comes1 P K o a M v ws s:=by
 obtain ⟨hent,hflat,hlen,hcall⟩:=hk.lib f g L hL;obtain ⟨hte,l,ver,hb,hlim,rfl,rfl,hheld⟩:=libA_inv hl h;have hal:=libArgs_eq hargs
 obtain ⟨x,y,hxy⟩ : ∃ x y,c.args = #[x,y]:=by
  unfold fnArgs at hal;generalize c.args = al at hal;obtain ⟨al⟩:=al;simp only at hal;cases al with
  | nil=>simp at hal
  | cons x al =>
   cases al with
   | nil=>simp at hal
   | cons y al =>
    cases al with
    | nil=>exact ⟨x,y,rfl⟩
    | cons z al=>simp at hal
 rw [hxy] at hal;simp only [fnArgs,List.map_cons,List.map_nil,List.cons.injEq,and_true] at hal;have hx:=he x;rw [hal.1] at hx;have hy:=he y;rw [hal.2] at hy;obtain ⟨u,ex,_,hu⟩:=hx;obtain ⟨vs,ey,hvl,hvs⟩:=hy
 obtain ⟨p,rfl⟩ : ∃ p,vs = [p]:=by
  match vs,hvl with
  | [p],_=>exact ⟨p,rfl⟩
 have hp:=(hvs 0 p (.pt b 0 0) rfl rfl).2;obtain ⟨gb,ep,hh⟩:=hheld u p hu hp;have eu : u = hv (M.γ ⟨id,none⟩) l.length:=hu.2 _ _ _ hb;have hbk : blkAt K M.H ⟨id,none⟩ = some (.rowb L.te l ver):=by simp only [blkAt];exact hb
 obtain ⟨hle,hrow⟩:=hl.ok ⟨id,none⟩ _ hbk;have hB : M.B id:=hu.1.1
 have hrun : (execOp a.eval o).run P M.w = .ok (.enter f (c.args.map a.eval)) M.w:=by
  have:=hent (c.args.map a.eval) M.w;simp only [execOp,ho,resolve,hc,Act.eval,Deferred.ofValue,Sem.run_bind,Sem.run_pure,Result.andThen_ok,invoke]
  simpa using this
 have ha : c.args.map a.eval = #[.iface t (.slice (M.γ ⟨id,none⟩).1 l.length (M.γ ⟨id,none⟩).2),.func (.func g) #[] #[.pointer (some ⟨gb,0,none⟩)]]:=by
  rw [hxy];simp only [List.map_toArray,List.map_cons,List.map_nil,ex,ey,eu,ep];rfl
 have own0 : ∀ gg o,(M.γ ⟨id,none⟩).1 = some ⟨gg,o,none⟩ → 0 < (M.γ ⟨id,none⟩).2 → Own K M.H M.γ gg ⟨id,none⟩:=fun gg o h1 h2=>⟨⟨_,hbk⟩,h2,o,h1⟩;intro next Q hnext;unfold Oper.wp;rw [hrun,Oper.upon_enter,ha];refine (hcall t hte M.w (M.γ ⟨id,none⟩).1 (M.γ ⟨id,none⟩).2 l gb hlim hle (fun hpos=>?_)).mono ?_
 ·obtain ⟨gg,oo,arr,e,h1,h2,h3,h4⟩:=hrow hpos;refine ⟨gg,oo,h1,⟨arr,e,h2,h3,fun i x hx j c hj=>?_⟩,?_⟩
  ·obtain ⟨uu,hu1,hu2⟩:=h4 i x hx j c hj;rw [hu1,rc_sc hu2 (flat_cell hk hflat hj)]
  have:=hh gg (own0 gg oo h1 hpos);rw [eu] at this;exact this
 rintro ev w' ⟨rfl,hres⟩;have hH : ∀ x,Heap.put M.H [(id,some (.rowb L.te (L.fn l) ver))] x = if x = id then some (.rowb L.te (L.fn l) ver) else if x ∈ ([] : List Nat) then none else M.H x:=by intro x;rw [heap_put1];simp
 have src : ∀ sub bb,blkAt K (Heap.put M.H [(id,some (.rowb L.te (L.fn l) ver))]) ⟨id,sub⟩ = some bb → sub = none ∧ bb = .rowb L.te (L.fn l) ver:=by
  intro sub bb hq;cases sub with
  | none=>simp only [blkAt,hH,if_true,Option.some.injEq] at hq;exact ⟨rfl,hq.symm⟩
  | some ij =>
   obtain ⟨i,j⟩:=ij;simp only [blkAt,hH,if_true] at hq
   split at hq
   ·rename_i z hz
    split at hq
    ·rename_i hz2;exact absurd hz2 (flat_sc hk hflat)
    cases hq
   cases hq
 have base : M.w.os = w'.os ∧ M.w.tape = w'.tape ∧ M.w.output = w'.output ∧ M.w.heap.size ≤ w'.heap.size ∧ (∀ q,q < M.w.heap.size → (∀ nm,Own K M.H M.γ q nm → nm.id ≠ id) → w'.heap[q]? = M.w.heap[q]?) ∧
   (0 < (M.γ ⟨id,none⟩).2 → ∃ gg oo,(M.γ ⟨id,none⟩).1 = some ⟨gg,oo,none⟩ ∧ RowAt K w' L.te (L.fn l) gg oo (M.γ ⟨id,none⟩).2):=by
  rcases hres with ⟨h0,hk0⟩ | ⟨h0,gg,oo,h1,hk0,hr⟩
  ·exact ⟨hk0.os.symm,hk0.tape.symm,hk0.output.symm,hk0.size,fun q hq _=>hk0.block q hq (fun h=>h),fun hpos=>by omega⟩
  refine ⟨hk0.os.symm,hk0.tape.symm,hk0.output.symm,hk0.size,fun q hq hno=>hk0.block q hq (fun e=>?_),fun _=>⟨gg,oo,h1,hr⟩⟩;have e : q = gg:=e;exact hno ⟨id,none⟩ (by rw [e];exact own0 gg oo h1 h0) rfl
 obtain ⟨b1,b2,b3,b4,b5,b6⟩:=base
 have hnx : Nx K M ⟨w',M.S,Heap.put M.H [(id,some (.rowb L.te (L.fn l) ver))],M.γ,M.B⟩ [(id,some (.rowb L.te (L.fn l) ver))] s:=by
  refine Lay.upd (blk:=.rowb L.te (L.fn l) ver) hl hB [] w' M.γ hH (fun _ _=>rfl) b5 b1.symm b2.symm b3.symm b4 (by intro c hc;simp at hc) ?_ ?_ ?_ ?_ s
  ·intro t' l' v' hq;cases hq;exact ⟨l,ver,hb,rfl,(hlen l).symm,Nat.le_refl _,fun _ i x j gg t2 l2 _ hj=>absurd hj (flat_sc hk hflat)⟩
  ·intro _ sub bb hq;obtain ⟨rfl,rfl⟩:=src sub bb hq;refine ⟨by rw [hlen];exact hle,fun hpos=>?_⟩;obtain ⟨gg,oo,h1,arr,e,h2,h3,h4⟩:=b6 hpos;refine ⟨gg,oo,arr,e,h1,h2,h3,fun i x hx j c hj=>?_⟩;obtain ⟨vv,rfl,hsv⟩:=flat_cell hk hflat hj;exact ⟨vv,h4 i x hx j _ hj,rfl,hsv⟩
  ·rintro gg sub ⟨⟨bb,hq⟩,h1,oo,h2⟩;obtain ⟨rfl,rfl⟩:=src sub bb hq;exact ⟨⟨id,none⟩,own0 gg oo h2 h1,.inl rfl⟩
  rintro gg sub sub' ⟨⟨bb,hq⟩,_⟩ ⟨⟨bb',hq'⟩,_⟩;rw [(src sub bb hq).1,(src sub' bb' hq').1]
 exact hnext _ _ hnx (.inl ⟨⟨[],rfl,rfl,by simp⟩,by simp⟩)
end
end Go.Proofs.YtbbfkodckpfjcaaGreat.M2

namespace Go.Proofs.YtbbfkodckpfjcaaGreat.M2
open Go
set_option linter.unusedVariables false
set_option linter.unusedSimpArgs false
section
variable {Ty : Type} {D : Ty → Type} {P : Program} {K : Kit Ty D}
theorem pureA_ok {o : Oper} {a : Act} {M : Mem Ty D} {ρ : Operand → AV Ty D} (hl : Lay K M) (he : Ops K M a ρ) (hs : ∀ cs b,o.op ≠ .select cs b) {rs v ws rs'}
  (h : Runs P K M.H (pureA P o ρ) rs v ws rs') (s : Nat) : Comes1 P K o a M v ws s:=by
 unfold pureA at h
 split at h
 ·exact h.nobad.elim
 rename_i hsc
 split at h
 ·rename_i u hr
  split at h
  ·rename_i hu;obtain ⟨rfl,rfl⟩:=h.ret_inv;exact pure_ok hl he hs hsc hr hu s
  exact h.nobad.elim
 exact h.nobad.elim
theorem isBytes_eq {t : TypeId} (h : isBytes P t = true) : ∃ e,P.underlying t = some (.slice e) ∧ P.underlying e = some (.int .u8):=by
 unfold isBytes at h
 split at h
 ·rename_i e he
  split at h
  ·rename_i hu;exact ⟨e,he,hu⟩
  simp at h
 simp at h
theorem conv_row (hk : KitOk P K) {w : World} {S : Nat → Prop} {u : Value} {t : Ty} {l : List (D t)} (hf : Fz K w S u (.row 0 t l)) {f : List (D t) → ByteArray} (hs : K.str t = some f) {ts td : TypeId} (h1 : isBytes P ts = true) (h2 : isStr P td = true) :
  (convert ts td u).run P w = .ok (.string (f l)) w:=by
 obtain ⟨e,e1,e2⟩:=isBytes_eq h1;have e3:=isStr_eq h2;obtain ⟨hc,n,hn,hfl⟩:=hk.str t f hs;obtain ⟨d,hf⟩:=hf;cases d with
 | zero=>simp [FzC] at hf
 | succ d =>
  obtain ⟨a,c,rfl,hle,hcase⟩:=hf;rcases hcase with rfl | ⟨g,o,rfl,hg,hcell⟩
  ·rw [hfl];cases a with
   | none=>exact run_convert_bytes_nil w ts e e1 e2 _ _ td e3
   | some A =>
    have hl : (loadCells A 0).run P w = .ok (([] : List Int).map (Value.int .u8)).toArray w:=run_loadCells_list (P:=P) w A [] (by simp);show (convert ts td (.slice (some A) 0 c)).run P w = _;rw [run_convert_bytes_string w ts td e _ 0 c e1 e2 e3,run_bytesToString w _ 0 c [] hl];rfl
  rw [hfl];refine run_convert_bytes_arg w ts e e1 e2 g o l.length c (l.map n) (by simp) (fun i hi=>?_) td e3;obtain ⟨u,hu,hz⟩:=hcell i _ (List.getElem?_eq_getElem hi) 0 (.sc (.int .u8 (n l[i]))) (by rw [hn];rfl);rw [hc] at hu;have : o + (i * 1 + 0) = o + i:=by omega
  rw [this] at hu;rw [hu];cases d <;> simp [FzC] at hz <;> simp [hz.1,hi]
theorem conv_bytes (hk : KitOk P K) {o : Oper} {a : Act} {M : Mem Ty D} {ts td : TypeId} {x : Operand} (hl : Lay K M) (ho : o.op = .convert ts td x) {z : ByteArray} (hx : a.eval x = .string z) (h1 : isStr P ts = true) (h2 : isBytes P td = true) {te : Ty} {f : ByteArray → List (D te)} (hf : K.byt te = some f) (s : Nat) :
  Comes1 P K o a M (.row 0 te (f z)) [] s:=by
 obtain ⟨e,e1,e2⟩:=isBytes_eq h2;obtain ⟨hc,hfl,hfz⟩:=hk.byt te f hf;obtain ⟨hlen,hem⟩:=hfz z
 have hr : (execOp a.eval o).run P M.w = .ok (.value (.slice (some ⟨M.w.heap.size,0,none⟩) z.size (grownCap M.w z.size 0 e))) (Lib.bytesWorld M.w e z):=by
  have:=Lib.run_convert_string_bytes M.w ts td e z (isStr_eq h1) e1 e2;simp [execOp,ho,hx,this]
 have old : ∀ g,g < M.w.heap.size → (Lib.bytesWorld M.w e z).heap[g]? = M.w.heap[g]?:=fun g hg=>Lib.bytesWorld_at_old M.w e z g hg
 have tr : Tr K M ⟨Lib.bytesWorld M.w e z,fun k g=>M.S k g ∨ (k = 0 ∧ g = M.w.heap.size),M.H,M.γ,M.B⟩ :=
  ⟨fun g hg=>old g (hl.frz g hg).1,hl.one,fun _ _ h=>.inl h,fun _ h=>h,fun id cs' _ h=>⟨⟨cs',h,rfl⟩,rfl⟩,fun id t l' ver' _ h=>⟨l',ver',h,rfl,rfl,Nat.le_refl _,fun _ i x j g t2 l2 hx hj=>⟨x,g,l2,hx,hj,rfl,rfl⟩⟩⟩
 have lay : Lay K ⟨Lib.bytesWorld M.w e z,fun k g=>M.S k g ∨ (k = 0 ∧ g = M.w.heap.size),M.H,M.γ,M.B⟩:=by
  refine ⟨fun nm b hb=>(hl.ok nm b hb).keep tr rfl (fun _ _=>rfl) (fun g o hg hpos=>old g ?_),hl.inj,fun g h=>?_,fun g h=>?_,hl.bd⟩
  ·exact (Own.lt hl (show Own K M.H M.γ g nm from ⟨⟨b,hb⟩,hpos,o,hg⟩)).1
  ·rcases h with h | ⟨h,_⟩
   ·exact .inl (hl.one g h)
   cases h
  rcases h with h | ⟨_,rfl⟩
  ·exact ⟨by have:=(hl.frz g h).1;show g < (Lib.bytesWorld M.w e z).heap.size;rw [Lib.bytesWorld_size];omega,(hl.frz g h).2⟩
  exact ⟨by show M.w.heap.size < (Lib.bytesWorld M.w e z).heap.size;rw [Lib.bytesWorld_size];omega,fun nm ho=>by have:=(Own.lt hl ho).1;omega⟩
 intro next Q hn;unfold Oper.wp;rw [hr];refine hn _ ⟨Lib.bytesWorld M.w e z,fun k g=>M.S k g ∨ (k = 0 ∧ g = M.w.heap.size),M.H,M.γ,M.B⟩ ⟨tr,lay,rfl,fun _ h=>.inl h,?_,⟨rfl,rfl,rfl,by show M.w.heap.size ≤ (Lib.bytesWorld M.w e z).heap.size;rw [Lib.bytesWorld_size];omega,fun g hg _=>old g hg⟩,fun g nm h=>.inr ⟨nm,h⟩⟩ (.inl ⟨?_,by simp⟩)
 ·funext g
  simp
 refine ⟨1,some ⟨M.w.heap.size,0,none⟩,grownCap M.w z.size 0 e,by rw [hlen],by rw [hlen];exact grownCap_ge M.w z.size 0 e,.inr ⟨M.w.heap.size,0,rfl,.inr ⟨rfl,rfl⟩,fun i x hx j c hj=>?_⟩⟩;rw [hem i x hx] at hj;cases j with
 | succ j=>simp at hj
 | zero =>
  simp only [List.getElem?_cons_zero,Option.some.injEq] at hj;subst hj;have hi : i < z.size:=by rw [← hlen];exact (List.getElem?_eq_some_iff.1 hx).1
  refine ⟨_,?_,rfl,rfl⟩;rw [hc,Nat.mul_one,Nat.add_zero,Nat.zero_add];exact Lib.bytesWorld_cell M.w e z i hi
theorem conv_ok (hk : KitOk P K) {o : Oper} {a : Act} {M : Mem Ty D} {ρ : Operand → AV Ty D} {ts td : TypeId} {x : Operand} (hl : Lay K M) (he : Ops K M a ρ) (ho : o.op = .convert ts td x) {rs v ws rs'}
  (h : Runs P K M.H (convA P K o ts td (ρ x) ρ) rs v ws rs') (s : Nat) : Comes1 P K o a M v ws s:=by
 unfold convA at h
 split at h
 ·rename_i z hz
  split at h
  ·rename_i ht;rw [Bool.and_eq_true] at ht
   split at h
   ·obtain ⟨f,hf,h⟩:=h.ofOpt;obtain ⟨rfl,rfl⟩:=h.ret_inv;have hx:=he x;rw [hz] at hx;exact conv_bytes hk hl ho hx.1 ht.1 ht.2 hf s
   exact h.nobad.elim
  exact pureA_ok hl he (by simp [ho]) h s
 ·exact pureA_ok hl he (by simp [ho]) h s
 obtain ⟨ht,h⟩:=h.test_inv;simp only [Bool.and_eq_true] at ht;rcases listOf_inv hk hl (he x) h with ⟨hv,hu,h⟩ | ⟨t,l,rs1,h,hf⟩
 ·obtain ⟨rfl,rfl⟩:=h.ret_inv;obtain ⟨e,e1,e2⟩:=isBytes_eq ht.2;refine Comes1.of_run hl (u:=.string ByteArray.empty) ?_ (V_of_sc rfl) (by simp);have:=run_convert_bytes_nil M.w ts e e1 e2 0 0 td (isStr_eq ht.1);simp [execOp,ho,hu,this]
 obtain ⟨f,hs,h⟩:=h.ofOpt;obtain ⟨rfl,rfl⟩:=h.ret_inv;refine Comes1.of_run hl (u:=.string (f l)) ?_ (V_of_sc rfl) (by simp);have:=conv_row hk hf hs ht.2 ht.1;simp [execOp,ho,this]
theorem part_one {t : TypeId} {d : TypeDesc} (hu : P.underlying t = some d) (hd : d.isRow = false) {xs : Array Value} {off : Nat} {v : Value} (hx : xs[off]? = some v) (w : World) : (Go.part t xs off).run P w = .ok v w:=by
 cases d <;> simp [TypeDesc.isRow] at hd <;> simp [Go.part,isAgg,run_underlying hu,hx]
theorem eqC_ok {M : Mem Ty D} {t : TypeId} {x y : AV Ty D} {r : Bool} (h : eqC P t x y = some r) {u v : Value} (hx : Vc K M u x) (hy : Vc K M v y) (d : Nat) (w : World) : (Op.equalIn (d + 1) t u v).run P w = .ok r w ∧ ∃ e,P.underlying t = some e ∧ e.isRow = false:=by
 unfold eqC at h
 split at h
 ·rename_i k p k' q;obtain ⟨rfl,_⟩:=hx;obtain ⟨rfl,_⟩:=hy
  split at h
  ·rename_i hu hk;cases h;obtain rfl:=of_decide_eq_true hk;exact ⟨by rw [run_equalIn_int w d t k _ p q hu];rfl,_,hu,rfl⟩
  simp at h
 ·obtain ⟨rfl,_⟩:=hx;obtain ⟨rfl,_⟩:=hy
  split at h
  ·rename_i hu;cases h;exact ⟨run_equalIn_string w d t _ _ hu,_,hu,rfl⟩
  simp at h
 ·obtain ⟨rfl,_⟩:=hx;obtain ⟨rfl,_⟩:=hy
  split at h
  ·rename_i hu;cases h;exact ⟨run_equalIn_bool' w d t _ _ hu,_,hu,rfl⟩
  simp at h
 simp at h
theorem eqFs_ok {M : Mem Ty D} {XS YS : Array Value} (d : Nat) (w : World) : ∀ (fs : List Field) (j : Nat) (xs ys : List (AV Ty D)) (r : Bool),eqFs P j fs xs ys = some r →
  (∀ (q : Nat) x,xs[q]? = some x → ∃ u,XS[j + q]? = some u ∧ Vc K M u x) → (∀ (q : Nat) y,ys[q]? = some y → ∃ u,YS[j + q]? = some u ∧ Vc K M u y) →
  (Op.eqFields (d + 1) XS YS fs).run P w = .ok r w:=by
 intro fs
 induction fs with
 | nil=>intro j xs ys r h _ _;simp [eqFs] at h;subst h;simp [Op.eqFields]
 | cons f fs ih =>
  intro j xs ys r h hx hy
  have key : ∀ (x y : AV Ty D) (xs' ys' : List (AV Ty D)) (a : Bool), xs = x :: xs' → ys = y :: ys' → (!(f.name == "_") && Nat.beq f.offset j) = true → eqC P f.type x y = some a →
    f.name ≠ "_" ∧ ∃ u v, (Go.part f.type XS f.offset).run P w = .ok u w ∧ (Go.part f.type YS f.offset).run P w = .ok v w ∧ (Op.equalIn (d + 1) f.type u v).run P w = .ok a w := by
   intro x y xs' ys' a e1 e2 hn hc;subst e1 e2;simp only [Bool.and_eq_true,Bool.not_eq_true',beq_eq_false_iff_ne] at hn;obtain ⟨hn,ho⟩:=hn;obtain ⟨u,hu,hux⟩:=hx 0 x rfl;obtain ⟨v,hv,hvy⟩:=hy 0 y rfl;obtain ⟨h1,e,h2,h3⟩:=eqC_ok hc hux hvy d w;have ho:=Nat.eq_of_beq_eq_true ho;exact ⟨hn,u,v,part_one h2 h3 (by rw [ho];exact hu) w,part_one h2 h3 (by rw [ho];exact hv) w,h1⟩
  cases xs with
  | nil=>simp [eqFs] at h
  | cons x xs' =>
   cases ys with
   | nil=>simp [eqFs] at h
   | cons y ys' =>
    cases hck : (!(f.name == "_") && Nat.beq f.offset j) with
    | false=>simp [eqFs,hck] at h
    | true =>
     cases hc : eqC P f.type x y with
     | none=>simp [eqFs,hck,hc] at h
     | some a =>
      obtain ⟨hn,u,v,h1,h2,h3⟩:=key x y xs' ys' a rfl rfl hck hc;cases fs with
      | nil =>
       simp [eqFs,hck,hc] at h;subst h;rw [Op.eqFields];simp only [if_pos hn,Sem.run_bind,h1,h2,h3,Result.andThen_ok];cases a <;> simp [Op.eqFields]
      | cons g gs =>
       cases hb : eqFs P (j + 1) (g :: gs) xs' ys' with
       | none=>unfold eqFs at h;simp [hck,hc,hb] at h
       | some b =>
        have hr:=ih (j + 1) xs' ys' b hb (fun q x' hq=>by
         obtain ⟨u',k1,k2⟩:=hx (q + 1) x' (by simpa using hq);exact ⟨u',by rw [← k1];congr 1;omega,k2⟩) (fun q y' hq=>by
         obtain ⟨u',k1,k2⟩:=hy (q + 1) y' (by simpa using hq)
         exact ⟨u',by rw [← k1];congr 1;omega,k2⟩)
        unfold eqFs at h;simp [hck,hc,hb] at h;subst h;rw [Op.eqFields];simp only [if_pos hn,Sem.run_bind,h1,h2,h3,Result.andThen_ok];cases a
        ·simp
        simpa using hr
theorem struct_ok {o : Oper} {a : Act} {M : Mem Ty D} {ρ : Operand → AV Ty D} {op : BinOp} {t t' : TypeId} {x y : Operand} (hl : Lay K M) (he : Ops K M a ρ) (ho : o.op = .binOp op t x y t') {xs ys : List (AV Ty D)} {ng : Bool} (hop : (op = .eql ∧ ng = false) ∨ (op = .neq ∧ ng = true)) (hx : ρ x = .ag xs) (hy : ρ y = .ag ys) {rs v ws rs'}
  (h : Runs P K M.H (structA P t xs ys ng) rs v ws rs') (s : Nat) : Comes1 P K o a M v ws s:=by
 unfold structA at h
 split at h
 ·rename_i fs hu;obtain ⟨ht,h⟩:=h.test_inv;simp only [Bool.and_eq_true,Bool.not_eq_true'] at ht;obtain ⟨r,hr,h⟩:=h.ofOpt;obtain ⟨rfl,rfl⟩:=h.ret_inv;have vx:=he x;have vy:=he y;rw [hx] at vx;rw [hy] at vy;obtain ⟨us,e1,l1,c1⟩:=vx;obtain ⟨vs,e2,l2,c2⟩:=vy;have hf : P.fieldsOf t = fs:=by simp [Program.fieldsOf,hu]
  have main:=eqFs_ok (P:=P) (K:=K) (M:=M) (XS:=us.toArray) (YS:=vs.toArray) 9998 M.w fs.toList 0 xs ys r hr (fun q x' hq=>by
    have hlt : q < us.length:=by rw [l1];exact (List.getElem?_eq_some_iff.1 hq).1
    exact ⟨us[q],by simp [hlt],(c1 q _ x' (List.getElem?_eq_getElem hlt) hq).2⟩) (fun q y' hq=>by
    have hlt : q < vs.length:=by rw [l2];exact (List.getElem?_eq_some_iff.1 hq).1
    exact ⟨vs[q],by simp [hlt],(c2 q _ y' (List.getElem?_eq_getElem hlt) hq).2⟩)
  have eq:=run_equalIn_struct (P:=P) M.w 9999 t us.toArray vs.toArray (by rw [hf];exact hu) ht.1;rw [hf,main] at eq;have gd:=run_eqGuard_agg (P:=P) M.w op t x y us.toArray vs.toArray ht.2;rcases hop with ⟨rfl,rfl⟩ | ⟨rfl,rfl⟩
  ·refine Comes1.of_run hl (u:=.bool r) ?_ (V_of_sc rfl) (by simp);have e:=run_eql_struct (P:=P) M.w t us.toArray vs.toArray;rw [eq] at e;simp [execOp,ho,e1,e2,gd,e]
  refine Comes1.of_run hl (u:=.bool (!r)) ?_ (V_of_sc rfl) (by simp);have e:=run_neq_struct (P:=P) M.w t us.toArray vs.toArray;rw [eq] at e;simp [execOp,ho,e1,e2,gd,e]
 exact h.nobad.elim
theorem shl_ok {o : Oper} {a : Act} {M : Mem Ty D} {ρ : Operand → AV Ty D} {t t' : TypeId} {x y : Operand} (hl : Lay K M) (he : Ops K M a ρ) (ho : o.op = .binOp .shl t x y t') {p q : Int} (hx : ρ x = .sc (.int .i64 p)) (hy : ρ y = .sc (.int .i64 q))
  (hq : 0 ≤ q) (s : Nat) : Comes1 P K o a M (.sc (.int .i64 (IntKind.i64.wrap (p * 2 ^ (min q.toNat 64))))) [] s:=by
 have h1 : a.eval x = .int .i64 p:=by have:=he x;rw [hx] at this;exact this.1
 have h2 : a.eval y = .int .i64 q:=by have:=he y;rw [hy] at this;exact this.1
 refine Comes1.of_run hl (u:=.int .i64 (IntKind.i64.wrap (p * 2 ^ (min q.toNat 64)))) ?_ (V_of_sc rfl) (by simp);have hn : ¬ q < 0:=by omega
 simp [execOp,ho,h1,h2,eqGuard,binOp,Op.shift,hn,IntKind.bits]
theorem op_ok (hk : KitOk P K) {o : Oper} {a : Act} {M : Mem Ty D} {ρ : Operand → AV Ty D} (hl : Lay K M) (he : Ops K M a ρ) {s : Nat} (hfresh : ∀ q,q < 64 → ¬ M.B (s + q)) {rs v ws rs'}
  (h : Runs P K M.H (opA P K o ρ s) rs v ws rs') : Comes1 P K o a M v ws s:=by
 have hs0 : ¬ M.B s:=by have:=hfresh 0 (by omega);simpa using this
 have h0:=h;unfold opA at h;cases hop : o.op with
 | move x =>
  simp only [hop] at h
  split at h
  ·exact h.nobad.elim
  rename_i hd;obtain ⟨rfl,rfl⟩:=h.ret_inv;exact move_ok hl he (.inl hop) hd s
 | assign x =>
  simp only [hop] at h
  split at h
  ·exact h.nobad.elim
  rename_i hd;obtain ⟨rfl,rfl⟩:=h.ret_inv;exact move_ok hl he (.inr hop) hd s
 | pick c x y =>
  simp only [hop] at h
  split at h
  ·rename_i hc
   split at h
   ·exact h.nobad.elim
   rename_i hd;obtain ⟨rfl,rfl⟩:=h.ret_inv;exact pick_ok (b:=true) hl he hop hc hd s
  ·rename_i hc
   split at h
   ·exact h.nobad.elim
   rename_i hd;obtain ⟨rfl,rfl⟩:=h.ret_inv;exact pick_ok (b:=false) hl he hop hc hd s
  exact h.nobad.elim
 | alloc t=>exact alloc_ok hk hl he hop hs0 h0
 | box t x=>exact box_ok hl he hop hs0 h0
 | build t ps=>exact build_ok hl he hop h0
 | buildSlice t n ps=>exact buildSlice_ok hk hl he hop hs0 h0
 | load t x=>simp only [hop] at h;exact load_ok hk hl he hop h s
 | store t x y=>simp only [hop] at h;exact store_ok hk hl he hop h s
 | nilCheck x=>exact nil_ok hl he hop h0
 | fieldAddr t x f=>simp only [hop] at h;exact field_ok hl he hop h s
 | field t x f=>exact fieldv_ok hl he hop h0
 | indexAddr t x ix=>simp only [hop] at h;exact index_ok hk hl he hop h s
 | index t x ix=>simp only [hop] at h;exact strIndex_ok hl he hop h s
 | extract x i=>exact extract_ok hl he hop h0
 | slice t x lo hi mx =>
  simp only [hop] at h;cases mx with
  | none=>exact slice_ok hk hl he hop h s
  | some _=>exact h.nobad.elim
 | makeSlice t x y=>simp only [hop] at h;exact make_ok hk hl he hop hs0 h
 | binOp op t x y t' =>
  simp only [hop] at h;unfold binA at h
  split at h
  ·rename_i p q hx hy;obtain ⟨ht,h⟩:=h.test_inv;obtain ⟨hn,h⟩:=h.test_inv;obtain ⟨rfl,rfl⟩:=h.ret_inv;exact str_add_ok hl he hop hx hy ht (of_decide_eq_true hn) s
  ·rename_i p q hx hy;obtain ⟨ht,h⟩:=h.test_inv;obtain ⟨hn,h⟩:=h.test_inv;obtain ⟨rfl,rfl⟩:=h.ret_inv;exact div_ok hl he hop hx hy ht (by simpa using hn) (.inl ⟨rfl,rfl⟩) s
  ·rename_i p q hx hy;obtain ⟨ht,h⟩:=h.test_inv;obtain ⟨hn,h⟩:=h.test_inv;obtain ⟨rfl,rfl⟩:=h.ret_inv;exact div_ok hl he hop hx hy ht (by simpa using hn) (.inr ⟨rfl,rfl⟩) s
  ·rename_i p q hx hy;obtain ⟨hn,h⟩:=h.test_inv;obtain ⟨rfl,rfl⟩:=h.ret_inv;exact shl_ok hl he hop hx hy (of_decide_eq_true hn) s
  ·rename_i p q hx hy;exact struct_ok hl he hop (.inl ⟨rfl,rfl⟩) hx hy h s
  ·rename_i p q hx hy;exact struct_ok hl he hop (.inr ⟨rfl,rfl⟩) hx hy h s
  exact pureA_ok hl he (by simp [hop]) h s
 | unOp op t x=>simp only [hop] at h;exact pureA_ok hl he (by simp [hop]) h s
 | convert t t' x=>simp only [hop] at h;exact conv_ok hk hl he hop h s
 | call c =>
  simp only [hop] at h
  split at h
  ·rename_i f hc
   split at h
   ·rename_i hnt;exact call_ok hk hl he hop hc hfresh hnt h
   split at h
   ·rename_i hla
    split at h
    ·rename_i hL;exact lib_ok hk hl he hop hc hla hL h s
    exact h.nobad.elim
   exact h.nobad.elim
  ·rename_i hc
   split at h
   ·rename_i x y t tx hx ht
    split at h
    ·rename_i tex htx
     have e : c = { callee:=.builtin .append,args:=#[x,y],argTypes:=#[t,tx] }:=by
      obtain ⟨c1,c2,c3⟩:=c;simp only at hc hx ht;simp only [Call.mk.injEq];exact ⟨hc,by rw [← Array.toArray_toList (xs:=c2),hx],by rw [← Array.toArray_toList (xs:=c3),ht]⟩
     subst e;exact append_ok hk hl he hop htx hs0 h
    have e : c = { callee:=.builtin .append,args:=#[x,y],argTypes:=#[t,tx] }:=by
     obtain ⟨c1,c2,c3⟩:=c;simp only at hc hx ht;simp only [Call.mk.injEq];exact ⟨hc,by rw [← Array.toArray_toList (xs:=c2),hx],by rw [← Array.toArray_toList (xs:=c3),ht]⟩
    subst e;exact append_str_ok hk hl he hop hs0 h
   exact h.nobad.elim
  ·rename_i hc
   split at h
   ·rename_i x t hx ht
    split at h
    ·exact pureA_ok hl he (by simp [hop]) h s
    obtain ⟨hte,h⟩:=h.test_inv
    split at hte
    ·rename_i te hte'
     have e : c = { callee:=.builtin .len,args:=#[x],argTypes:=#[t] }:=by
      obtain ⟨c1,c2,c3⟩:=c;simp only at hc hx ht;simp only [Call.mk.injEq];exact ⟨hc,args1 hx,targs1 ht⟩
     subst e;exact len_ok hk hl he hop hte' h s
    simp at hte
   exact h.nobad.elim
  ·exact pureA_ok hl he (by simp [hop]) h s
  exact h.nobad.elim
 | makeInterface t x=>simp only [hop] at h;exact ifc_ok hl he hop h s
 | makeFunc fn fs cs =>
  simp only [hop] at h;cases fn with
  | func g=>exact fun_ok hl he hop h s
  | _=>exact h.nobad.elim
 | _=>simp only [hop] at h;exact h.nobad.elim
end
end Go.Proofs.YtbbfkodckpfjcaaGreat.M2

namespace Go.Proofs.YtbbfkodckpfjcaaGreat.M2
open Go
set_option linter.unusedVariables false
set_option linter.unusedSimpArgs false
section
variable {Ty : Type} {D : Ty → Type} {P : Program} {K : Kit Ty D}
theorem lenKept.trans {b0 b b' : Blk Ty D} (h : lenKept b0 b) (h' : lenKept b b') : lenKept b0 b':=by
 cases b0 with
 | box cs=>obtain ⟨cs',rfl,e⟩:=h;obtain ⟨cs2,rfl,e2⟩:=h';exact ⟨cs2,rfl,by omega⟩
 | rowb t l v=>obtain ⟨l',v',rfl,e⟩:=h;obtain ⟨l2,v2,rfl,e2⟩:=h';exact ⟨l2,v2,rfl,by omega⟩
structure Fp where
 i : Nat
 rs : List Nat
 ws : List Nat
def grd (ops : Array Oper) (o : Oper) (e : Env Ty D) : Option Bool :=
 match o.guard with
 | none=>some true
 | some (j,want)=>match (ops[j]?).bind (·.dst) with
  | none=>none
  | some d=>match e d with
   | .sc (.bool b)=>some (b == want)
   | .tu []=>some false
   | _=>none
def Step1 (P : Program) (K : Kit Ty D) (nt : Nat) (ops : Array Oper) (f : Fp) (σ σ' : St Ty D) : Prop :=
 ∃ o,ops[f.i]? = some o ∧ dstOk nt o = true ∧ ((grd ops o σ.env = some true ∧ ∃ v ws,Runs P K σ.heap (opA P K o σ.eval ((σ.st + f.i) * 64)) [] v ws f.rs ∧ f.ws = ws.map (·.1) ∧ σ' = ⟨σ.env.put o.dst v,σ.heap.put ws,σ.st⟩) ∨
  (grd ops o σ.env = some false ∧ f.rs = [] ∧ f.ws = [] ∧ σ' = ⟨σ.env.put o.dst (.tu []),σ.heap,σ.st⟩))
inductive Chain (P : Program) (K : Kit Ty D) (nt : Nat) (ops : Array Oper) : List Fp → St Ty D → St Ty D → Prop where
 | nil (σ) : Chain P K nt ops [] σ σ
 | cons (f fs σ σ1 σ2) : Step1 P K nt ops f σ σ1 → Chain P K nt ops fs σ1 σ2 → Chain P K nt ops (f :: fs) σ σ2
def Free (ops : Array Oper) (g f : Fp) : Prop:=∀ o p,ops[f.i]? = some o → ops[g.i]? = some p → edgedN ops 4 o g.i = true ∨ (tmpApart ops o p = true ∧ disj f.ws g.ws = true ∧ disj f.ws g.rs = true ∧ disj g.ws f.rs = true)
theorem put_self {e : Env Ty D} {d : Nat} {v : AV Ty D} (h : e d = v) : e.put (some d) v = e:=by
 funext t;simp only [Env.put,bif_eq];split
 ·rename_i e';subst e';exact h.symm
 rfl
theorem runOps_chain {ctx : Ctx Ty D} (hc : CtxOk P K ctx) {nt : Nat} {ops : Array Oper} {draw : Bool} {k : St Ty D → Option (Res Ty D)} {res : Res Ty D} : ∀ (l : List Nat) (log : List Log) (σ : St Ty D),runOps P K ctx nt ops draw l log σ k = some res →
  ∃ fs σ',Chain P K nt ops fs σ σ' ∧ fs.map (·.i) = l ∧ σ'.st = σ.st ∧ k { σ' with st:=σ'.st + ops.size } = some res ∧
   (draw = true → fs.Pairwise (Free ops) ∧ (∀ f ∈ fs,∀ o,ops[f.i]? = some o → edgesBack o f.i = true ∧ ∀ g ∈ log,Free ops ⟨g.i,g.rs,g.ws⟩ f)):=by
 intro l
 induction l with
 | nil =>
  intro log σ h;simp only [runOps] at h;exact ⟨[],σ,.nil _,rfl,rfl,h,fun _=>⟨.nil,by simp⟩⟩
 | cons i rest ih =>
  intro log σ h;simp only [runOps] at h
  split at h
  ·simp at h
  rename_i o ho
  have logFree : ∀ (rs ws : List Nat) (log : List Log),logOk ops o rs ws log = true → ∀ g ∈ log,Free ops ⟨g.i,g.rs,g.ws⟩ ⟨i,rs,ws⟩:=by
   intro rs ws log
   induction log with
   | nil=>simp
   | cons l ls ihl =>
    intro hok g hg;simp only [logOk,Bool.and_eq_true] at hok;rcases List.mem_cons.1 hg with rfl | hg
    ·intro o' p ho' hp;rw [ho] at ho';cases ho';have h1:=hok.1;simp only [hp,Bool.or_eq_true,Bool.and_eq_true] at h1;rcases h1 with (h1 | h1) | h1
     ·exact .inl (by simp only [edgedN,h1,Bool.true_or])
     ·exact .inr ⟨h1.1.1.1,h1.1.1.2,h1.1.2,h1.2⟩
     exact .inl h1
    exact ihl hok.2 g hg
  have fin : ∀ (f : Fp) (σ1 : St Ty D),f.i = i → Step1 P K nt ops f σ σ1 → σ1.st = σ.st → (draw = true → edgesBack o i = true ∧ logOk ops o f.rs f.ws log = true) → runOps P K ctx nt ops draw rest (⟨i,f.rs,f.ws⟩ :: log) σ1 k = some res →
    ∃ fs σ',Chain P K nt ops fs σ σ' ∧ fs.map (·.i) = i :: rest ∧ σ'.st = σ.st ∧ k { σ' with st:=σ'.st + ops.size } = some res ∧
   (draw = true → fs.Pairwise (Free ops) ∧ (∀ f ∈ fs,∀ o,ops[f.i]? = some o → edgesBack o f.i = true ∧ ∀ g ∈ log,Free ops ⟨g.i,g.rs,g.ws⟩ f)):=by
   intro f σ1 hfi hst hs1 hd h;obtain ⟨fs,σ',h1,h2,h3,h4,h5⟩:=ih _ _ h;refine ⟨f :: fs,σ',.cons _ _ _ _ _ hst h1,by simp [h2,hfi],by rw [h3,hs1],h4,fun hdr=>?_⟩;obtain ⟨h6,h7⟩:=h5 hdr;obtain ⟨hd1,hd2⟩:=hd hdr;refine ⟨List.pairwise_cons.2 ⟨fun g hg=>?_,h6⟩,fun g hg o' ho'=>?_⟩
   ·obtain ⟨og,hog⟩ : ∃ og,ops[g.i]? = some og:=by
     have : ∀ (fs : List Fp) (σ σ' : St Ty D),Chain P K nt ops fs σ σ' → ∀ g ∈ fs,∃ og,ops[g.i]? = some og:=by
      intro fs σ σ' hch
      induction hch with
      | nil=>simp
      | cons f fs σ σ1 σ2 hs _ ih =>
       intro g hg;rcases List.mem_cons.1 hg with rfl | hg
       ·obtain ⟨o,ho,_⟩:=hs;exact ⟨o,ho⟩
       exact ih g hg
     exact this _ _ _ h1 g hg
    have:=(h7 g hg og hog).2 ⟨i,f.rs,f.ws⟩ (List.mem_cons_self ..);have e : (⟨i,f.rs,f.ws⟩ : Fp) = f:=by cases f;simp_all
    rw [← e];exact this
   rcases List.mem_cons.1 hg with rfl | hg
   ·rw [hfi,ho] at ho';cases ho';rw [hfi];refine ⟨hd1,fun g' hg'=>?_⟩;have:=logFree g.rs g.ws log hd2 g' hg';have e : (⟨i,g.rs,g.ws⟩ : Fp) = g:=by cases g;simp_all
    rw [← e];exact this
   obtain ⟨h8,h9⟩:=h7 g hg o' ho';exact ⟨h8,fun g' hg'=>h9 g' (List.mem_cons_of_mem _ hg')⟩
  have goCase : ∀ (τ : St Ty D),τ = σ → grd ops o σ.env = some true → (runAc ctx τ.heap (opA P K o τ.eval ((τ.st + i) * 64)) [] fun v ws rs =>
    match dstOk nt o && (!draw || (edgesBack o i && logOk ops o rs (ws.map (·.1)) log)) with
    | true=>runOps P K ctx nt ops draw rest (⟨i,rs,ws.map (·.1)⟩ :: log) { env:=τ.env.put o.dst v,heap:=τ.heap.put ws,st:=τ.st } k
    | false=>none) = some res →
    ∃ fs σ',Chain P K nt ops fs σ σ' ∧ fs.map (·.i) = i :: rest ∧ σ'.st = σ.st ∧ k { σ' with st:=σ'.st + ops.size } = some res ∧
   (draw = true → fs.Pairwise (Free ops) ∧ (∀ f ∈ fs,∀ o,ops[f.i]? = some o → edgesBack o f.i = true ∧ ∀ g ∈ log,Free ops ⟨g.i,g.rs,g.ws⟩ f)):=by
   intro τ hτ hg h';subst hτ;obtain ⟨v,ws,rs,hr,h'⟩:=runAc_runs hc _ _ h';clear h;have h:=h'
   split at h
   ·rename_i hcond;simp only [Bool.and_eq_true,Bool.or_eq_true,Bool.not_eq_true'] at hcond;refine fin ⟨i,rs,ws.map (·.1)⟩ _ rfl ⟨o,ho,hcond.1,.inl ⟨hg,v,ws,hr,rfl,rfl⟩⟩ rfl (fun hd=>?_) h;rcases hcond.2 with h2 | h2
    ·rw [hd] at h2;simp at h2
    exact h2
   simp at h
  have skipCase : ∀ (τ : St Ty D),τ = σ → grd ops o σ.env = some false → (match dstOk nt o && (!draw || (edgesBack o i && logOk ops o [] [] log)) with
    | true=>runOps P K ctx nt ops draw rest (⟨i,[],[]⟩ :: log) { τ with env:=τ.env.put o.dst (.tu []) } k
    | false=>none) = some res →
    ∃ fs σ',Chain P K nt ops fs σ σ' ∧ fs.map (·.i) = i :: rest ∧ σ'.st = σ.st ∧ k { σ' with st:=σ'.st + ops.size } = some res ∧
   (draw = true → fs.Pairwise (Free ops) ∧ (∀ f ∈ fs,∀ o,ops[f.i]? = some o → edgesBack o f.i = true ∧ ∀ g ∈ log,Free ops ⟨g.i,g.rs,g.ws⟩ f)):=by
   intro τ hτ hg h';subst hτ;clear h;have h:=h'
   split at h
   ·rename_i hcond;simp only [Bool.and_eq_true,Bool.or_eq_true,Bool.not_eq_true'] at hcond;refine fin ⟨i,[],[]⟩ _ rfl ⟨o,ho,hcond.1,.inr ⟨hg,rfl,rfl,rfl⟩⟩ rfl (fun hd=>?_) h;rcases hcond.2 with h2 | h2
    ·rw [hd] at h2;simp at h2
    exact h2
   simp at h
  split at h
  ·rename_i hgd;exact goCase σ rfl (by simp [grd,hgd]) h
  rename_i j want hgd
  split at h
  ·simp at h
  rename_i d hd
  split at h
  ·rename_i b hb;have eσ : ({ σ with env:=σ.env.put (some d) (.sc (.bool b)) } : St Ty D) = σ:=by rw [put_self hb]
   cases b with
   | true =>
    cases want with
    | true=>exact goCase _ eσ (by simp [grd,hgd,hd,hb]) h
    | false=>exact skipCase _ eσ (by simp [grd,hgd,hd,hb]) h
   | false =>
    cases want with
    | true=>exact skipCase _ eσ (by simp [grd,hgd,hd,hb]) h
    | false=>exact goCase _ eσ (by simp [grd,hgd,hd,hb]) h
  ·rename_i hb;exact skipCase σ rfl (by simp [grd,hgd,hd,hb]) h
  simp at h
end
end Go.Proofs.YtbbfkodckpfjcaaGreat.M2

namespace Go.Proofs.YtbbfkodckpfjcaaGreat.M2
open Go
set_option linter.unusedVariables false
set_option linter.unusedSimpArgs false
section
variable {Ty : Type} {D : Ty → Type} {P : Program} {K : Kit Ty D}
theorem pureA_congr {o : Oper} {ρ ρ' : Operand → AV Ty D} (hs : ∀ cs b,o.op ≠ .select cs b) (h : ∀ x ∈ o.op.operands,ρ x = ρ' x) : pureA P o ρ = pureA P o ρ':=by
 unfold pureA
 have h1 : (o.op.operands.all fun x=>(ρ x).isSc) = (o.op.operands.all fun x=>(ρ' x).isSc):=by
  rw [Bool.eq_iff_iff,Array.all_eq_true_iff_forall_mem,Array.all_eq_true_iff_forall_mem];exact ⟨fun hh x hx=>by rw [← h x hx];exact hh x hx,fun hh x hx=>by rw [h x hx];exact hh x hx⟩
 have h2 : execOp (fun x=>scVal (ρ x)) o = execOp (fun x=>scVal (ρ' x)) o:=execOp_congr o hs (fun x hx=>by rw [h x hx]);rw [h1,h2]
theorem opA_congr {o : Oper} {ρ ρ' : Operand → AV Ty D} (h : ∀ x ∈ o.op.operands,ρ x = ρ' x) (s : Nat) : opA P K o ρ s = opA P K o ρ' s:=by
 cases hop : o.op with
 | call c =>
  have hargs : ∀ x ∈ c.args,ρ x = ρ' x:=fun x hx=>h x (by rw [hop];simp only [Op.operands,Call.operands];exact Array.mem_append.2 (.inr hx));have hfn : fnArgs ρ c.args = fnArgs ρ' c.args:=List.map_congr_left (fun x hx=>hargs x (by simpa using hx));have hp:=pureA_congr (P:=P) (o:=o) (ρ:=ρ) (ρ':=ρ') (by simp [hop]) h;unfold opA;simp only [hop]
  split
  ·rw [hfn]
  ·split
   ·rename_i x y t tx hx _;have e1 : ρ x = ρ' x:=hargs x (by rw [← Array.mem_toList_iff,hx];simp);have e2 : ρ y = ρ' y:=hargs y (by rw [← Array.mem_toList_iff,hx];simp);rw [e1,e2]
   rfl
  ·split
   ·rename_i x t hx _;have e1 : ρ x = ρ' x:=hargs x (by rw [← Array.mem_toList_iff,hx];simp);rw [e1,hp]
   rfl
  ·exact hp
  rfl
 | build t ps =>
  have : ps.toList.map (fun p=>(p.1,ρ p.2)) = ps.toList.map (fun p=>(p.1,ρ' p.2)):=List.map_congr_left (fun p hp=>by rw [h p.2 (by rw [hop];simp only [Op.operands];simp;exact ⟨_,by simpa using hp⟩)]);unfold opA;simp only [hop,this]
 | buildSlice t n ps =>
  have : ps.toList.map (fun p=>(p.1,ρ p.2)) = ps.toList.map (fun p=>(p.1,ρ' p.2)):=List.map_congr_left (fun p hp=>by rw [h p.2 (by rw [hop];simp only [Op.operands];simp;exact ⟨_,by simpa using hp⟩)]);unfold opA;simp only [hop,this]
 | binOp op t x y t' =>
  have hp:=pureA_congr (P:=P) (o:=o) (ρ:=ρ) (ρ':=ρ') (by simp [hop]) h;have e1 : ρ x = ρ' x:=h x (by rw [hop];simp [Op.operands]);have e2 : ρ y = ρ' y:=h y (by rw [hop];simp [Op.operands]);unfold opA;simp only [hop,binA,e1,e2,hp]
 | unOp op t x=>unfold opA;simp only [hop];exact pureA_congr (by simp [hop]) h
 | convert t t' x =>
  have hp:=pureA_congr (P:=P) (o:=o) (ρ:=ρ) (ρ':=ρ') (by simp [hop]) h;have e1:=h x (by rw [hop];simp [Op.operands]);unfold opA;simp only [hop,convA,e1,hp]
 | slice t x lo hi mx =>
  have e1 : ρ x = ρ' x:=h x (by rw [hop];simp [Op.operands]);have e2 : lo.map ρ = lo.map ρ':=by cases lo <;> simp;exact h _ (by rw [hop];simp [Op.operands])
  have e3 : hi.map ρ = hi.map ρ':=by cases hi <;> simp;exact h _ (by rw [hop];simp [Op.operands])
  unfold opA;simp only [hop];cases mx <;> simp only [e1,e2,e3]
 | move x=>have e1:=h x (by rw [hop];simp [Op.operands]);unfold opA;simp only [hop,e1]
 | assign x=>have e1:=h x (by rw [hop];simp [Op.operands]);unfold opA;simp only [hop,e1]
 | box t x=>have e1:=h x (by rw [hop];simp [Op.operands]);unfold opA;simp only [hop,e1]
 | load t x=>have e1:=h x (by rw [hop];simp [Op.operands]);unfold opA;simp only [hop,e1]
 | nilCheck x=>have e1:=h x (by rw [hop];simp [Op.operands]);unfold opA;simp only [hop,e1]
 | fieldAddr t x f=>have e1:=h x (by rw [hop];simp [Op.operands]);unfold opA;simp only [hop,e1]
 | field t x f=>have e1:=h x (by rw [hop];simp [Op.operands]);unfold opA;simp only [hop,e1]
 | extract x i=>have e1:=h x (by rw [hop];simp [Op.operands]);unfold opA;simp only [hop,e1]
 | store t x y =>
  have e1:=h x (by rw [hop];simp [Op.operands]);have e2:=h y (by rw [hop];simp [Op.operands]);unfold opA;simp only [hop,e1,e2]
 | indexAddr t x y =>
  have e1:=h x (by rw [hop];simp [Op.operands]);have e2:=h y (by rw [hop];simp [Op.operands]);unfold opA;simp only [hop,e1,e2]
 | index t x y =>
  have e1:=h x (by rw [hop];simp [Op.operands]);have e2:=h y (by rw [hop];simp [Op.operands]);unfold opA;simp only [hop,e1,e2]
 | makeSlice t x y =>
  have e1:=h x (by rw [hop];simp [Op.operands]);have e2:=h y (by rw [hop];simp [Op.operands]);unfold opA;simp only [hop,e1,e2]
 | pick c x y =>
  have e1:=h c (by rw [hop];simp [Op.operands]);have e2:=h x (by rw [hop];simp [Op.operands]);have e3:=h y (by rw [hop];simp [Op.operands]);unfold opA;simp only [hop,e1,e2,e3]
 | makeInterface t x=>have e1:=h x (by rw [hop];simp [Op.operands]);unfold opA;simp only [hop,e1]
 | makeFunc fn fs cs =>
  have e1 : fs.toList.map ρ = fs.toList.map ρ':=List.map_congr_left fun x hx=>h x (by rw [hop];simp only [Op.operands];simp_all);have e2 : cs.toList.map ρ = cs.toList.map ρ':=List.map_congr_left fun x hx=>h x (by rw [hop];simp only [Op.operands];simp_all);unfold opA;cases fn <;> simp only [hop,e1,e2]
 | _=>unfold opA;simp only [hop]
theorem Runs.local {H H' : Heap Ty D} {ac : Ac Ty D} {rs v ws rs'} (h : Runs P K H ac rs v ws rs') : (∀ id ∈ rs,id ∈ rs') ∧ ((∀ id ∈ rs',H' id = H id) → Runs P K H' ac rs v ws rs'):=by
 induction h with
 | ret v ws rs=>exact ⟨fun _ h=>h,fun _=>.ret ..⟩
 | get id q b rs v ws rs' hb _ ih =>
  refine ⟨fun x hx=>ih.1 x (List.mem_cons_of_mem _ hx),fun hh=>.get id q b rs v ws rs' ?_ (ih.2 hh)⟩;rw [hh id (ih.1 id (List.mem_cons_self ..))];exact hb
 | test q rs v ws rs' _ ih=>exact ⟨ih.1,fun hh=>.test _ _ _ _ _ (ih.2 hh)⟩
 | call f ins bs q out outs news rs v ws rs' hC _ ih=>exact ⟨ih.1,fun hh=>.call _ _ _ _ _ _ _ _ _ _ _ hC (ih.2 hh)⟩
theorem disj_spec {a b : List Nat} (h : disj a b = true) : ∀ x ∈ a,x ∉ b:=by
 intro x hx hb;have:=List.all_eq_true.1 (List.all_eq_true.1 h x hx) x hb;simp at this
theorem Step1.local {nt : Nat} {ops : Array Oper} {f : Fp} {σ σ' : St Ty D} (h : Step1 P K nt ops f σ σ') : ∃ o v ws,ops[f.i]? = some o ∧ f.ws = ws.map (·.1) ∧ σ' = ⟨σ.env.put o.dst v,σ.heap.put ws,σ.st⟩ ∧
  ∀ τ : St Ty D,τ.st = σ.st → (∀ t ∈ tmpsOf o ops,τ.env t = σ.env t) → (∀ id ∈ f.rs,τ.heap id = σ.heap id) → Step1 P K nt ops f τ ⟨τ.env.put o.dst v,τ.heap.put ws,τ.st⟩:=by
 obtain ⟨o,ho,hd,h⟩:=h
 have hg : ∀ τ : St Ty D,(∀ t ∈ tmpsOf o ops,τ.env t = σ.env t) → grd ops o τ.env = grd ops o σ.env:=by
  intro τ ht;unfold grd
  split
  ·rfl
  rename_i j want hgd
  split
  ·rfl
  rename_i d hdd
  have : d ∈ tmpsOf o ops:=by
   unfold tmpsOf;rw [hgd];cases hj : ops[j]? with
   | none=>rw [hj] at hdd;simp at hdd
   | some p=>rw [hj] at hdd;simp at hdd;simp [hj,hdd]
  rw [ht d this]
 rcases h with ⟨hgr,v,ws,hr,hws,hσ⟩ | ⟨hgr,hrs,hws,hσ⟩
 ·refine ⟨o,v,ws,ho,hws,hσ,fun τ hst ht hh=>⟨o,ho,hd,.inl ⟨by rw [hg τ ht];exact hgr,v,ws,?_,hws,rfl⟩⟩⟩
  have e : opA P K o τ.eval ((τ.st + f.i) * 64) = opA P K o σ.eval ((σ.st + f.i) * 64):=by
   rw [hst];refine opA_congr (fun x hx=>?_) _;cases x with
   | tmp t=>exact ht t (by unfold tmpsOf;refine List.mem_append.2 (.inl ?_);exact List.mem_filterMap.2 ⟨.tmp t,by simpa using hx,rfl⟩)
   | _=>rfl
  rw [e];exact (hr.local (H':=τ.heap)).2 hh
 exact ⟨o,.tu [],[],ho,by simp [hws],hσ,fun τ hst ht hh=>⟨o,ho,hd,.inr ⟨by rw [hg τ ht];exact hgr,hrs,hws,rfl⟩⟩⟩
theorem put_ind {H H' : Heap Ty D} : ∀ {ws : List (Nat × Option (Blk Ty D))} {x : Nat},x ∈ ws.map (·.1) → Heap.put H ws x = Heap.put H' ws x:=by
 intro ws
 induction ws generalizing H H' with
 | nil=>simp
 | cons p ws ih =>
  intro x hx;obtain ⟨a,b⟩:=p;simp only [Heap.put]
  by_cases h : x ∈ ws.map (·.1)
  ·exact ih h
  simp only [List.map_cons,List.mem_cons] at hx;have e : x = a:=by rcases hx with h1 | h1;exact h1;exact absurd h1 h
  have nk : ∀ b,(x,b) ∉ ws:=fun b hb=>h (List.mem_map.2 ⟨_,hb,rfl⟩);rw [put_none nk,put_none nk,bif_eq,bif_eq,if_pos e,if_pos e]
theorem put_comm {H : Heap Ty D} {w1 w2 : List (Nat × Option (Blk Ty D))} (h : ∀ x ∈ w1.map (·.1),x ∉ w2.map (·.1)) : Heap.put (Heap.put H w1) w2 = Heap.put (Heap.put H w2) w1:=by
 funext x
 have nk : ∀ {ws : List (Nat × Option (Blk Ty D))},x ∉ ws.map (·.1) → ∀ b,(x,b) ∉ ws:=fun hn b hb=>hn (List.mem_map.2 ⟨_,hb,rfl⟩)
 by_cases h1 : x ∈ w1.map (·.1)
 ·rw [put_none (nk (h x h1))];exact put_ind h1
 rw [put_none (H:=Heap.put H w2) (nk h1)]
 by_cases h2 : x ∈ w2.map (·.1)
 ·exact put_ind h2
 rw [put_none (nk h2),put_none (nk h2),put_none (nk h1)]
theorem env_comm {e : Env Ty D} {d1 d2 : Option Nat} {v1 v2 : AV Ty D} (h : ∀ x,d1 = some x → d2 ≠ some x) : (e.put d1 v1).put d2 v2 = (e.put d2 v2).put d1 v1:=by
 cases d1 with
 | none=>rfl
 | some a =>
  cases d2 with
  | none=>rfl
  | some b =>
   have hab : a ≠ b:=fun e=>h a rfl (by rw [e])
   funext t
   simp only [Env.put,bif_eq]
   by_cases h1 : t = a <;> by_cases h2 : t = b <;> simp [h1,h2,hab,hab.symm]
theorem env_put_ne {e : Env Ty D} {d : Option Nat} {v : AV Ty D} {t : Nat} (h : d ≠ some t) : e.put d v t = e t:=by
 cases d with
 | none=>rfl
 | some a=>simp only [Env.put,bif_eq];rw [if_neg (fun e=>h (by rw [e]))]
theorem Step1.swap {nt : Nat} {ops : Array Oper} {g f : Fp} {σ σ1 σ2 : St Ty D} (h1 : Step1 P K nt ops g σ σ1) (h2 : Step1 P K nt ops f σ1 σ2) (hfree : Free ops g f) (hne : ∀ o,ops[f.i]? = some o → edgedN ops 4 o g.i = false) :
  ∃ σ1',Step1 P K nt ops f σ σ1' ∧ Step1 P K nt ops g σ1' σ2:=by
 obtain ⟨og,vg,wg,hog,hwg,rfl,lg⟩:=h1.local;obtain ⟨o,v,ws,ho,hws,rfl,lf⟩:=h2.local;rcases hfree o og ho hog with h | ⟨ha,hb,hc,hd⟩
 ·rw [hne o ho] at h;simp at h
 simp only [tmpApart,Bool.and_eq_true] at ha
 have a1 : ∀ x,o.dst = some x → x ∉ tmpsOf og ops ∧ og.dst ≠ some x:=fun x hx=>by
  have:=disj_spec ha.1 x (by simp [hx]);simp only [List.mem_append,not_or] at this;exact ⟨this.1,fun e=>this.2 (by simp [e])⟩
 have a2 : ∀ x,og.dst = some x → x ∉ tmpsOf o ops:=fun x hx=>disj_spec ha.2 x (by simp [hx]);rw [hws,hwg] at hb;rw [hws] at hc;rw [hwg] at hd;have nkOf : ∀ {ws : List (Nat × Option (Blk Ty D))} {x : Nat},x ∉ ws.map (·.1) → ∀ b,(x,b) ∉ ws:=fun hn b hb=>hn (List.mem_map.2 ⟨_,hb,rfl⟩);have s1:=lf σ rfl (fun t ht=>(env_put_ne (fun e=>a2 t e ht)).symm) (fun id hid=>(put_none (nkOf (fun hm=>disj_spec hd id hm hid))).symm);refine ⟨_,s1,?_⟩;have s2:=lg ⟨σ.env.put o.dst v,σ.heap.put ws,σ.st⟩ rfl (fun t ht=>env_put_ne (fun e=>(a1 t e).1 ht)) (fun id hid=>put_none (nkOf (fun hm=>disj_spec hc id hm hid)));have e1 : (σ.env.put o.dst v).put og.dst vg = (σ.env.put og.dst vg).put o.dst v:=env_comm (fun x hx=>(a1 x hx).2);have e2 : (σ.heap.put ws).put wg = (σ.heap.put wg).put ws:=put_comm (disj_spec hb);simp only [e1,e2] at s2;exact s2
theorem Chain.bubble {nt : Nat} {ops : Array Oper} {f : Fp} {l2 : List Fp} : ∀ {l1 : List Fp} {σ σ' : St Ty D},Chain P K nt ops (l1 ++ f :: l2) σ σ' → (∀ g ∈ l1,Free ops g f ∧ ∀ o,ops[f.i]? = some o → edgedN ops 4 o g.i = false) →
  ∃ σ1,Step1 P K nt ops f σ σ1 ∧ Chain P K nt ops (l1 ++ l2) σ1 σ':=by
 intro l1
 induction l1 with
 | nil=>intro σ σ' h _;cases h;exact ⟨_,‹_›,‹_›⟩
 | cons g l1 ih =>
  intro σ σ' h hf;cases h with
  | cons _ _ _ σ0 _ hs hc =>
   obtain ⟨σ1,h1,h2⟩:=ih hc (fun g hg=>hf g (List.mem_cons_of_mem _ hg));obtain ⟨hfg,hne⟩:=hf g (List.mem_cons_self ..);obtain ⟨σ1',h3,h4⟩:=hs.swap h1 hfg hne;exact ⟨σ1',h3,.cons _ _ _ _ _ h4 h2⟩
end
end Go.Proofs.YtbbfkodckpfjcaaGreat.M2

namespace Go.Proofs.YtbbfkodckpfjcaaGreat.M2
open Go
set_option linter.unusedVariables false
set_option linter.unusedSimpArgs false
section
variable {Ty : Type} {D : Ty → Type} {P : Program} {K : Kit Ty D} {w0 : World} {γ0 : Nm → Hdr} {bs : List (Blk Ty D)} {S1 : Nat → Prop} {nt : Nat}
theorem Kept.trans {a b c : World} {O O' : Nat → Prop} (h : Kept a b O) (h' : Kept b c O') (hO : ∀ g,g < a.heap.size → O' g → O g) : Kept a c O :=
 ⟨h'.os.trans h.os,h'.tape.trans h.tape,h'.output.trans h.output,Nat.le_trans h.size h'.size,fun g hg hn=>by
  rw [h'.block g (Nat.lt_of_lt_of_le hg h.size) (fun ho=>hn (hO g hg ho)),h.block g hg hn]⟩
theorem V_un {M : Mem Ty D} : V K M undef (.tu [] : AV Ty D):=⟨[],rfl,rfl,by simp⟩
theorem Mid.next {σ : St Ty D} {E : Nat → Prop} {a : Act} {M M' : Mem Ty D} (hm : Mid K w0 γ0 bs S1 nt σ E a M) {i : Nat} {ws : List (Nat × Option (Blk Ty D))} (hn : Nx K M M' ws ((σ.st + i) * 64)) {d : Option Nat} {u : Value} {v : AV Ty D}
  (hd : ∀ x,d = some x → x < nt) (hv : V K M' u v) : Mid K w0 γ0 bs S1 nt ⟨σ.env.put d v,σ.heap.put ws,σ.st⟩ (fun x=>E x ∨ x = i) (a.put d u) M' where
 st1:=hm.st1
 lay:=hn.lay
 hp:=by rw [hn.hp,hm.hp]
 bd:=fun id hB=>by
  rcases hn.bb id hB with h | ⟨h1,h2⟩
  ·rcases hm.bd id h with h | ⟨j,hj,h3⟩
   ·exact .inl h
   exact .inr ⟨j,.inl hj,h3⟩
  exact .inr ⟨i,.inr rfl,h1,h2⟩
 env:=fun t=>by
  cases d with
  | none=>exact V_tr hn.tr (hm.env t)
  | some x =>
   have hx : x < a.tmps.size:=by rw [hm.size];exact hd x rfl
   by_cases h : t = x
   ·subst h;have e1 : (a.put (some t) u).tmps.getD t undef = u:=by simp [Act.put,hx]
    have e2 : (σ.env.put (some t) v) t = v:=by simp [Env.put,bif_eq]
    show V K M' ((a.put (some t) u).tmps.getD t undef) ((σ.env.put (some t) v) t);rw [e1,e2];exact hv
   have e1 : (a.put (some x) u).tmps.getD t undef = a.tmps.getD t undef:=by
    simp [Act.put,Array.getElem?_setIfInBounds_ne (fun e=>h e.symm)]
   have e2 : (σ.env.put (some x) v) t = σ.env t:=env_put_ne (fun e=>h (by cases e;rfl));show V K M' ((a.put (some x) u).tmps.getD t undef) ((σ.env.put (some x) v) t);rw [e1,e2];exact V_tr hn.tr (hm.env t)
 size:=by cases d <;> simp [Act.put,hm.size]
 defers:=by cases d <;> simp [Act.put,hm.defers]
 s1:=by rw [hn.s1];exact hm.s1
 kept:=hm.kept.trans hn.kept (fun g hg ⟨nm,hO⟩=>by
  rcases hm.fresh g nm hO with h | h
  ·omega
  exact h)
 fresh:=fun g nm hO=>by
  rcases hn.fresh g nm hO with h | ⟨nm',hO'⟩
  ·exact .inl (Nat.le_trans hm.kept.size h)
  exact hm.fresh g nm' hO'
 passed:=fun k b hk hb=>by
  have hB : M.B k:=by
   rcases hn.bb k (hn.lay.bd k b hb) with h | ⟨h1,_⟩
   ·exact h
   have:=hm.st1;omega
  have key : ∃ b1,M.H k = some b1 ∧ M'.γ ⟨k,none⟩ = M.γ ⟨k,none⟩ ∧ lenKept b1 b:=by
   cases b with
   | box cs'=>obtain ⟨⟨cs,h1,h2⟩,h3⟩:=hn.tr.box k cs' hB hb;exact ⟨_,h1,h3,cs',rfl,h2⟩
   | rowb t l' ver'=>obtain ⟨l,ver,h1,h2,h3,_⟩:=hn.tr.row k t l' ver' hB hb;exact ⟨_,h1,h2,l',ver',rfl,h3⟩
  obtain ⟨b1,h1,h2,h3⟩:=key;obtain ⟨h4,h5,b0,h6,h7⟩:=hm.passed k b1 hk h1;exact ⟨h4,h2.trans h5,b0,h6,h7.trans h3⟩
theorem Mid.ops {σ : St Ty D} {E : Nat → Prop} {a : Act} {M : Mem Ty D} (hm : Mid K w0 γ0 bs S1 nt σ E a M) : Ops K M a σ.eval:=by
 intro x;cases x with
 | tmp t=>exact hm.env t
 | const v =>
  show V K M v (toAV v)
  by_cases h : (toAV v : AV Ty D) = .dd
  ·rw [h];exact trivial
  have:=V_toAV (K:=K) (M:=M) v h;cases hv : (toAV v : AV Ty D) <;> rw [hv] at this <;> first | exact this | exact this.elim
 | global g=>exact trivial
 | func f=>exact trivial
theorem wanted_grd {σ : St Ty D} {E : Nat → Prop} {a : Act} {M : Mem Ty D} (hm : Mid K w0 γ0 bs S1 nt σ E a M) {ops : Array Oper} {o : Oper} {b : Bool} (h : grd ops o σ.env = some b) : Region.wanted o (yielded ops a.tmps) = b:=by
 unfold grd at h;unfold Region.wanted
 split at h
 ·rename_i hg;simp at h;simp [hg,h]
 rename_i j want hg
 split at h
 ·simp at h
 rename_i d hd
 split at h
 ·rename_i x hx;have hV:=hm.env d;rw [hx] at hV;have he : a.tmps.getD d undef = .bool x:=hV.1
  have hlt : d < a.tmps.size:=by
   rcases Nat.lt_or_ge d a.tmps.size with h1 | h1
   ·exact h1
   rw [Array.getD_eq_getD_getElem?,Array.getElem?_eq_none h1] at he;simp [undef] at he
  have hy : yielded ops a.tmps j = some x:=by
   unfold yielded;rw [hd]
   have : a.tmps[d]? = some (.bool x):=by
    rw [Array.getD_eq_getD_getElem?,Array.getElem?_eq_getElem hlt] at he;rw [Array.getElem?_eq_getElem hlt];simpa using he
   simp [this]
  simp only [Option.some.injEq] at h;simp only [hg,hy];rw [← h];cases x <;> cases want <;> rfl
 ·rename_i hx;have hV:=hm.env d;rw [hx] at hV;obtain ⟨vs,he,hl,_⟩:=hV;have : vs = []:=List.eq_nil_of_length_eq_zero (by simpa using hl);subst this
  have hy : yielded ops a.tmps j = none:=by
   unfold yielded;rw [hd];simp only [Option.bind_some];rcases Nat.lt_or_ge d a.tmps.size with h1 | h1
   ·rw [Array.getD_eq_getD_getElem?,Array.getElem?_eq_getElem h1] at he;rw [Array.getElem?_eq_getElem h1];have he : a.tmps[d] = .tuple #[]:=he;rw [he]
   rw [Array.getElem?_eq_none h1]
  simp only [Option.some.injEq] at h;simp only [hg,hy];rw [← h];cases want <;> rfl
 simp at h
theorem step_ok (hk : KitOk P K) {σ σ' : St Ty D} {E : Nat → Prop} {a : Act} {M : Mem Ty D} (hm : Mid K w0 γ0 bs S1 nt σ E a M) {ops : Array Oper} {f : Fp} (hs : Step1 P K nt ops f σ σ') (hE : ¬ E f.i) {Q : Exit → Act → World → Prop} {next : Act → World → Prop}
  (hn : ∀ a' M',Mid K w0 γ0 bs S1 nt σ' (fun x=>E x ∨ x = f.i) a' M' → next a' M'.w) : wpOp P ops Q f.i next a M.w:=by
 obtain ⟨o,ho,hd,hs⟩:=hs
 have hdst : ∀ x,o.dst = some x → x < nt:=fun x hx=>by
  unfold dstOk at hd;rw [hx] at hd;exact Nat.le_of_ble_eq_true hd
 unfold wpOp;rw [ho];simp only;rcases hs with ⟨hg,v,ws,hr,hws,rfl⟩ | ⟨hg,hrs,hws,rfl⟩
 ·rw [wanted_grd hm hg,if_pos rfl]
  have hfresh : ∀ q,q < 64 → ¬ M.B ((σ.st + f.i) * 64 + q):=fun q hq hB=>by
   rcases hm.bd _ hB with h | ⟨j,hj,h1,h2⟩
   ·have : σ.st * 64 ≤ (σ.st + f.i) * 64:=Nat.mul_le_mul_right _ (by omega);omega
   have : j = f.i:=by omega
   subst this;exact hE hj
  rw [← hm.hp] at hr;refine .inl (op_ok hk hm.lay hm.ops hfresh hr next Q (fun u M' hnx hv=>?_));refine hn _ M' ?_;refine hm.next hnx hdst ?_;rcases hv with ⟨h1,_⟩ | rfl
  ·exact h1
  exact trivial
 rw [wanted_grd hm hg,if_neg (by simp)];refine hn _ M ?_;exact hm.next (Nx.refl hm.lay _) hdst V_un
theorem chain_ok (hk : KitOk P K) {ops : Array Oper} {Q : Exit → Act → World → Prop} : ∀ (fs : List Fp) (σ σ' : St Ty D) (E : Nat → Prop) (a : Act) (M : Mem Ty D),Chain P K nt ops fs σ σ' → Mid K w0 γ0 bs S1 nt σ E a M → (∀ f ∈ fs,¬ E f.i) → (fs.map (·.i)).Nodup →
  (∀ a' M',Mid K w0 γ0 bs S1 nt σ' (fun x=>E x ∨ x ∈ fs.map (·.i)) a' M' → Q .normal a' M'.w) → wpOps P ops Q (fs.map (·.i)) a M.w:=by
 intro fs
 induction fs with
 | nil=>intro σ σ' E a M hc hm _ _ hQ;cases hc;exact hQ a M (by simpa using hm)
 | cons f fs ih =>
  intro σ σ' E a M hc hm hE hnd hQ;cases hc with
  | cons _ _ _ σ1 _ hs hc =>
   simp only [List.map_cons,List.nodup_cons] at hnd;rw [List.map_cons,wpOps_cons];refine step_ok hk hm hs (hE f (List.mem_cons_self ..)) (fun a' M' hm'=>ih σ1 σ' _ a' M' hc hm' (fun g hg hEg=>?_) hnd.2 (fun a2 M2 hm2=>hQ a2 M2 ?_))
   ·rcases hEg with h | h
    ·exact hE g (List.mem_cons_of_mem _ hg) h
    exact hnd.1 (by rw [← h];exact List.mem_map.2 ⟨g,hg,rfl⟩)
   have e : (fun x=>E x ∨ x ∈ (f :: fs).map (·.i)) = (fun x=>(E x ∨ x = f.i) ∨ x ∈ fs.map (·.i)):=by
    funext x;simp [or_assoc]
   rw [e];exact hm2
theorem Mid.drew {σ : St Ty D} {E : Nat → Prop} {a : Act} {M : Mem Ty D} (hm : Mid K w0 γ0 bs S1 nt σ E a M) : Mid K w0 γ0 bs S1 nt σ E a { M with w:={ M.w with drawn:=M.w.drawn + 1 } }:=by
 have tr : Tr K M { M with w:={ M.w with drawn:=M.w.drawn + 1 } }:=⟨fun _ _=>rfl,hm.lay.one,fun _ _ h=>h,fun _ h=>h,fun id cs' _ h=>⟨⟨cs',h,rfl⟩,rfl⟩,fun id t l' ver' _ h=>⟨l',ver',h,rfl,rfl,Nat.le_refl _,fun _ i x j g t2 l2 hx hj=>⟨x,g,l2,hx,hj,rfl,rfl⟩⟩⟩;exact ⟨hm.st1,⟨fun nm b hb=>(hm.lay.ok nm b hb).keep tr rfl (fun _ _=>rfl) (fun _ _ _ _=>rfl),hm.lay.inj,hm.lay.one,hm.lay.frz,hm.lay.bd⟩,hm.hp,hm.bd,fun t=>V_tr tr (hm.env t),hm.size,hm.defers,hm.s1,⟨hm.kept.os,hm.kept.tape,hm.kept.output,hm.kept.size,hm.kept.block⟩,hm.fresh,hm.passed⟩
theorem setD_mono {l : Array Bool} {i j : Nat} (h : l.getD j false = true) : (l.setIfInBounds i true).getD j false = true:=by
 simp only [Array.getD_eq_getD_getElem?,Array.getElem?_setIfInBounds] at h ⊢
 split
 ·split
  ·rfl
  rename_i e h2;subst e;rw [Array.getElem?_eq_none (by omega)] at h;simp at h
 exact h
theorem setD_inv {l : Array Bool} {i j : Nat} (h : (l.setIfInBounds i true).getD j false = true) : j = i ∨ l.getD j false = true:=by
 simp only [Array.getD_eq_getD_getElem?,Array.getElem?_setIfInBounds] at h ⊢
 split at h
 ·rename_i e;exact .inl e.symm
 exact .inr h
theorem reachN {ops : Array Oper} {listed : Array Bool} (hcl : ∀ (j : Nat) o,ops[j]? = some o → listed.getD j false = true → ∀ e ∈ o.after,Region.binds .any e = true → listed.getD e.on false = true) : ∀ (n : Nat) (o : Oper) (j : Nat),
  (∀ e ∈ o.after,Region.binds .any e = true → listed.getD e.on false = true) → edgedN ops n o j = true → listed.getD j false = true:=by
 have base : ∀ (o : Oper) (j : Nat),(∀ e ∈ o.after,Region.binds .any e = true → listed.getD e.on false = true) → edged o j = true → listed.getD j false = true:=by
  intro o j hr he;unfold edged at he;rw [← Array.any_toList] at he;obtain ⟨e,hem,hcond⟩:=List.any_eq_true.1 he;have hem : e ∈ o.after:=by simpa using hem
  simp only [Bool.and_eq_true] at hcond;have hon:=Nat.eq_of_beq_eq_true hcond.2;rw [← hon];exact hr e hem hcond.1
 intro n
 induction n with
 | zero=>intro o j hr he;exact base o j hr he
 | succ n ih =>
  intro o j hr he;simp only [edgedN,Bool.or_eq_true] at he;rcases he with he | he
  ·exact base o j hr he
  rw [← Array.any_toList] at he;obtain ⟨e,hem,hcond⟩:=List.any_eq_true.1 he;have hem : e ∈ o.after:=by simpa using hem
  simp only [Bool.and_eq_true] at hcond;obtain ⟨hb,hcond⟩:=hcond
  split at hcond
  ·rename_i p hp;exact ih p j (hcl e.on p hp (hr e hem hb)) hcond
  simp at hcond
theorem any_ok (hk : KitOk P K) {ops : Array Oper} {Q : Exit → Act → World → Prop} : ∀ (fuel : Nat) (fs : List Fp) (σ σ' : St Ty D) (E : Nat → Prop) (listed : Array Bool) (a : Act) (M : Mem Ty D),Chain P K nt ops fs σ σ' → Mid K w0 γ0 bs S1 nt σ E a M → (∀ f ∈ fs,¬ E f.i) →
  (fs.map (·.i)).Pairwise (· < ·) → fs.Pairwise (Free ops) → (∀ f ∈ fs,∀ o,ops[f.i]? = some o → edgesBack o f.i = true) → listed.size = ops.size → (∀ j,j < ops.size → (listed.getD j true = false ↔ j ∈ fs.map (·.i))) → (∀ (j : Nat) o,ops[j]? = some o → listed.getD j false = true → ∀ e ∈ o.after,Region.binds .any e = true → listed.getD e.on false = true) → fs.length ≤ fuel →
  (∀ a' M',Mid K w0 γ0 bs S1 nt σ' (fun x=>E x ∨ x ∈ fs.map (·.i)) a' M' → Q .normal a' M'.w) → wpAny P .any ops Q fuel listed a M.w:=by
 intro fuel
 induction fuel with
 | zero =>
  intro fs σ σ' E listed a M hc hm hE hsort hfree hedge hsz hli hcl hlen hQ;have : fs = []:=List.eq_nil_of_length_eq_zero (by omega);subst this;cases hc
  have hr : Region.ready .any ops listed = []:=by
   refine List.eq_nil_iff_forall_not_mem.2 (fun j hj=>?_);obtain ⟨h1,o,ho,_⟩:=mem_ready.1 hj;have hlt : j < ops.size:=(Array.getElem?_eq_some_iff.1 ho).1
   simpa using (hli j hlt).1 h1
  exact ⟨hr,hQ a M (by simpa using hm)⟩
 | succ fuel ih =>
  intro fs σ σ' E listed a M hc hm hE hsort hfree hedge hsz hli hcl hlen hQ
  have getF : ∀ {j : Nat},j < ops.size → listed.getD j false = listed.getD j true:=fun {j} hj=>by
   have : j < listed.size:=by omega
   simp [Array.getD_eq_getD_getElem?,Array.getElem?_eq_getElem this]
  refine ⟨fun hr=>?_,fun i hi=>?_⟩
  ·cases fs with
   | nil=>cases hc;exact hQ a M (by simpa using hm)
   | cons f fs =>
    exfalso
    cases hc with
    | cons _ _ _ σ1 _ hs hc =>
     obtain ⟨o,ho,_⟩:=hs;have hlt : f.i < ops.size:=(Array.getElem?_eq_some_iff.1 ho).1
     have : f.i ∈ Region.ready .any ops listed:=by
      refine mem_ready.2 ⟨(hli f.i hlt).2 (by simp),o,ho,fun e he hb=>?_⟩;have hback:=hedge f (List.mem_cons_self ..) o ho;have:=(Array.all_eq_true_iff_forall_mem.1 hback) e he;rw [hb] at this;simp at this;have hlt2 : e.on < f.i:=this;rw [getF (by omega)];cases hle : listed.getD e.on true with
      | true=>rfl
      | false =>
       exfalso
       have hm2:=(hli e.on (by omega)).1 hle;simp only [List.map_cons,List.mem_cons] at hm2;rcases hm2 with h1 | h1
       ·omega
       have : f.i < e.on:=(List.pairwise_cons.1 hsort).1 e.on h1;omega
     rw [hr] at this;simp at this
  obtain ⟨hl1,o,ho,hready⟩:=mem_ready.1 hi;have hlt : i < ops.size:=(Array.getElem?_eq_some_iff.1 ho).1;obtain ⟨f,hf,hfi⟩:=List.mem_map.1 ((hli i hlt).1 hl1);obtain ⟨l1,l2,rfl⟩:=List.append_of_mem hf;subst hfi;have hsort':=hsort;simp only [List.map_append,List.map_cons] at hsort';obtain ⟨p1,p2,p3⟩:=List.pairwise_append.1 hsort';obtain ⟨p4,p5⟩:=List.pairwise_cons.1 p2;obtain ⟨q1,q2,q3⟩:=List.pairwise_append.1 hfree;obtain ⟨q4,q5⟩:=List.pairwise_cons.1 q2
  have nd : ∀ g ∈ l1 ++ l2,g.i ≠ f.i:=fun g hg e=>by
   rcases List.mem_append.1 hg with h | h
   ·have:=p3 g.i (List.mem_map.2 ⟨g,h,rfl⟩) f.i (List.mem_cons_self ..);omega
   have:=p4 g.i (List.mem_map.2 ⟨g,h,rfl⟩);omega
  obtain ⟨σ1,hs,hc'⟩:=Chain.bubble hc (fun g hg=>⟨q3 g hg f (List.mem_cons_self ..),fun o' ho'=>by
   rw [ho] at ho';cases ho';cases he : edgedN ops 4 o g.i with
   | false=>rfl
   | true =>
    exfalso
    have h1:=reachN hcl 4 o g.i hready he;have hgi : g.i < f.i:=p3 g.i (List.mem_map.2 ⟨g,hg,rfl⟩) f.i (List.mem_cons_self ..);have h2:=(hli g.i (by omega)).2 (List.mem_map.2 ⟨g,List.mem_append.2 (.inl hg),rfl⟩);rw [getF (by omega),h2] at h1
    simp at h1⟩)
  refine step_ok hk hm hs (hE f hf) (fun a' M' hm'=>ih (l1 ++ l2) σ1 σ' _ (listed.setIfInBounds f.i true) a' M' hc' hm' (fun g hg hEg=>?_) ?_ ?_ ?_ (by simpa using hsz) (fun j hj=>?_) (fun j o' ho' hj' e he hb=>(setD_inv hj').elim (fun e1=>by subst e1;rw [ho] at ho';cases ho';exact setD_mono (hready e he hb)) (fun h1=>setD_mono (hcl j o' ho' h1 e he hb))) (by simp at hlen ⊢;omega) (fun a2 M2 hm2=>hQ a2 M2 ?_))
  ·have hg' : g ∈ l1 ++ f :: l2:=by
    rcases List.mem_append.1 hg with h | h
    ·exact List.mem_append.2 (.inl h)
    exact List.mem_append.2 (.inr (List.mem_cons_of_mem _ h))
   rcases hEg with h | h
   ·exact hE g hg' h
   exact nd g hg h
  ·rw [List.map_append];exact List.pairwise_append.2 ⟨p1,p5,fun x hx y hy=>p3 x hx y (List.mem_cons_of_mem _ hy)⟩
  ·exact List.pairwise_append.2 ⟨q1,q5,fun x hx y hy=>q3 x hx y (List.mem_cons_of_mem _ hy)⟩
  ·intro g hg o' ho';refine hedge g ?_ o' ho';rcases List.mem_append.1 hg with h | h
   ·exact List.mem_append.2 (.inl h)
   exact List.mem_append.2 (.inr (List.mem_cons_of_mem _ h))
  ·by_cases e : j = f.i
   ·subst e;have : f.i < listed.size:=by omega
    simp [this];refine ⟨fun x hx e=>nd x (List.mem_append.2 (.inl hx)) e,fun x hx e=>nd x (List.mem_append.2 (.inr hx)) e⟩
   rw [getD_set_ne true (fun h=>e h.symm),hli j hj];simp only [List.map_append,List.map_cons,List.mem_append,List.mem_cons];constructor
   ·rintro (h | h | h)
    ·exact .inl h
    ·exact absurd h e
    exact .inr h
   rintro (h | h)
   ·exact .inl h
   exact .inr (.inr h)
  have e : (fun x=>E x ∨ x ∈ (l1 ++ f :: l2).map (·.i)) = (fun x=>(E x ∨ x = f.i) ∨ x ∈ (l1 ++ l2).map (·.i)):=by
   funext x
   simp only [List.map_append,List.map_cons,List.mem_append,List.mem_cons,eq_iff_iff];constructor
   ·rintro (h | h | h | h)
    ·exact .inl (.inl h)
    ·exact .inr (.inl h)
    ·exact .inl (.inr h)
    exact .inr (.inr h)
   rintro ((h | h) | h | h)
   ·exact .inl h
   ·exact .inr (.inr (.inl h))
   ·exact .inr (.inl h)
   exact .inr (.inr (.inr h))
  rw [e];exact hm2
end
end Go.Proofs.YtbbfkodckpfjcaaGreat.M2

namespace Go.Proofs.YtbbfkodckpfjcaaGreat.M2
open Go
set_option linter.unusedVariables false
set_option linter.unusedSimpArgs false
section
variable {Ty : Type} {D : Ty → Type} {P : Program} {K : Kit Ty D}
def SF (K : Kit Ty D) (M : Mem Ty D) (fz : List Nat) : Nat → Nat → Prop:=fun k g=>if k = 1 then M.S 1 g else (M.S 0 g ∨ ∃ nm,Own K M.H M.γ g nm ∧ nm.id ∈ fz)
def CM (K : Kit Ty D) (M : Mem Ty D) (H : Heap Ty D) (γc : Nm → Hdr) (fz : List Nat) : Mem Ty D:=⟨M.w,SF K M fz,H,γc,fun id=>∃ b,H id = some b⟩
structure CI (K : Kit Ty D) (M : Mem Ty D) (c : Cn Ty D) (γc : Nm → Hdr) (fz : List Nat) (src : Nat → Option Nat) : Prop where
 lay : Lay K (CM K M c.heap γc fz)
 own : ∀ g nm,Own K c.heap γc g nm → ∃ nm0 : Nm,src nm.id = some nm0.id ∧ Own K M.H M.γ g nm0
 used : ∀ n x,src n = some x → (x < 64 ∧ n = x) ∨ (64 ≤ x ∧ Cn.find x c.tab ≠ none)
 inj : ∀ n n' x,src n = some x → src n' = some x → n = n'
 fzt : ∀ f,f ∈ fz → 64 ≤ f ∧ Cn.find f c.tab ≠ none ∧ ∀ n,src n ≠ some f
 cur : ∀ id n b',Cn.find id c.tab = some (some n) → c.heap n = some b' → ∃ b,M.H id = some b ∧ lenKept b b' ∧ γc ⟨n,none⟩ = M.γ ⟨id,none⟩
 names : ∀ n b,c.heap n = some b → n < c.nm
 pas : ∀ n b',n < 64 → c.heap n = some b' → γc ⟨n,none⟩ = M.γ ⟨n,none⟩ ∧ ∃ b,M.H n = some b ∧ lenKept b b'
 nm64 : 64 ≤ c.nm
 tabs : ∀ x m,Cn.find x c.tab = some (some m) → ∃ b,c.heap m = some b
 srcs : ∀ n x,src n = some x → ∃ b,c.heap n = some b
structure CX (K : Kit Ty D) (M : Mem Ty D) (c c' : Cn Ty D) (γ γ' : Nm → Hdr) (fz fz' : List Nat) (src src' : Nat → Option Nat) : Prop where
 tr : Tr K (CM K M c.heap γ fz) (CM K M c'.heap γ' fz')
 tab : ∀ x,Cn.find x c.tab ≠ none → Cn.find x c'.tab = Cn.find x c.tab
 fz : ∀ f,f ∈ fz' → f ∈ fz ∨ Cn.find f c.tab = none
 src : ∀ n x,src' n = some x → src n = some x ∨ Cn.find x c.tab = none
 nm : c.nm ≤ c'.nm
 old : ∀ n,n < c.nm → c'.heap n = c.heap n
theorem CX.refl {M : Mem Ty D} {c : Cn Ty D} {γ : Nm → Hdr} {fz : List Nat} {src : Nat → Option Nat} (h : CI K M c γ fz src) : CX K M c c γ γ fz fz src src :=
 ⟨Tr.refl _ h.lay.one,fun _ _=>rfl,fun _ h=>.inl h,fun _ _ h=>.inl h,Nat.le_refl _,fun _ _=>rfl⟩
theorem Tr.trans {A B C : Mem Ty D} (h : Tr K A B) (h' : Tr K B C) : Tr K A C where
 fz:=fun g hg=>(h'.fz g (h.s 0 g hg)).trans (h.fz g hg)
 one:=h.one
 s:=fun k g hg=>h'.s k g (h.s k g hg)
 b:=fun id hB=>h'.b id (h.b id hB)
 box:=fun id cs' hB hb=>by
  obtain ⟨⟨cs1,h1,h2⟩,h3⟩:=h'.box id cs' (h.b id hB) hb;obtain ⟨⟨cs0,h4,h5⟩,h6⟩:=h.box id cs1 hB h1;exact ⟨⟨cs0,h4,by omega⟩,h3.trans h6⟩
 row:=fun id t l' ver' hB hb=>by
  obtain ⟨l1,ver1,h1,h2,h3,h4,h5⟩:=h'.row id t l' ver' (h.b id hB) hb;obtain ⟨l0,ver0,g1,g2,g3,g4,g5⟩:=h.row id t l1 ver1 hB h1;refine ⟨l0,ver0,g1,h2.trans g2,by omega,by omega,fun e i x j g t2 l2 hx hj=>?_⟩;obtain ⟨x1,gg1,l21,a1,a2,a3,a4⟩:=g5 (by omega) i x j g t2 l2 hx hj;obtain ⟨x2,gg2,l22,b1,b2,b3,b4⟩:=h5 (by omega) i x1 j gg1 t2 l21 a1 a2;exact ⟨x2,gg2,l22,b1,b2,by omega,b4.trans a4⟩
theorem CX.trans {M : Mem Ty D} {a b c : Cn Ty D} {γ1 γ2 γ3 : Nm → Hdr} {f1 f2 f3 : List Nat} {s1 s2 s3 : Nat → Option Nat} (h : CX K M a b γ1 γ2 f1 f2 s1 s2) (h' : CX K M b c γ2 γ3 f2 f3 s2 s3) : CX K M a c γ1 γ3 f1 f3 s1 s3 where
 tr:=h.tr.trans h'.tr
 tab:=fun x hx=>by rw [h'.tab x (by rw [h.tab x hx];exact hx),h.tab x hx]
 fz:=fun f hf=>by
  rcases h'.fz f hf with h1 | h1
  ·exact h.fz f h1
  refine .inr ?_;cases e : Cn.find f a.tab with
  | none=>rfl
  | some y=>have:=h.tab f (by rw [e];simp);rw [h1,e] at this;simp at this
 src:=fun n x hx=>by
  rcases h'.src n x hx with h1 | h1
  ·exact h.src n x h1
  refine .inr ?_;cases e : Cn.find x a.tab with
  | none=>rfl
  | some y=>have:=h.tab x (by rw [e];simp);rw [h1,e] at this;simp at this
 nm:=Nat.le_trans h.nm h'.nm
 old:=fun n hn=>by rw [h'.old n (Nat.lt_of_lt_of_le hn h.nm),h.old n hn]
theorem find_cons {id a : Nat} {b : Option Nat} {t : List (Nat × Option Nat)} : Cn.find id ((a,b) :: t) = if a = id then some b else Cn.find id t:=by simp [Cn.find,bif_eq]
theorem CI.add {M : Mem Ty D} (hl : Lay K M) {c : Cn Ty D} {γc : Nm → Hdr} {fz : List Nat} {src : Nat → Option Nat} (h : CI K M c γc fz src) {n : Nat} {blk : Blk Ty D} (hn : c.heap n = none) (γn : Option (Nat × Nat) → Hdr) (s0 : Option Nat) (tab' : List (Nat × Option Nat)) (nm' : Nat)
  (hok : let γ' : Nm → Hdr:=fun nm=>if nm.id = n then γn nm.sub else γc nm
   Tr K (CM K M c.heap γc fz) (CM K M (c.heap.put [(n,some blk)]) γ' fz) → ∀ sub b,blkAt K (c.heap.put [(n,some blk)]) ⟨n,sub⟩ = some b → NmOk K (CM K M (c.heap.put [(n,some blk)]) γ' fz) ⟨n,sub⟩ b)
  (hown : ∀ g sub,Own K (c.heap.put [(n,some blk)]) (fun nm=>if nm.id = n then γn nm.sub else γc nm) g ⟨n,sub⟩ → ∃ nm0 : Nm,s0 = some nm0.id ∧ Own K M.H M.γ g nm0)
  (hinj : ∀ g sub sub',Own K (c.heap.put [(n,some blk)]) (fun nm=>if nm.id = n then γn nm.sub else γc nm) g ⟨n,sub⟩ → Own K (c.heap.put [(n,some blk)]) (fun nm=>if nm.id = n then γn nm.sub else γc nm) g ⟨n,sub'⟩ → sub = sub')
  (hs0 : ∀ x,s0 = some x → (∀ m,src m ≠ some x) ∧ x ∉ fz ∧ ((x < 64 ∧ n = x) ∨ (64 ≤ x ∧ Cn.find x tab' ≠ none)))
  (htab : ∀ x,Cn.find x c.tab ≠ none → Cn.find x tab' ≠ none) (hcur : ∀ id m,Cn.find id tab' = some (some m) → (m ≠ n ∧ Cn.find id c.tab = some (some m)) ∨ (m = n ∧ ∃ b,M.H id = some b ∧ lenKept b blk ∧ γn none = M.γ ⟨id,none⟩))
  (hnm : c.nm ≤ nm') (hnn : n < nm') (hpas : n < 64 → γn none = M.γ ⟨n,none⟩ ∧ ∃ b,M.H n = some b ∧ lenKept b blk) (hsn : src n = none) :
  CI K M ⟨nm',tab',c.heap.put [(n,some blk)]⟩ (fun nm=>if nm.id = n then γn nm.sub else γc nm) fz (fun m=>if m = n then s0 else src m) ∧
  Tr K (CM K M c.heap γc fz) (CM K M (c.heap.put [(n,some blk)]) (fun nm=>if nm.id = n then γn nm.sub else γc nm) fz):=by
 have hH : ∀ x,c.heap.put [(n,some blk)] x = if x = n then some blk else c.heap x:=heap_put1
 let γ' : Nm → Hdr:=fun nm=>if nm.id = n then γn nm.sub else γc nm
 have γo : ∀ nm : Nm,nm.id ≠ n → γ' nm = γc nm:=fun nm hne=>by simp [γ',hne]
 have ne : ∀ {id},(∃ b,c.heap id = some b) → id ≠ n:=fun {id} ⟨b,hb⟩ e=>by rw [e,hn] at hb;simp at hb
 have tr : Tr K (CM K M c.heap γc fz) (CM K M (c.heap.put [(n,some blk)]) γ' fz):={
  fz:=fun _ _=>rfl
  one:=h.lay.one
  s:=fun _ _ h=>h
  b:=fun id ⟨b,hb⟩=>⟨b,by show c.heap.put [(n,some blk)] id = some b;rw [hH,if_neg (ne ⟨b,hb⟩)];exact hb⟩
  box:=fun id cs' hB hb=>by
   have hb : c.heap.put [(n,some blk)] id = some (.box cs'):=hb;rw [hH,if_neg (ne hB)] at hb;exact ⟨⟨cs',hb,rfl⟩,γo ⟨id,none⟩ (ne hB)⟩
  row:=fun id t l' ver' hB hb=>by
   have hb : c.heap.put [(n,some blk)] id = some (.rowb t l' ver'):=hb;rw [hH,if_neg (ne hB)] at hb
   exact ⟨l',ver',hb,γo ⟨id,none⟩ (ne hB),rfl,Nat.le_refl _,fun _ i x j g t2 l2 hx hj=>⟨x,g,l2,hx,hj,rfl,γo ⟨id,some (i,j)⟩ (ne hB)⟩⟩ }
 have old : ∀ {nm : Nm},nm.id ≠ n → blkAt K (c.heap.put [(n,some blk)]) nm = blkAt K c.heap nm:=fun {nm} hne=>blkAt_congr (by rw [hH,if_neg hne])
 have ownOld : ∀ {g} {nm : Nm},nm.id ≠ n → Own K (c.heap.put [(n,some blk)]) γ' g nm → Own K c.heap γc g nm:=by
  rintro g nm hne ⟨⟨b,hb⟩,hc,o,hg⟩;rw [old hne] at hb;rw [γo nm hne] at hc hg;exact ⟨⟨b,hb⟩,hc,o,hg⟩
 have apart : ∀ {g sub} {nm : Nm},nm.id ≠ n → Own K (c.heap.put [(n,some blk)]) γ' g ⟨n,sub⟩ → Own K (c.heap.put [(n,some blk)]) γ' g nm → False:=by
  intro g sub nm hne h1 h2;obtain ⟨nm0,e0,hO⟩:=hown g sub h1;obtain ⟨nm1,e1,hO1⟩:=h.own g nm (ownOld hne h2);have:=hl.inj g _ _ hO hO1;subst this;exact (hs0 _ e0).1 _ e1
 have all : ∀ g nm,Own K (c.heap.put [(n,some blk)]) γ' g nm → ∃ nm0 : Nm,(if nm.id = n then s0 else src nm.id) = some nm0.id ∧ Own K M.H M.γ g nm0:=by
  intro g nm ho
  by_cases hne : nm.id = n
  ·obtain ⟨id,sub⟩:=nm;simp only at hne;subst hne;obtain ⟨nm0,e,hO⟩:=hown g sub ho;exact ⟨nm0,by simpa using e,hO⟩
  obtain ⟨nm0,e,hO⟩:=h.own g nm (ownOld hne ho);exact ⟨nm0,by rw [if_neg hne];exact e,hO⟩
 refine ⟨⟨⟨fun nm b hb=>?_,fun g nm nm' ho ho'=>?_,h.lay.one,fun g hg=>?_,fun id b hb=>⟨b,hb⟩⟩,all,fun m x hx=>?_,fun m m' x hx hx'=>?_,fun f hf=>?_,fun id m b' hid hb=>?_,fun m b hb=>?_,fun m b' hm hb=>?_,Nat.le_trans h.nm64 hnm,fun x m hx=>?_,fun m x hx=>?_⟩,tr⟩
 ·by_cases hne : nm.id = n
  ·obtain ⟨id,sub⟩:=nm;simp only at hne;subst hne;exact hok tr sub b hb
  have hb' : blkAt K c.heap nm = some b:=by rw [← old hne];exact hb
  exact NmOk.keep tr (h.lay.ok nm b hb') (γo nm hne) (fun _ sub=>γo ⟨nm.id,sub⟩ hne) (fun _ _ _ _=>rfl)
 ·by_cases h1 : nm.id = n <;> by_cases h2 : nm'.id = n
  ·obtain ⟨id,sub⟩:=nm;obtain ⟨id',sub'⟩:=nm';simp only at h1 h2;subst h1;subst h2;rw [hinj g sub sub' ho ho']
  ·obtain ⟨id,sub⟩:=nm;simp only at h1;subst h1;exact (apart h2 ho ho').elim
  ·obtain ⟨id',sub'⟩:=nm';simp only at h2;subst h2;exact (apart h1 ho' ho).elim
  exact h.lay.inj g nm nm' (ownOld h1 ho) (ownOld h2 ho')
 ·refine ⟨(h.lay.frz g hg).1,fun nm ho=>?_⟩
  by_cases hne : nm.id = n
  ·obtain ⟨nm0,e,hO⟩:=all g nm ho;rw [if_pos hne] at e;have hg : SF K M fz 0 g:=hg;rcases hg with h1 | ⟨nm1,h1,h2⟩
   ·exact (hl.frz g h1).2 nm0 hO
   have:=hl.inj g _ _ hO h1;subst this;exact (hs0 _ e).2.1 h2
  exact (h.lay.frz g hg).2 nm (ownOld hne ho)
 ·by_cases hm : m = n
  ·rw [if_pos hm] at hx;have:=(hs0 x hx).2.2;rw [hm];exact this
  rw [if_neg hm] at hx;rcases h.used m x hx with h1 | ⟨h1,h2⟩
  ·exact .inl h1
  exact .inr ⟨h1,htab x h2⟩
 ·by_cases hm : m = n <;> by_cases hm' : m' = n
  ·rw [hm,hm']
  ·rw [if_pos hm] at hx;rw [if_neg hm'] at hx';exact absurd hx' ((hs0 x hx).1 m')
  ·rw [if_pos hm'] at hx';rw [if_neg hm] at hx;exact absurd hx ((hs0 x hx').1 m)
  rw [if_neg hm] at hx;rw [if_neg hm'] at hx';exact h.inj m m' x hx hx'
 ·obtain ⟨h1,h2,h3⟩:=h.fzt f hf;refine ⟨h1,htab f h2,fun m=>?_⟩
  by_cases hm : m = n
  ·rw [if_pos hm];exact fun e=>(hs0 f e).2.1 hf
  rw [if_neg hm];exact h3 m
 ·simp only at hb;rcases hcur id m hid with ⟨h1,h2⟩ | ⟨h1,b,h2,h3,h4⟩
  ·rw [hH,if_neg h1] at hb;obtain ⟨b,h3,h4,h5⟩:=h.cur id m b' h2 hb;exact ⟨b,h3,h4,(γo ⟨m,none⟩ h1).trans h5⟩
  subst h1;rw [hH,if_pos rfl] at hb;cases hb;exact ⟨b,h2,h3,by simpa using h4⟩
 ·simp only at hb
  by_cases hm : m = n
  ·rw [hm];exact hnn
  rw [hH,if_neg hm] at hb;exact Nat.lt_of_lt_of_le (h.names m b hb) hnm
 ·simp only at hb
  by_cases hmn : m = n
  ·subst hmn;rw [hH,if_pos rfl] at hb;cases hb
   simpa using hpas hm
  rw [hH,if_neg hmn] at hb;obtain ⟨h1,h2⟩:=h.pas m b' hm hb;exact ⟨(γo ⟨m,none⟩ hmn).trans h1,h2⟩
 ·show ∃ b,c.heap.put [(n,some blk)] m = some b;rcases hcur x m hx with ⟨h1,h2⟩ | ⟨h1,_⟩
  ·rw [hH,if_neg h1];exact h.tabs x m h2
  rw [hH,if_pos h1];exact ⟨_,rfl⟩
 show ∃ b,c.heap.put [(n,some blk)] m = some b
 by_cases hm : m = n
 ·rw [hH,if_pos hm];exact ⟨_,rfl⟩
 rw [if_neg hm] at hx;rw [hH,if_neg hm];exact h.srcs m x hx
def offC : Option (Nat × Nat) → Nat
 | none=>0
 | some (o,_)=>o
def hdC (m : Nat) (h : Hdr) : Option (Nat × Nat) → Hdr
 | none=>h
 | some (o,_)=>(if h.2 = o then h.1 else h.1.map (·.add (o * m)),h.2 - o)
theorem CI.addRow (hk : KitOk P K) {M : Mem Ty D} (hl : Lay K M) {c : Cn Ty D} {γc : Nm → Hdr} {fz : List Nat} {src : Nat → Option Nat} (h : CI K M c γc fz src) {n id : Nat} {t : Ty} {l : List (D t)} {ver : Nat} (hn : c.heap n = none) (hb : M.H id = some (.rowb t l ver)) {cut : Option (Nat × Nat)} (hcut : ∀ o m,cut = some (o,m) → o + m ≤ l.length)
  (tab' : List (Nat × Option Nat)) (nm' : Nat) (hsrc : ∀ m,src m ≠ some id) (hfz : id ∉ fz) (hid : (id < 64 ∧ n = id) ∨ (64 ≤ id ∧ Cn.find id tab' ≠ none))
  (htab : ∀ x,Cn.find x c.tab ≠ none → Cn.find x tab' ≠ none) (hcur : ∀ x m,Cn.find x tab' = some (some m) → (m ≠ n ∧ Cn.find x c.tab = some (some m)) ∨ (m = n ∧ x = id ∧ cut = none)) (hnm : c.nm ≤ nm') (hnn : n < nm') (hpas : n < 64 → n = id ∧ cut = none) (hsn : src n = none) :
  ∃ γ' src',CI K M ⟨nm',tab',c.heap.put [(n,some (.rowb t (cutL l cut) 0))]⟩ γ' fz src' ∧ Tr K (CM K M c.heap γc fz) (CM K M (c.heap.put [(n,some (.rowb t (cutL l cut) 0))]) γ' fz) ∧
   (∀ m x,src' m = some x → src m = some x ∨ x = id) ∧ ∀ v,hvc (K.cells t) (M.γ ⟨id,none⟩) l.length cut v → v = hv (γ' ⟨n,none⟩) (cutL l cut).length:=by
 have hbk : blkAt K M.H ⟨id,none⟩ = some (.rowb t l ver):=by simp only [blkAt];exact hb
 obtain ⟨hle,hr⟩:=hl.ok ⟨id,none⟩ _ hbk;obtain ⟨off,hoff⟩ : ∃ off,off = offC cut:=⟨_,rfl⟩;obtain ⟨hd,hhd0⟩ : ∃ hd,hd = hdC (K.cells t) (M.γ ⟨id,none⟩) cut:=⟨_,rfl⟩
 let γn : Option (Nat × Nat) → Hdr:=fun sub=>match sub with
  | none=>hd
  | some (i,j)=>M.γ ⟨id,some (off + i,j)⟩
 have hcl : (cutL l cut).length ≤ hd.2 ∧ ∀ (i : Nat) x,(cutL l cut)[i]? = some x → l[off + i]? = some x:=by
  cases hc : cut with
  | none=>subst hoff;subst hhd0;simp only [cutL,hdC,offC,hc,Nat.zero_add];exact ⟨hle,fun _ _ h=>h⟩
  | some om =>
   obtain ⟨o,m⟩:=om;have:=hcut o m hc;subst hoff;subst hhd0;simp only [cutL,hdC,offC,hc];refine ⟨by simp;omega,fun i x hx=>?_⟩;rw [List.getElem?_take] at hx
   split at hx
   ·rw [List.getElem?_drop] at hx;exact hx
   simp at hx
 have hhd : 0 < hd.2 → 0 < (M.γ ⟨id,none⟩).2 ∧ ∃ g p arr e,(M.γ ⟨id,none⟩).1 = some ⟨g,p,none⟩ ∧ hd.1 = some ⟨g,p + off * K.cells t,none⟩ ∧ M.w.heap[g]? = some (.cells arr e (0,0)) ∧ p + off * K.cells t + hd.2 * K.cells t ≤ arr.size ∧
   ∀ (i : Nat) x,l[i]? = some x → ∀ (j : Nat) c,(K.emb t x)[j]? = some c → ∃ u,arr[p + (i * K.cells t + j)]? = some u ∧ Rc M.γ ⟨id,none⟩ i j u c:=by
  intro hpos;cases hc : cut with
  | none =>
   subst hoff;subst hhd0;simp only [hdC,hc] at hpos;obtain ⟨g,p,arr,e,h1,h2,h3,h4⟩:=hr hpos;exact ⟨hpos,g,p,arr,e,h1,by simp [hdC,offC,hc,h1],h2,by simpa [hdC,offC,hc] using h3,h4⟩
  | some om =>
   obtain ⟨o,m⟩:=om;subst hoff;subst hhd0;simp only [hdC,hc] at hpos;obtain ⟨g,p,arr,e,h1,h2,h3,h4⟩:=hr (by omega);have hne : ¬ ((M.γ ⟨id,none⟩).2 = o):=by omega
   refine ⟨by omega,g,p,arr,e,h1,by simp [hdC,offC,hc,hne,h1,Addr.shift],h2,?_,h4⟩;simp only [hdC,offC,hc];rw [Nat.add_assoc,← Nat.add_mul,Nat.add_sub_cancel' (by omega)];exact h3
 have hH : ∀ x,c.heap.put [(n,some (.rowb t (cutL l cut) 0))] x = if x = n then some (.rowb t (cutL l cut) 0) else c.heap x:=heap_put1
 have bsub : ∀ sub b,blkAt K (c.heap.put [(n,some (.rowb t (cutL l cut) 0))]) ⟨n,sub⟩ = some b → (sub = none ∧ b = .rowb t (cutL l cut) 0) ∨ ∃ i j t2 l2,sub = some (i,j) ∧ b = .rowb t2 l2 0 ∧ K.flat t2 = true ∧ blkAt K M.H ⟨id,some (off + i,j)⟩ = some (.rowb t2 l2 0):=by
  intro sub b hbb;cases sub with
  | none=>simp only [blkAt,hH,if_true,Option.some.injEq] at hbb;exact .inl ⟨rfl,hbb.symm⟩
  | some ij =>
   obtain ⟨i,j⟩:=ij;simp only [blkAt,hH,if_true] at hbb
   split at hbb
   ·rename_i x hx
    split at hbb
    ·rename_i g t2 l2 hj;simp only [Option.some.injEq] at hbb;exact .inr ⟨i,j,t2,l2,rfl,hbb.symm,(emb_row0 hk hj).2.1,blkAt_sub hb (hcl.2 i x hx) hj⟩
    simp at hbb
   simp at hbb
 have ownS : ∀ g sub,Own K (c.heap.put [(n,some (.rowb t (cutL l cut) 0))]) (fun nm=>if nm.id = n then γn nm.sub else γc nm) g ⟨n,sub⟩ → Own K M.H M.γ g ⟨id,match sub with | none=>none | some (i,j)=>some (off + i,j)⟩:=by
  rintro g sub ⟨⟨b,hbb⟩,hc,o,hg⟩;simp only [if_true] at hc hg;rcases bsub sub b hbb with ⟨rfl,rfl⟩ | ⟨i,j,t2,l2,rfl,rfl,_,hb2⟩
  ·obtain ⟨h1,g',p,arr,e,h2,h3,_⟩:=hhd hc;have hg : hd.1 = some ⟨g,o,none⟩:=hg;rw [h3] at hg;simp only [Option.some.injEq,Addr.mk.injEq] at hg;exact ⟨⟨_,hbk⟩,h1,p,by rw [h2,hg.1]⟩
  exact ⟨⟨_,hb2⟩,hc,o,hg⟩
 obtain ⟨h1,h2⟩:=CI.add (blk:=.rowb t (cutL l cut) 0) hl h hn γn (some id) tab' nm'
  (by
   intro γ' tr sub b hbb;rcases bsub sub b hbb with ⟨rfl,rfl⟩ | ⟨i,j,t2,l2,rfl,rfl,hf2,hb2⟩
   ·have e : (CM K M (c.heap.put [(n,some (.rowb t (cutL l cut) 0))]) γ' fz).γ ⟨n,none⟩ = hd:=by simp [CM,γ',γn]
    refine ⟨by rw [e];exact hcl.1,fun hc=>?_⟩;rw [e] at hc ⊢;obtain ⟨_,g,p,arr,ee,_,h3,h4,h5,h6⟩:=hhd hc;refine ⟨g,_,arr,ee,h3,h4,h5,fun i x hx j cc hj=>?_⟩;obtain ⟨u,hu,hR⟩:=h6 _ x (hcl.2 i x hx) j cc hj;refine ⟨u,by rw [← hu];congr 1;rw [Nat.add_mul];omega,?_⟩;cases cc with
    | sc _=>exact hR
    | row g2 t2 l2=>exact ⟨rfl,hR.2.trans (by simp [CM,γ',γn])⟩
    | _=>exact hR.elim
   have e : (CM K M (c.heap.put [(n,some (.rowb t (cutL l cut) 0))]) γ' fz).γ ⟨n,some (i,j)⟩ = M.γ ⟨id,some (off + i,j)⟩:=by simp [CM,γ',γn]
   obtain ⟨hle2,hr2⟩:=hl.ok _ _ hb2;refine ⟨by rw [e];exact hle2,fun hc=>?_⟩;rw [e] at hc ⊢;obtain ⟨g,p,arr,ee,h3,h4,h5,h6⟩:=hr2 hc;refine ⟨g,p,arr,ee,h3,h4,h5,fun q x hx k cc hj=>?_⟩;obtain ⟨u,hu,hR⟩:=h6 q x hx k cc hj;refine ⟨u,hu,?_⟩;rcases hk.cell t2 x cc (List.mem_of_getElem? hj) with ⟨v,rfl,_⟩ | ⟨t3,l3,rfl,_,hff⟩
   ·exact hR
   rw [hf2] at hff;simp at hff)
  (fun g sub ho=>⟨_,rfl,ownS g sub ho⟩)
  (fun g sub sub' ho ho'=>by
   have:=hl.inj g _ _ (ownS g sub ho) (ownS g sub' ho');simp only [Nm.mk.injEq,true_and] at this;cases sub with
   | none=>cases sub' with
    | none=>rfl
    | some q=>simp at this
   | some p=>cases sub' with
    | none=>simp at this
    | some q=>obtain ⟨i,j⟩:=p;obtain ⟨i',j'⟩:=q;simp at this ⊢;omega)
  (fun x hx=>by cases hx;exact ⟨hsrc,hfz,hid⟩) htab
  (fun x m hx=>by
   rcases hcur x m hx with h1 | ⟨h1,h2,h3⟩
   ·exact .inl h1
   subst h2;subst h3;exact .inr ⟨h1,_,hb,⟨_,0,rfl,rfl⟩,hhd0⟩) hnm hnn
  (fun hlt=>by
   obtain ⟨h1,h2⟩:=hpas hlt;subst h1;subst h2
   exact ⟨hhd0,_,hb,_,0,rfl,rfl⟩) hsn
 refine ⟨_,_,h1,h2,fun m x hx=>?_,fun v hv=>?_⟩
 ·by_cases hm : m = n
  ·rw [if_pos hm] at hx;cases hx;exact .inr rfl
  rw [if_neg hm] at hx;exact .inl hx
 simp only [if_true];cases hc : cut with
 | none=>rw [hc] at hv;simp only [hvc] at hv;simpa [γn,hhd0,hdC,hc,cutL] using hv
 | some om =>
  obtain ⟨o,m⟩:=om;rw [hc] at hv;obtain ⟨h1,h2⟩:=hv;have e : (cutL l (some (o,m))).length = m:=by simp [cutL];omega
  rw [e,h2];simp [γn,hhd0,hdC,hc,Go.Proofs.YtbbfkodckpfjcaaGreat.M2.hv,cutV]
end
end Go.Proofs.YtbbfkodckpfjcaaGreat.M2

namespace Go.Proofs.YtbbfkodckpfjcaaGreat.M2
open Go
set_option linter.unusedVariables false
set_option linter.unusedSimpArgs false
section
variable {Ty : Type} {D : Ty → Type} {P : Program} {K : Kit Ty D}
theorem CI.freeze (hk : KitOk P K) {M : Mem Ty D} (hl : Lay K M) {c : Cn Ty D} {γc : Nm → Hdr} {fz : List Nat} {src : Nat → Option Nat} (h : CI K M c γc fz src) {id : Nat} (h64 : 64 ≤ id) (hf : Cn.find id c.tab = none) :
  CI K M { c with tab:=(id,none) :: c.tab } γc (id :: fz) src ∧ Tr K (CM K M c.heap γc fz) (CM K M c.heap γc (id :: fz)):=by
 have nsrc : ∀ n,src n ≠ some id:=fun n e=>by
  rcases h.used n id e with ⟨h1,_⟩ | ⟨_,h1⟩
  ·omega
  exact h1 hf
 have tr : Tr K (CM K M c.heap γc fz) (CM K M c.heap γc (id :: fz)):={
  fz:=fun _ _=>rfl
  one:=h.lay.one
  s:=fun k g hg=>by
   have hg : SF K M fz k g:=hg;show SF K M (id :: fz) k g;unfold SF at hg ⊢
   split
   ·rename_i e;rw [if_pos e] at hg;exact hg
   rename_i e;rw [if_neg e] at hg;rcases hg with h1 | ⟨nm,h1,h2⟩
   ·exact .inl h1
   exact .inr ⟨nm,h1,List.mem_cons_of_mem _ h2⟩
  b:=fun _ h=>h
  box:=fun id cs' _ hb=>⟨⟨cs',hb,rfl⟩,rfl⟩
  row:=fun id t l' ver' _ hb=>⟨l',ver',hb,rfl,rfl,Nat.le_refl _,fun _ i x j g t2 l2 hx hj=>⟨x,g,l2,hx,hj,rfl,rfl⟩⟩ }
 have keep : ∀ x,Cn.find x c.tab ≠ none → Cn.find x ((id,none) :: c.tab) ≠ none:=fun x hx=>by
  rw [find_cons];split
  ·simp
  exact hx
 refine ⟨⟨⟨fun nm b hb=>?_,h.lay.inj,fun g hg=>.inl ?_,fun g hg=>?_,h.lay.bd⟩,h.own,fun n x hx=>?_,h.inj,fun f hff=>?_,fun x m b' hx hb=>?_,h.names,h.pas,h.nm64,fun x m hx=>?_,h.srcs⟩,tr⟩
 ·exact NmOk.keep tr (h.lay.ok nm b hb) rfl (fun _ _=>rfl) (fun _ _ _ _=>rfl)
 ·exact hl.one g hg
 ·have hg : SF K M (id :: fz) 0 g:=hg;rcases hg with h1 | ⟨nm,h1,h2⟩
  ·exact h.lay.frz g (.inl h1)
  rcases List.mem_cons.1 h2 with h3 | h3
  ·refine ⟨(h1.lt hl).1,fun nm' ho=>?_⟩;obtain ⟨nm0,e,hO⟩:=h.own g nm' ho;have:=hl.inj g _ _ hO h1;subst this;rw [h3] at e;exact nsrc _ e
  exact h.lay.frz g (.inr ⟨nm,h1,h3⟩)
 ·rcases h.used n x hx with h1 | ⟨h1,h2⟩
  ·exact .inl h1
  exact .inr ⟨h1,keep x h2⟩
 ·rcases List.mem_cons.1 hff with rfl | hff
  ·exact ⟨h64,by rw [find_cons];simp,nsrc⟩
  obtain ⟨h1,h2,h3⟩:=h.fzt f hff;exact ⟨h1,keep f h2,h3⟩
 ·simp only [find_cons] at hx
  split at hx
  ·simp at hx
  exact h.cur x m b' hx hb
 simp only [find_cons] at hx
 split at hx
 ·simp at hx
 exact h.tabs x m hx
theorem CI.addBox {M : Mem Ty D} (hl : Lay K M) {c : Cn Ty D} {γc : Nm → Hdr} {fz : List Nat} {src : Nat → Option Nat} (h : CI K M c γc fz src) {n id : Nat} {cs cs' : List (AV Ty D)} (hn : c.heap n = none) (hb : M.H id = some (.box cs)) (hlen : cs'.length = cs.length)
  (hcell : ∀ (j : Nat) u c1 c1',Vc K M u c1 → cs[j]? = some c1 → cs'[j]? = some c1' → (∃ g arr e,(M.γ ⟨id,none⟩).1 = some ⟨g,0,none⟩ ∧ M.w.heap[g]? = some (.cells arr e (0,0)) ∧ arr[j]? = some u) → c1' ≠ .dd ∧ Vc K (CM K M c.heap γc fz) u c1')
  (tab' : List (Nat × Option Nat)) (nm' : Nat) (hsrc : ∀ m,src m ≠ some id) (hfz : id ∉ fz) (hid : (id < 64 ∧ n = id) ∨ (64 ≤ id ∧ Cn.find id tab' ≠ none))
  (htab : ∀ x,Cn.find x c.tab ≠ none → Cn.find x tab' ≠ none) (hcur : ∀ x m,Cn.find x tab' = some (some m) → (m ≠ n ∧ Cn.find x c.tab = some (some m)) ∨ (m = n ∧ x = id)) (hnm : c.nm ≤ nm') (hnn : n < nm') (hpas : n < 64 → n = id) (hsn : src n = none) :
  ∃ γ' src',CI K M ⟨nm',tab',c.heap.put [(n,some (.box cs'))]⟩ γ' fz src' ∧ Tr K (CM K M c.heap γc fz) (CM K M (c.heap.put [(n,some (.box cs'))]) γ' fz) ∧
   (∀ m x,src' m = some x → src m = some x ∨ x = id) ∧ γ' ⟨n,none⟩ = M.γ ⟨id,none⟩:=by
 have hbk : blkAt K M.H ⟨id,none⟩ = some (.box cs):=by simp only [blkAt];exact hb
 obtain ⟨hcap,g,arr,e,e1,e2,e3,e4⟩:=hl.ok ⟨id,none⟩ _ hbk;have hH : ∀ x,c.heap.put [(n,some (.box cs'))] x = if x = n then some (.box cs') else c.heap x:=heap_put1
 have bsub : ∀ sub b,blkAt K (c.heap.put [(n,some (.box cs'))]) ⟨n,sub⟩ = some b → sub = none ∧ b = .box cs':=by
  intro sub b hbb;cases sub with
  | none=>simp only [blkAt,hH,if_true,Option.some.injEq] at hbb;exact ⟨rfl,hbb.symm⟩
  | some ij=>obtain ⟨i,j⟩:=ij;simp [blkAt,hH] at hbb
 obtain ⟨h1,h2⟩:=CI.add (blk:=.box cs') hl h hn (fun _=>M.γ ⟨id,none⟩) (some id) tab' nm'
  (by
   intro γ' tr sub b hbb;obtain ⟨rfl,rfl⟩:=bsub sub b hbb;have eγ : (CM K M (c.heap.put [(n,some (.box cs'))]) γ' fz).γ ⟨n,none⟩ = M.γ ⟨id,none⟩:=by simp [CM,γ']
   refine ⟨by rw [eγ];exact hcap,g,arr,e,by rw [eγ];exact e1,e2,by omega,fun j c1' hj'=>?_⟩;have hlt : j < cs.length:=by rw [← hlen];exact (List.getElem?_eq_some_iff.1 hj').1
   obtain ⟨_,u,hu,hV⟩:=e4 j _ (List.getElem?_eq_getElem hlt);obtain ⟨h3,h4⟩:=hcell j u _ c1' hV (List.getElem?_eq_getElem hlt) hj' ⟨g,arr,e,e1,e2,hu⟩
   exact ⟨h3,u,hu,Vc_tr tr h4⟩)
  (fun g' sub ⟨⟨b,hbb⟩,hc,o,hg⟩=>⟨⟨id,none⟩,rfl,⟨_,hbk⟩,by simpa using hc,o,by simpa using hg⟩)
  (fun g' sub sub' ⟨⟨b,hbb⟩,_⟩ ⟨⟨b',hbb'⟩,_⟩=>by rw [(bsub _ _ hbb).1,(bsub _ _ hbb').1])
  (fun x hx=>by cases hx;exact ⟨hsrc,hfz,hid⟩) htab
  (fun x m hx=>by
   rcases hcur x m hx with h1 | ⟨h1,h2⟩
   ·exact .inl h1
   subst h2;exact .inr ⟨h1,_,hb,⟨cs',rfl,hlen.symm⟩,rfl⟩) hnm hnn
  (fun hlt=>by have:=hpas hlt;subst this;exact ⟨rfl,_,hb,cs',rfl,hlen.symm⟩) hsn
 refine ⟨_,_,h1,h2,fun m x hx=>?_,by simp⟩
 by_cases hm : m = n
 ·rw [if_pos hm] at hx;cases hx;exact .inr rfl
 rw [if_neg hm] at hx;exact .inl hx
theorem CI.addNil {M : Mem Ty D} (hl : Lay K M) {c : Cn Ty D} {γc : Nm → Hdr} {fz : List Nat} {src : Nat → Option Nat} (h : CI K M c γc fz src) (te : Ty) :
  ∃ γ' src',CI K M { c with nm:=c.nm + 1,heap:=c.heap.put [(c.nm,some (.rowb te [] 0))] } γ' fz src' ∧ Tr K (CM K M c.heap γc fz) (CM K M (c.heap.put [(c.nm,some (.rowb te [] 0))]) γ' fz) ∧
   (∀ m x,src' m = some x → src m = some x) ∧ γ' ⟨c.nm,none⟩ = (none,0):=by
 have hsn : src c.nm = none:=by
  cases e : src c.nm with
  | none=>rfl
  | some x=>obtain ⟨b,hb⟩:=h.srcs _ x e;have:=h.names _ b hb;omega
 have hn : c.heap c.nm = none:=by
  cases e : c.heap c.nm with
  | none=>rfl
  | some b=>have:=h.names _ b e;omega
 have hH : ∀ x,c.heap.put [(c.nm,some (.rowb te [] 0))] x = if x = c.nm then some (.rowb te [] 0) else c.heap x:=heap_put1
 have bsub : ∀ sub b,blkAt K (c.heap.put [(c.nm,some (.rowb te [] 0))]) ⟨c.nm,sub⟩ = some b → sub = none ∧ b = .rowb te [] 0:=by
  intro sub b hbb;cases sub with
  | none=>simp only [blkAt,hH,if_true,Option.some.injEq] at hbb;exact ⟨rfl,hbb.symm⟩
  | some ij=>obtain ⟨i,j⟩:=ij;simp [blkAt,hH] at hbb
 obtain ⟨h1,h2⟩:=CI.add (blk:=.rowb te [] 0) hl h hn (fun _=>(none,0)) none c.tab (c.nm + 1)
  (by
   intro γ' tr sub b hbb;obtain ⟨rfl,rfl⟩:=bsub sub b hbb
   exact ⟨by simp,fun hc=>by simp [CM,γ'] at hc⟩)
  (fun g sub ⟨_,hc,_⟩=>by simp at hc) (fun g sub sub' ⟨_,hc,_⟩=>by simp at hc) (by simp) (fun _ h=>h)
  (fun x m hx=>.inl ⟨fun e=>by obtain ⟨b,hb⟩:=h.tabs x m hx;have:=h.names _ b hb;omega,hx⟩) (Nat.le_succ _) (Nat.lt_succ_self _) (fun hlt=>by have:=h.nm64;omega) hsn
 refine ⟨_,_,h1,h2,fun m x hx=>?_,by simp⟩
 by_cases hm : m = c.nm
 ·rw [if_pos hm] at hx;simp at hx
 rw [if_neg hm] at hx;exact hx
theorem CI.srcNew {M : Mem Ty D} {c : Cn Ty D} {γc : Nm → Hdr} {fz : List Nat} {src : Nat → Option Nat} (h : CI K M c γc fz src) : src c.nm = none ∧ c.heap c.nm = none:=by
 constructor
 ·cases e : src c.nm with
  | none=>rfl
  | some x=>obtain ⟨b,hb⟩:=h.srcs _ x e;have:=h.names _ b hb;omega
 cases e : c.heap c.nm with
 | none=>rfl
 | some b=>have:=h.names _ b e;omega
theorem CI.notSrc {M : Mem Ty D} {c : Cn Ty D} {γc : Nm → Hdr} {fz : List Nat} {src : Nat → Option Nat} (h : CI K M c γc fz src) {id : Nat} (h64 : 64 ≤ id) (hf : Cn.find id c.tab = none) : (∀ m,src m ≠ some id) ∧ id ∉ fz:=by
 constructor
 ·intro m e;rcases h.used m id e with ⟨h1,_⟩ | ⟨_,h1⟩
  ·omega
  exact h1 hf
 intro e;exact (h.fzt id e).2.1 hf
theorem blt_false {a b : Nat} (h : Nat.blt a b = false) : b ≤ a:=by
 rcases Nat.lt_or_ge a b with h1 | h1
 ·have : Nat.blt a b = true:=Nat.ble_eq_true_of_le h1;rw [this] at h;simp at h
 exact h1
theorem put_other {H : Heap Ty D} {n : Nat} {b : Option (Blk Ty D)} {m : Nat} (h : m ≠ n) : H.put [(n,b)] m = H m:=by rw [heap_put1,if_neg h]
def CTo (K : Kit Ty D) (M : Mem Ty D) (c : Cn Ty D) (γ : Nm → Hdr) (fz : List Nat) (src : Nat → Option Nat) (u : Value) (v' : AV Ty D) (c' : Cn Ty D) : Prop :=
 ∃ γ' fz' src',CI K M c' γ' fz' src' ∧ CX K M c c' γ γ' fz fz' src src' ∧ v' ≠ .dd ∧ Va K (CM K M c'.heap γ' fz') u v'
theorem canR_ok (hk : KitOk P K) {M : Mem Ty D} (hl : Lay K M) {te : Ty} {u : Value} {v : AV Ty D} {c : Cn Ty D} {γc : Nm → Hdr} {fz : List Nat} {src : Nat → Option Nat} (h : CI K M c γc fz src) (hv : Vc K M u v) {k : AV Ty D → Cn Ty D → Option (Res Ty D)} {res : Res Ty D}
  (hr : canR K M.H te v c k = some res) : ∃ v' c',k v' c' = some res ∧ CTo K M c γc fz src u v' c' ∧ ∀ cs,v' ≠ .ag cs:=by
 unfold canR at hr
 split at hr
 ·obtain ⟨γ',src',h1,h2,h3,h4⟩:=h.addNil hl te;refine ⟨_,_,hr,⟨γ',fz,src',h1,⟨h2,fun _ _=>rfl,fun _ h=>.inl h,fun n x hx=>.inl (h3 n x hx),Nat.le_succ _,fun n hn=>put_other (by omega)⟩,by simp,?_⟩,by simp⟩;refine ⟨⟨⟨_,by show c.heap.put _ c.nm = _;rw [heap_put1,if_pos rfl]⟩,by rw [show u = .slice none 0 0 from hv];exact ⟨rfl,rfl⟩⟩,fun t l ver hb=>?_⟩;have hb : c.heap.put [(c.nm,some (.rowb te [] 0))] c.nm = some (.rowb t l ver):=hb;rw [heap_put1,if_pos rfl] at hb;cases hb;show u = Go.Proofs.YtbbfkodckpfjcaaGreat.M2.hv (γ' ⟨c.nm,none⟩) 0;rw [h4];exact hv
 ·rename_i id cut
  split at hr
  ·rename_i h64
   split at hr
   ·rename_i t l ver hb;refine ⟨_,_,hr,⟨γc,fz,src,h,CX.refl h,by simp,?_⟩,by simp⟩;obtain ⟨e1,b,e2,e3⟩:=h.pas id _ (Nat.le_of_ble_eq_true h64) hb;refine ⟨⟨⟨_,hb⟩,hv.1.2⟩,fun t' l' v' hb'=>?_⟩;rw [show (CM K M c.heap γc fz).H id = c.heap id from rfl,hb] at hb';cases hb';cases b with
    | box cs=>obtain ⟨_,e,_⟩:=e3;simp at e
    | rowb t0 l0 v0 =>
     obtain ⟨_,_,e,hll⟩:=e3;cases e;have:=hv.2 _ _ _ e2;show u = Go.Proofs.YtbbfkodckpfjcaaGreat.M2.hv (γc ⟨id,none⟩) l.length;rw [e1,← hll];exact this
   simp at hr
  rename_i h64;have h64:=blt_false h64
  split at hr
  ·rename_i n hf
   split at hr
   ·rename_i t l ver hb;refine ⟨_,_,hr,⟨γc,fz,src,h,CX.refl h,by simp,?_⟩,by simp⟩;obtain ⟨b,e2,e3,e1⟩:=h.cur id n _ hf hb;refine ⟨⟨⟨_,hb⟩,hv.1.2⟩,fun t' l' v' hb'=>?_⟩;rw [show (CM K M c.heap γc fz).H n = c.heap n from rfl,hb] at hb';cases hb';cases b with
    | box cs=>obtain ⟨_,e,_⟩:=e3;simp at e
    | rowb t0 l0 v0 =>
     obtain ⟨_,_,e,hll⟩:=e3;cases e;have:=hv.2 _ _ _ e2;show u = Go.Proofs.YtbbfkodckpfjcaaGreat.M2.hv (γc ⟨n,none⟩) l.length;rw [e1,← hll];exact this
   simp at hr
  ·simp at hr
  rename_i hf
  split at hr
  ·rename_i t l ver hb
   split at hr
   ·rename_i l' hc;obtain ⟨e,hl2⟩:=castL_eq hc;cases e;cases hl2;have hvc':=hv.2 _ _ _ hb;obtain ⟨n1,n2⟩:=h.notSrc h64 hf;obtain ⟨s1,s2⟩:=h.srcNew
    obtain ⟨γ',src',h1,h2,h3,h4⟩:=h.addRow (n:=c.nm) (cut:=cut) hk hl s2 hb (fun o m e=>by subst e;exact hvc'.1) ((id,keepN c.nm cut) :: c.tab) (c.nm + 1) n1 n2 (.inr ⟨h64,by rw [find_cons];simp⟩)
     (fun x hx=>by rw [find_cons];split;simp;exact hx)
     (fun x m hx=>by
      rw [find_cons] at hx
      split at hx
      ·rename_i e;cases cut with
       | none=>simp [keepN] at hx;exact .inr ⟨hx.symm,e.symm,rfl⟩
       | some _=>simp [keepN] at hx
      obtain ⟨b,hb⟩:=h.tabs x m hx;have:=h.names _ b hb;exact .inl ⟨by omega,hx⟩) (Nat.le_succ _) (Nat.lt_succ_self _) (fun hlt=>by have:=h.nm64;omega) s1
    refine ⟨_,_,hr,⟨γ',fz,src',h1,⟨h2,fun x hx=>?_,fun _ h=>.inl h,fun n x hx=>?_,Nat.le_succ _,fun n hn=>put_other (by omega)⟩,by simp,?_⟩,by simp⟩
    ·show Cn.find x ((id,_) :: c.tab) = _;rw [find_cons,if_neg];intro e;subst e;exact hx hf
    ·rcases h3 n x hx with h5 | h5
     ·exact .inl h5
     subst h5;exact .inr hf
    refine ⟨⟨⟨_,by show c.heap.put _ c.nm = _;rw [heap_put1,if_pos rfl]⟩,hv.1.2⟩,fun t' l' v' hb'=>?_⟩;have hb' : c.heap.put [(c.nm,some (.rowb _ (cutL l cut) 0))] c.nm = some (.rowb t' l' v'):=hb';rw [heap_put1,if_pos rfl] at hb';cases hb';exact h4 u hvc'
   simp at hr
  simp at hr
 simp at hr
theorem canF_ok (hk : KitOk P K) {M : Mem Ty D} (hl : Lay K M) {te : Ty} {u : Value} {v : AV Ty D} {c : Cn Ty D} {γc : Nm → Hdr} {fz : List Nat} {src : Nat → Option Nat} (h : CI K M c γc fz src) (hv : Vc K M u v) {k : AV Ty D → Cn Ty D → Option (Res Ty D)} {res : Res Ty D}
  (hr : canF K M.H te v c k = some res) : ∃ v' c',k v' c' = some res ∧ CTo K M c γc fz src u v' c' ∧ ∀ cs,v' ≠ .ag cs:=by
 unfold canF at hr
 split at hr
 ·exact ⟨_,_,hr,⟨γc,fz,src,h,CX.refl h,by simp,⟨1,none,0,hv,by simp,.inl rfl⟩⟩,by simp⟩
 ·rename_i g t l
  split at hr
  ·rename_i l' hc;obtain ⟨e,hl2⟩:=castL_eq hc;cases e;cases hl2;refine ⟨_,_,hr,⟨γc,fz,src,h,CX.refl h,by simp,?_⟩,by simp⟩;have hf : Fz K M.w (M.S (tg g)) u (.row g _ l):=hv;show Fz K M.w (SF K M fz 0) u (.row 0 _ l);exact (hf.mono (fun _ _=>rfl) (fun b hb=>.inl (by unfold tg at hb;split at hb;exact hl.one _ hb;exact hb))).tag
  simp at hr
 ·rename_i id cut
  split at hr
  ·rename_i h64 hf;have h64:=blt_false h64
   split at hr
   ·rename_i t l ver hb
    split at hr
    ·rename_i l' hc;obtain ⟨e,hl2⟩:=castL_eq hc;cases e;cases hl2;obtain ⟨h1,h2⟩:=h.freeze hk hl h64 hf;refine ⟨_,_,hr,⟨γc,id :: fz,src,h1,⟨h2,fun x hx=>?_,fun f hff=>?_,fun _ _ h=>.inl h,Nat.le_refl _,fun _ _=>rfl⟩,by simp,?_⟩,by simp⟩
     ·show Cn.find x ((id,_) :: c.tab) = _;rw [find_cons,if_neg];intro e;subst e;exact hx hf
     ·rcases List.mem_cons.1 hff with rfl | h3
      ·exact .inr hf
      exact .inl h3
     have hvc':=hv.2 _ _ _ hb;obtain ⟨hof,hole⟩:=own_fz hk hl hb 0;show Fz K M.w (SF K M (id :: fz) 0) u (.row 0 _ (cutL l cut));have hS : ∀ b,(∃ nm,Own K M.H M.γ b nm ∧ nm.id = id) → SF K M (id :: fz) 0 b:=fun b ⟨nm,h1,h2⟩=>.inr ⟨nm,h1,by rw [h2];exact List.mem_cons_self ..⟩;cases cut with
     | none=>simp only [hvc] at hvc';rw [hvc'];exact hof.mono (fun _ _=>rfl) hS
     | some om =>
      obtain ⟨o,m⟩:=om;rw [hvc'.2];exact (fz_cut hof hvc'.1 0).mono (fun _ _=>rfl) hS
    simp at hr
   simp at hr
  simp at hr
 simp at hr
theorem CI.pend {M : Mem Ty D} {c : Cn Ty D} {γc : Nm → Hdr} {fz : List Nat} {src : Nat → Option Nat} (h : CI K M c γc fz src) {id : Nat} (hf : Cn.find id c.tab = none) :
  CI K M { c with nm:=c.nm + 1,tab:=(id,none) :: c.tab } γc fz src ∧ CX K M c { c with nm:=c.nm + 1,tab:=(id,none) :: c.tab } γc γc fz fz src src:=by
 have keep : ∀ x,Cn.find x c.tab ≠ none → Cn.find x ((id,none) :: c.tab) = Cn.find x c.tab:=fun x hx=>by
  rw [find_cons,if_neg];intro e;subst e;exact hx hf
 have hit : ∀ x m,Cn.find x ((id,none) :: c.tab) = some (some m) → Cn.find x c.tab = some (some m):=fun x m hx=>by
  rw [find_cons] at hx
  split at hx
  ·simp at hx
  exact hx
 refine ⟨⟨h.lay,h.own,fun n x hx=>?_,h.inj,fun f hff=>?_,fun x m b' hx hb=>h.cur x m b' (hit x m hx) hb,fun n b hb=>Nat.lt_succ_of_lt (h.names n b hb),h.pas,Nat.le_succ_of_le h.nm64,fun x m hx=>h.tabs x m (hit x m hx),h.srcs⟩,⟨Tr.refl _ h.lay.one,keep,fun _ h=>.inl h,fun _ _ h=>.inl h,Nat.le_succ _,fun _ _=>rfl⟩⟩
 ·rcases h.used n x hx with h1 | ⟨h1,h2⟩
  ·exact .inl h1
  exact .inr ⟨h1,by show Cn.find x ((id,none) :: c.tab) ≠ none;rw [keep x h2];exact h2⟩
 obtain ⟨h1,h2,h3⟩:=h.fzt f hff;exact ⟨h1,by show Cn.find f ((id,none) :: c.tab) ≠ none;rw [keep f h2];exact h2,h3⟩
theorem hv_inj {h h' : Hdr} {n m : Nat} (e : Go.Proofs.YtbbfkodckpfjcaaGreat.M2.hv h n = Go.Proofs.YtbbfkodckpfjcaaGreat.M2.hv h' m) : h.1 = h'.1 ∧ h.2 = h'.2:=by
 unfold Go.Proofs.YtbbfkodckpfjcaaGreat.M2.hv at e;simp at e;exact ⟨e.1,e.2.2⟩
mutual
theorem canV_ok (hk : KitOk P K) {M : Mem Ty D} (hl : Lay K M) {u : Value} {v : AV Ty D} {c : Cn Ty D} {γc : Nm → Hdr} {fz : List Nat} {src : Nat → Option Nat} (h : CI K M c γc fz src) (hv : Va K M u v) {k : AV Ty D → Cn Ty D → Option (Res Ty D)} {res : Res Ty D} :
  ∀ (f : Fm Ty),canV K M.H f v c k = some res → ∃ v' c',k v' c' = some res ∧ CTo K M c γc fz src u v' c' ∧ ((∀ cs,v ≠ .ag cs) → ∀ cs,v' ≠ .ag cs)
 | .keep,hr=>by
  cases v with
  | sc x=>simp only [canV] at hr;exact ⟨_,_,hr,⟨γc,fz,src,h,CX.refl h,by simp,hv⟩,by simp⟩
  | row g t l =>
   simp only [canV] at hr;refine ⟨_,_,hr,⟨γc,fz,src,h,CX.refl h,by simp,?_⟩,by simp⟩;have hf : Fz K M.w (M.S (tg g)) u (.row g t l):=hv;show Fz K M.w (SF K M fz (tg g)) u (.row g t l);refine hf.mono (fun _ _=>rfl) (fun b hb=>?_);unfold tg at hb ⊢
   split
   ·rename_i e;rw [if_pos e] at hb;exact hb
   rename_i e;rw [if_neg e] at hb;exact .inl hb
  | _=>simp [canV] at hr
 | .own te,hr=>by
  simp only [canV] at hr;have hna : ∀ cs,v ≠ .ag cs:=fun cs e=>by subst e;simp [canR] at hr
  obtain ⟨v',c',h1,h2,h3⟩:=canR_ok hk hl h (by cases v <;> first | exact hv | exact absurd rfl (hna _)) hr;exact ⟨v',c',h1,h2,fun _=>h3⟩
 | .frz te,hr=>by
  simp only [canV] at hr;have hna : ∀ cs,v ≠ .ag cs:=fun cs e=>by subst e;simp [canF] at hr
  obtain ⟨v',c',h1,h2,h3⟩:=canF_ok hk hl h (by cases v <;> first | exact hv | exact absurd rfl (hna _)) hr;exact ⟨v',c',h1,h2,fun _=>h3⟩
 | .ag fs,hr=>by
  cases v with
  | ag cs =>
   simp only [canV] at hr;obtain ⟨vs,e,hlen,hc⟩:=hv;obtain ⟨cs',c',h1,γ',fz',src',h2,h3,h4,h5⟩:=canL_ok hk hl fs cs [] vs h hlen (fun j u c hu hj=>(hc j u c hu hj).2) hr;exact ⟨_,c',h1,⟨γ',fz',src',h2,h3,by simp,vs,e,by simpa using (by omega : vs.length = cs'.length),fun j u c1 hu hj=>h5 j u c1 hu (by simpa using hj)⟩,fun hn=>absurd rfl (hn cs)⟩
  | _=>simp [canV] at hr
 | .box fs,hr=>by
  cases v with
  | pt id i0 j0 =>
   cases i0 with
   | succ _=>simp [canV] at hr
   | zero =>
   have hit : ∀ (n : Nat) (b b' : Blk Ty D),M.H id = some b → lenKept b b' → γc ⟨n,none⟩ = M.γ ⟨id,none⟩ → c.heap n = some b' → (∃ cs,b' = .box cs) → Va K (CM K M c.heap γc fz) u (.pt n 0 j0):=by
    rintro n b b' hb hk' hγ hn ⟨cs,rfl⟩;have hv : Vc K M u (.pt id 0 j0):=hv;cases b with
    | rowb t l ver=>obtain ⟨_,_,e,_⟩:=hk';simp at e
    | box cs0 =>
     refine ⟨⟨⟨_,hn⟩,hv.1.2⟩,fun cs1 h1 _=>?_,fun t l ver h1=>?_⟩
     ·obtain ⟨g,e1,e2⟩:=hv.2.1 cs0 hb rfl;exact ⟨g,by show (γc ⟨n,none⟩).1 = _;rw [hγ];exact e1,e2⟩
     rw [show (CM K M c.heap γc fz).H n = c.heap n from rfl,hn] at h1;simp at h1
   simp only [canV] at hr
   split at hr
   ·rename_i h64
    split at hr
    ·rename_i cs hb;obtain ⟨e1,b,e2,e3⟩:=h.pas id _ (Nat.le_of_ble_eq_true h64) hb;exact ⟨_,_,hr,⟨γc,fz,src,h,CX.refl h,by simp,hit id b _ e2 e3 e1 hb ⟨_,rfl⟩⟩,by simp⟩
    simp at hr
   rename_i h64;have h64:=blt_false h64
   split at hr
   ·rename_i n hf
    split at hr
    ·rename_i cs hb;obtain ⟨b,e2,e3,e1⟩:=h.cur id n _ hf hb;exact ⟨_,_,hr,⟨γc,fz,src,h,CX.refl h,by simp,hit n b _ e2 e3 e1 hb ⟨_,rfl⟩⟩,by simp⟩
    simp at hr
   ·simp at hr
   rename_i hf
   split at hr
   ·rename_i cs hb;have hbk : blkAt K M.H ⟨id,none⟩ = some (.box cs):=by simp only [blkAt];exact hb
    obtain ⟨hcap,g,arr,e,e1,e2,e3,e4⟩:=hl.ok ⟨id,none⟩ _ hbk;obtain ⟨n1,n2⟩:=h.notSrc h64 hf;obtain ⟨s1,s2⟩:=h.srcNew;obtain ⟨p1,p2⟩:=h.pend hf
    obtain ⟨cs',c',k1,γ1,fz1,src1,k2,k3,k4,k5⟩:=canL_ok hk hl fs cs [] arr.toList p1 (by simpa using e3) (fun j u c hu hj=>by
     obtain ⟨_,u',hu',hV⟩:=e4 j c hj;rw [Array.getElem?_toList] at hu
     rw [hu'] at hu;cases hu;exact hV) hr
    split at k1
    ·rename_i hf';have hpt : ∀ x,Cn.find x ((id,none) :: c.tab) = none → x ≠ id:=fun x hx e=>by subst e;rw [find_cons] at hx;simp at hx
     have hheap : c'.heap c.nm = none:=by rw [k3.old c.nm (Nat.lt_succ_self _)];exact s2
     obtain ⟨γ2,src2,q1,q2,q3,q4⟩:=k2.addBox (n:=c.nm) (id:=id) (cs:=cs) (cs':=cs') hl hheap hb k4 (fun j u c1 c1' _ hj hj' ⟨g',arr',e',a1,a2,a3⟩=>by
       rw [e1] at a1;cases a1;rw [e2] at a2;cases a2
       exact k5 j u c1' (by rw [Array.getElem?_toList];exact a3) hj')
      ((id,some c.nm) :: c'.tab) c'.nm
      (fun m hm=>by
       rcases k3.src m id hm with h1 | h1
       ·exact n1 m h1
       exact hpt id h1 rfl)
      (fun hm=>by
       rcases k3.fz id hm with h1 | h1
       ·exact n2 h1
       exact hpt id h1 rfl)
      (.inr ⟨h64,by rw [find_cons];simp⟩)
      (fun x hx=>by rw [find_cons];split;simp;exact hx)
      (fun x m hx=>by
       rw [find_cons] at hx
       split at hx
       ·rename_i e;simp at hx;exact .inr ⟨hx.symm,e.symm⟩
       obtain ⟨b,hb'⟩:=k2.tabs x m hx
       exact .inl ⟨fun e=>by rw [e,hheap] at hb';simp at hb',hx⟩)
      (Nat.le_refl _) (Nat.lt_of_lt_of_le (Nat.lt_succ_self _) k3.nm) (fun hlt=>by have:=h.nm64;omega)
      (by
       cases e : src1 c.nm with
       | none=>rfl
       | some x=>obtain ⟨b,hb'⟩:=k2.srcs _ x e;rw [hheap] at hb';simp at hb')
     have hv : Vc K M u (.pt id 0 j0):=hv;have kk:=p2.trans k3;refine ⟨_,_,k1,⟨γ2,fz1,src2,q1,⟨kk.tr.trans q2,fun x hx=>?_,kk.fz,fun n x hx=>?_,kk.nm,fun n hn=>?_⟩,by simp,⟨⟨_,by show c'.heap.put _ c.nm = _;rw [heap_put1,if_pos rfl]⟩,hv.1.2⟩,fun cs1 h1 _=>?_,fun t l ver h1=>?_⟩,by simp⟩
     ·show Cn.find x ((id,_) :: c'.tab) = _;rw [find_cons,if_neg]
      ·exact kk.tab x hx
      intro e;subst e;exact hx hf
     ·rcases q3 n x hx with h5 | h5
      ·exact kk.src n x h5
      subst h5;exact .inr hf
     ·show c'.heap.put _ n = _;rw [put_other (by omega)];exact kk.old n hn
     ·obtain ⟨g',a1,a2⟩:=hv.2.1 cs hb rfl;exact ⟨g',by show (γ2 ⟨c.nm,none⟩).1 = _;rw [q4];exact a1,a2⟩
     have h1 : c'.heap.put [(c.nm,some (.box cs'))] c.nm = some (.rowb t l ver):=h1;rw [heap_put1,if_pos rfl] at h1;simp at h1
    simp at k1
   simp at hr
  | _=>simp [canV] at hr
 | .elt,hr=>by
  cases v with
  | pt id i0 j0 =>
   have hit : ∀ (n : Nat) (b b' : Blk Ty D),M.H id = some b → lenKept b b' → γc ⟨n,none⟩ = M.γ ⟨id,none⟩ → c.heap n = some b' → (∃ t l ver,b' = .rowb t l ver) → Va K (CM K M c.heap γc fz) u (.pt n i0 j0):=by
    rintro n b b' hb hk' hγ hn ⟨t',l',ver',rfl⟩;have hv : Vc K M u (.pt id i0 j0):=hv;cases b with
    | box cs=>obtain ⟨_,e,_⟩:=hk';simp at e
    | rowb t l ver =>
     obtain ⟨l2,v2,e,hlen⟩:=hk';cases e;refine ⟨⟨⟨_,hn⟩,hv.1.2⟩,fun cs1 h1 _=>?_,fun t1 l1 ver1 h1=>?_⟩
     ·rw [show (CM K M c.heap γc fz).H n = c.heap n from rfl,hn] at h1;simp at h1
     rw [show (CM K M c.heap γc fz).H n = c.heap n from rfl,hn] at h1;cases h1;obtain ⟨e1,g,o,e2,e3⟩:=hv.2.2 _ _ _ hb;exact ⟨by omega,g,o,by show (γc ⟨n,none⟩).1 = _;rw [hγ];exact e2,e3⟩
   simp only [canV] at hr
   split at hr
   ·rename_i h64
    split at hr
    ·rename_i hb;obtain ⟨e1,b,e2,e3⟩:=h.pas id _ (Nat.le_of_ble_eq_true h64) hb;exact ⟨_,_,hr,⟨γc,fz,src,h,CX.refl h,by simp,hit id b _ e2 e3 e1 hb ⟨_,_,_,rfl⟩⟩,by simp⟩
    simp at hr
   split at hr
   ·rename_i n hf
    split at hr
    ·rename_i hb;obtain ⟨b,e2,e3,e1⟩:=h.cur id n _ hf hb;exact ⟨_,_,hr,⟨γc,fz,src,h,CX.refl h,by simp,hit n b _ e2 e3 e1 hb ⟨_,_,_,rfl⟩⟩,by simp⟩
    simp at hr
   simp at hr
  | _=>simp [canV] at hr
 | .arr te,hr=>by
  cases v with
  | pt id i0 j0 =>
   cases i0 with
   | succ _=>simp [canV] at hr
   | zero =>
   cases j0 with
   | succ _=>simp [canV] at hr
   | zero =>
   simp only [canV] at hr
   split at hr
   ·rename_i h64 hf;have h64:=blt_false h64
    split at hr
    ·rename_i t l ver hb
     split at hr
     ·rename_i l' hc;obtain ⟨e,hl2⟩:=castL_eq hc;cases e;cases hl2;have hv : Vc K M u (.pt id 0 0):=hv;obtain ⟨n1,n2⟩:=h.notSrc h64 hf;obtain ⟨s1,s2⟩:=h.srcNew
      obtain ⟨γ',src',h1,h2,h3,h4⟩:=h.addRow (n:=c.nm) (cut:=none) hk hl s2 hb (by simp) ((id,some c.nm) :: c.tab) (c.nm + 1) n1 n2 (.inr ⟨h64,by rw [find_cons];simp⟩)
       (fun x hx=>by rw [find_cons];split;simp;exact hx)
       (fun x m hx=>by
        rw [find_cons] at hx
        split at hx
        ·rename_i e;simp at hx;exact .inr ⟨hx.symm,e.symm,rfl⟩
        obtain ⟨b,hb⟩:=h.tabs x m hx;have:=h.names _ b hb;exact .inl ⟨by omega,hx⟩) (Nat.le_succ _) (Nat.lt_succ_self _) (fun hlt=>by have:=h.nm64;omega) s1
      refine ⟨_,_,hr,⟨γ',fz,src',h1,⟨h2,fun x hx=>?_,fun _ h=>.inl h,fun n x hx=>?_,Nat.le_succ _,fun n hn=>put_other (by omega)⟩,by simp,⟨⟨_,by show c.heap.put _ c.nm = _;rw [heap_put1,if_pos rfl]⟩,hv.1.2⟩,fun cs1 h5 _=>?_,fun t' l2 ver' h5=>?_⟩,by simp⟩
      ·show Cn.find x ((id,_) :: c.tab) = _;rw [find_cons,if_neg];intro e;subst e;exact hx hf
      ·rcases h3 n x hx with h5 | h5
       ·exact .inl h5
       subst h5;exact .inr hf
      ·have h5 : c.heap.put [(c.nm,some (.rowb _ l 0))] c.nm = some (.box cs1):=h5;rw [heap_put1,if_pos rfl] at h5;simp at h5
      have h5 : c.heap.put [(c.nm,some (.rowb _ l 0))] c.nm = some (.rowb t' l2 ver'):=h5;rw [heap_put1,if_pos rfl] at h5;cases h5;have hh:=h4 _ (rfl : hvc _ _ _ none _);have hh:=(hv_inj hh).1;obtain ⟨e1,g,o,e2,e3⟩:=hv.2.2 _ _ _ hb;exact ⟨e1,g,o,by show (γ' ⟨c.nm,none⟩).1 = _;rw [← hh];exact e2,e3⟩
     simp at hr
    simp at hr
   simp at hr
  | _=>simp [canV] at hr
theorem canL_ok (hk : KitOk P K) {M : Mem Ty D} (hl : Lay K M) {k : List (AV Ty D) → Cn Ty D → Option (Res Ty D)} {res : Res Ty D} :
  ∀ (fs : List (Fm Ty)) (vs acc : List (AV Ty D)) (us : List Value) {c : Cn Ty D} {γc : Nm → Hdr} {fz : List Nat} {src : Nat → Option Nat},CI K M c γc fz src → us.length = vs.length → (∀ (j : Nat) u c1,us[j]? = some u → vs[j]? = some c1 → Vc K M u c1) →
  canL K M.H fs vs acc c k = some res → ∃ vs' c',k (acc.reverse ++ vs') c' = some res ∧ ∃ γ' fz' src',CI K M c' γ' fz' src' ∧ CX K M c c' γc γ' fz fz' src src' ∧ vs'.length = vs.length ∧ ∀ (j : Nat) u c1,us[j]? = some u → vs'[j]? = some c1 → c1 ≠ .dd ∧ Vc K (CM K M c'.heap γ' fz') u c1
 | [],vs,acc,us,c,γc,fz,src,h,hul,hv,hr=>by
  cases vs with
  | nil=>simp only [canL] at hr;exact ⟨[],c,by simpa using hr,γc,fz,src,h,CX.refl h,rfl,by simp⟩
  | cons v vs=>simp [canL] at hr
 | f :: fs,vs,acc,us,c,γc,fz,src,h,hul,hv,hr=>by
  cases vs with
  | nil=>simp [canL] at hr
  | cons v vs =>
   cases us with
   | nil=>simp at hul
   | cons u us =>
    simp only [canL] at hr;have hv0:=hv 0 u v rfl rfl;have hna : ∀ cs,v ≠ .ag cs:=fun cs e=>by subst e;exact hv0.elim
    obtain ⟨v',c1,h1,⟨γ1,fz1,src1,g1,g2,g3,g4⟩,h3⟩:=canV_ok hk hl h (by cases v <;> first | exact hv0 | exact absurd rfl (hna _)) f hr;obtain ⟨vs',c2,h4,γ2,fz2,src2,g5,g6,g7,g8⟩:=canL_ok hk hl fs vs (v' :: acc) us g1 (by simpa using hul) (fun j u c hu hc=>hv (j + 1) u c (by simpa using hu) (by simpa using hc)) h1;refine ⟨v' :: vs',c2,by simpa using h4,γ2,fz2,src2,g5,g2.trans g6,by simp [g7],fun j u' c' hj hj'=>?_⟩;cases j with
    | zero =>
     simp at hj hj';subst hj;subst hj';refine ⟨g3,Vc_tr g6.tr ?_⟩;have:=h3 hna;cases v' <;> first | exact g4 | exact absurd rfl (this _)
    | succ j=>exact g8 j u' c' (by simpa using hj) (by simpa using hj')
end
end
end Go.Proofs.YtbbfkodckpfjcaaGreat.M2

namespace Go.Proofs.YtbbfkodckpfjcaaGreat.M2
open Go
set_option linter.unusedVariables false
set_option linter.unusedSimpArgs false
section
variable {Ty : Type} {D : Ty → Type} {P : Program} {K : Kit Ty D} {w0 : World} {γ0 : Nm → Hdr} {bs : List (Blk Ty D)} {S1 : Nat → Prop} {nt : Nat}
theorem CI.start {M : Mem Ty D} (hl : Lay K M) : CI K M ⟨64,[],emptyHeap⟩ M.γ [] (fun _=>none):=by
 have nb : ∀ nm : Nm,blkAt K (emptyHeap : Heap Ty D) nm = none:=fun nm=>blkAt_none rfl;refine ⟨⟨fun nm b hb=>?_,fun g nm nm' ho=>?_,fun g hg=>.inl (hl.one g hg),fun g hg=>⟨?_,fun nm ho=>?_⟩,fun id b hb=>⟨b,hb⟩⟩,fun g nm ho=>?_,by simp,by simp,by simp,by simp [Cn.find],by simp [emptyHeap],by simp [emptyHeap],by simp,by simp [Cn.find],by simp⟩
 ·have hb : blkAt K emptyHeap nm = some b:=hb;rw [nb] at hb;simp at hb
 ·obtain ⟨⟨b,hb⟩,_⟩:=ho;have hb : blkAt K emptyHeap nm = some b:=hb;rw [nb] at hb;simp at hb
 ·have hg : SF K M [] 0 g:=hg;rcases hg with h | ⟨nm,_,h⟩
  ·exact (hl.frz g h).1
  simp at h
 ·obtain ⟨⟨b,hb⟩,_⟩:=ho;have hb : blkAt K emptyHeap nm = some b:=hb;rw [nb] at hb;simp at hb
 obtain ⟨⟨b,hb⟩,_⟩:=ho;rw [nb] at hb;simp at hb
theorem CI.free {M : Mem Ty D} {c : Cn Ty D} {γc : Nm → Hdr} {fz : List Nat} {src : Nat → Option Nat} (h : CI K M c γc fz src) {id : Nat} (h64 : id < 64) (hn : c.heap id = none) : (∀ m,src m ≠ some id) ∧ id ∉ fz ∧ src id = none:=by
 refine ⟨fun m e=>?_,fun hf=>?_,?_⟩
 ·rcases h.used m id e with ⟨_,h1⟩ | ⟨h1,_⟩
  ·subst h1;obtain ⟨b,hb⟩:=h.srcs _ _ e;rw [hn] at hb;simp at hb
  omega
 ·have:=(h.fzt id hf).1;omega
 cases e : src id with
 | none=>rfl
 | some x=>obtain ⟨b,hb⟩:=h.srcs _ _ e;rw [hn] at hb;simp at hb
theorem canP_ok (hk : KitOk P K) {M : Mem Ty D} (hl : Lay K M) {σ : St Ty D} (hp : M.H = σ.heap) {k : Cn Ty D → Option (Res Ty D)} {res : Res Ty D} :
  ∀ (ps : List (Nat × Option (List (Fm Ty)))) {c : Cn Ty D} {γc : Nm → Hdr} {fz : List Nat} {src : Nat → Option Nat},CI K M c γc fz src → canP K σ ps c k = some res →
  ∃ c',k c' = some res ∧ ∃ γ' fz' src',CI K M c' γ' fz' src':=by
 intro ps
 induction ps with
 | nil=>intro c γc fz src h hr;exact ⟨c,hr,γc,fz,src,h⟩
 | cons p ps ih =>
  intro c γc fz src h hr;obtain ⟨id,fs⟩:=p;unfold canP at hr
  split at hr
  ·rename_i h64 hb;have h64 : id < 64:=Nat.le_of_ble_eq_true h64;rename_i cs fs' _;rw [← hp] at hb hr;have hbk : blkAt K M.H ⟨id,none⟩ = some (.box cs):=by simp only [blkAt];exact hb
   obtain ⟨hcap,g,arr,e,e1,e2,e3,e4⟩:=hl.ok ⟨id,none⟩ _ hbk
   obtain ⟨cs',c',k1,γ1,fz1,src1,k2,k3,k4,k5⟩:=canL_ok hk hl fs' cs [] arr.toList h (by simpa using e3) (fun j u c hu hj=>by
    obtain ⟨_,u',hu',hV⟩:=e4 j c hj;rw [Array.getElem?_toList] at hu
    rw [hu'] at hu;cases hu;exact hV) hr
   split at k1
   ·rename_i hn;obtain ⟨n1,n2,n3⟩:=k2.free h64 hn
    obtain ⟨γ2,src2,q1,q2,q3,q4⟩:=k2.addBox (n:=id) (id:=id) (cs:=cs) (cs':=cs') hl hn hb k4 (fun j u c1 c1' _ hj hj' ⟨g',arr',e',a1,a2,a3⟩=>by
      rw [e1] at a1;cases a1;rw [e2] at a2;cases a2
      exact k5 j u c1' (by rw [Array.getElem?_toList];exact a3) hj')
     c'.tab c'.nm n1 n2 (.inl ⟨h64,rfl⟩) (fun _ h=>h) (fun x m hx=>.inl ⟨fun e=>by obtain ⟨b,hb'⟩:=k2.tabs x m hx;rw [e,hn] at hb';simp at hb',hx⟩)
     (Nat.le_refl _) (by have:=k2.nm64;omega) (fun _=>rfl) n3
    exact ih q1 k1
   simp at k1
  ·rename_i h64 hb;have h64 : id < 64:=Nat.le_of_ble_eq_true h64;rename_i t l ver _;rw [← hp] at hb
   split at hr
   ·rename_i hn;obtain ⟨n1,n2,n3⟩:=h.free h64 hn
    obtain ⟨γ',src',h1,h2,h3,h4⟩:=h.addRow (n:=id) (cut:=none) hk hl hn hb (by simp) c.tab c.nm n1 n2 (.inl ⟨h64,rfl⟩) (fun _ h=>h)
     (fun x m hx=>.inl ⟨fun e=>by obtain ⟨b,hb'⟩:=h.tabs x m hx;rw [e,hn] at hb';simp at hb',hx⟩) (Nat.le_refl _) (by have:=h.nm64;omega) (fun _=>⟨rfl,rfl⟩) n3
    exact ih h1 hr
   simp at hr
  ·exact ih h hr
  simp at hr
theorem canS_ok (hk : KitOk P K) {M : Mem Ty D} (hl : Lay K M) {σ : St Ty D} (hp : M.H = σ.heap) {a : Act} (henv : ∀ t,V K M (a.tmps.getD t undef) (σ.env t)) {k : Env Ty D → Cn Ty D → Option (Res Ty D)} {res : Res Ty D} :
  ∀ (fs : List (Nat × Fm Ty)) (e : Env Ty D) {c : Cn Ty D} {γc : Nm → Hdr} {fz : List Nat} {src : Nat → Option Nat},CI K M c γc fz src → (∀ t,V K (CM K M c.heap γc fz) (a.tmps.getD t undef) (e t)) → canS K σ fs e c k = some res →
  ∃ e' c',k e' c' = some res ∧ ∃ γ' fz' src',CI K M c' γ' fz' src' ∧ ∀ t,V K (CM K M c'.heap γ' fz') (a.tmps.getD t undef) (e' t):=by
 intro fs
 induction fs with
 | nil=>intro e c γc fz src h he hr;exact ⟨e,c,hr,γc,fz,src,h,he⟩
 | cons f fs ih =>
  intro e c γc fz src h he hr;obtain ⟨t,f⟩:=f;simp only [canS] at hr;rw [← hp] at hr;have hv:=henv t
  have hv : Va K M (a.tmps.getD t undef) (σ.env t):=by
   cases hx : σ.env t <;> rw [hx] at hv hr <;> first | exact hv | (exfalso;cases f <;> simp [canV,canR,canF] at hr)
  obtain ⟨v',c',h1,⟨γ',fz',src',h2,h3,h4,h5⟩,_⟩:=canV_ok hk hl h hv f hr;refine ih _ h2 (fun t'=>?_) h1
  by_cases ht : t' = t
  ·subst ht;have : (e.put (some t') v') t' = v':=by simp [Env.put,bif_eq]
   rw [this];cases v' <;> first | exact h5 | exact h5.elim
  rw [env_put_ne (fun e=>ht (by cases e;rfl))];exact V_tr h3.tr (he t')
theorem canon_ok (hk : KitOk P K) {σ : St Ty D} {E : Nat → Prop} {a : Act} {M : Mem Ty D} (hm : Mid K w0 γ0 bs S1 nt σ E a M) (sp : Spec Ty) {k : St Ty D → Option (Res Ty D)} {res : Res Ty D} (hr : canon K sp σ k = some res) :
  ∃ σ' M',k σ' = some res ∧ Mid K w0 γ0 bs S1 nt σ' (fun _=>False) a M' ∧ M'.w = M.w:=by
 unfold canon at hr;obtain ⟨c1,hr,γ1,fz1,src1,h1⟩:=canP_ok hk hm.lay hm.hp sp.passed (CI.start hm.lay) hr;obtain ⟨e2,c2,hr,γ2,fz2,src2,h2,h3⟩:=canS_ok hk hm.lay hm.hp hm.env sp.slots emptyEnv h1 (fun t=>trivial) hr
 split at hr
 ·rename_i hle;have hle:=Nat.le_of_ble_eq_true hle;refine ⟨_,CM K M c2.heap γ2 fz2,hr,⟨by simp,h2.lay,rfl,fun id ⟨b,hb⟩=>.inl ?_,h3,hm.size,hm.defers,?_,hm.kept,fun g nm ho=>?_,fun k b hk' hb=>?_⟩,rfl⟩
  ·have:=h2.names id b hb;show id < 1000 * 64;omega
  ·rw [← hm.s1];rfl
  ·obtain ⟨nm0,_,hO⟩:=h2.own g nm ho;exact hm.fresh g nm0 hO
  obtain ⟨g1,b1,g2,g3⟩:=h2.pas k b hk' hb;obtain ⟨g4,g5,b0,g6,g7⟩:=hm.passed k b1 hk' g2;exact ⟨g4,g1.trans g5,b0,g6,g7.trans g3⟩
 simp at hr
end
end Go.Proofs.YtbbfkodckpfjcaaGreat.M2

namespace Go.Proofs.YtbbfkodckpfjcaaGreat.M2
open Go
set_option linter.unusedVariables false
set_option linter.unusedSimpArgs false
section
variable {Ty : Type} {D : Ty → Type} {P : Program} {K : Kit Ty D} {w0 : World} {γ0 : Nm → Hdr} {bs : List (Blk Ty D)} {S1 : Nat → Prop} {nt : Nat}
theorem Mid.region {σ : St Ty D} {n : Nat} {a : Act} {M : Mem Ty D} {E : Nat → Prop} (hE : ∀ x,E x → x < n) (hm : Mid K w0 γ0 bs S1 nt σ E a M) : Mid K w0 γ0 bs S1 nt { σ with st:=σ.st + n } (fun _=>False) a M where
 st1:=Nat.le_trans hm.st1 (Nat.le_add_right _ _)
 lay:=hm.lay
 hp:=hm.hp
 bd:=fun id hB=>by
  left
  show id < (σ.st + n) * 64;rcases hm.bd id hB with h | ⟨i,hi,h1,h2⟩
  ·omega
  have:=hE i hi;omega
 env:=hm.env
 size:=hm.size
 defers:=hm.defers
 s1:=hm.s1
 kept:=hm.kept
 fresh:=hm.fresh
 passed:=hm.passed
theorem region_ok (hk : KitOk P K) (hmix : P.follows .mixedOrders = true) {ctx : Ctx Ty D} (hc : CtxOk P K ctx) {σ : St Ty D} {a : Act} {M : Mem Ty D} (hm : Mid K w0 γ0 bs S1 nt σ (fun _=>False) a M) {id : Nat} {ops : Array Oper} {draw : Bool}
  {k : St Ty D → Option (Res Ty D)} {res : Res Ty D} (hr : runOps P K ctx nt ops draw (List.range ops.size) [] σ k = some res) {Q : Exit → Act → World → Prop}
  (hQ : ∀ σ' a' M',k σ' = some res → Mid K w0 γ0 bs S1 nt σ' (fun _=>False) a' M' → Q .normal a' M'.w) : (Code.region id ops draw).wp P Q a M.w:=by
 obtain ⟨fs,σ',hch,hfs,hst,hk',hdraw⟩:=runOps_chain hc _ _ _ hr
 have hend : ∀ a' M',Mid K w0 γ0 bs S1 nt σ' (fun x=>False ∨ x ∈ fs.map (·.i)) a' M' → Q .normal a' M'.w:=fun a' M' hm' =>
  hQ _ a' M' hk' (hm'.region (fun x hx=>by
   rcases hx with h | h
   ·exact h.elim
   rw [hfs] at h;exact List.mem_range.1 h))
 cases draw with
 | false =>
  refine wp_region ?_;rw [← hfs];exact chain_ok hk fs σ σ' _ a M hch hm (by simp) (by rw [hfs];exact List.nodup_range) hend
 | true =>
  refine wp_region_any hmix ?_;obtain ⟨h1,h2⟩:=hdraw rfl;have hlen : fs.length = ops.size:=by rw [← List.length_map (f:=(·.i)),hfs,List.length_range]
  refine any_ok hk ops.size fs σ σ' (fun _=>False) (Array.replicate ops.size false) a _ hch hm.drew (by simp) ?_ h1 (fun f hf o ho=>(h2 f hf o ho).1) (by simp) (fun j hj=>?_) (fun j o _ hj=>by simp [Array.getD_eq_getD_getElem?,Array.getElem?_replicate] at hj;split at hj <;> simp at hj) (by omega) hend
  ·rw [hfs];exact List.pairwise_lt_range
  rw [hfs];simp [hj]
def Goal (P : Program) (K : Kit Ty D) (w0 : World) (γ0 : Nm → Hdr) (bs : List (Blk Ty D)) (S1 : Nat → Prop) (nt : Nat) (fin : St Ty D → Option (Res Ty D)) (b : Frame) (cs : List Frame) (todo : List Item) (a : Act) (w : World) (res : Res Ty D) : Prop :=
 ∃ σ' a' M',fin σ' = some res ∧ Mid K w0 γ0 bs S1 nt σ' (fun _=>False) a' M' ∧ ∃ todo',Steps P (lone (b.at a todo) cs w) (lone { b.at a' todo' with mode:=.returning } cs M'.w)
theorem Goal.step {fin : St Ty D → Option (Res Ty D)} {b : Frame} {cs : List Frame} {todo todo' : List Item} {a a' : Act} {w w' : World} {res : Res Ty D} (hs : Steps P (lone (b.at a todo) cs w) (lone (b.at a' todo') cs w')) (h : Goal P K w0 γ0 bs S1 nt fin b cs todo' a' w' res) :
  Goal P K w0 γ0 bs S1 nt fin b cs todo a w res:=by
 obtain ⟨σ',a',M',h1,h2,t,h3⟩:=h;exact ⟨σ',a',M',h1,h2,t,hs.trans h3⟩
theorem sc_bool {σ : St Ty D} {E : Nat → Prop} {a : Act} {M : Mem Ty D} (hm : Mid K w0 γ0 bs S1 nt σ E a M) {c : Operand} {x : Bool} (h : σ.eval c = .sc (.bool x)) : a.eval c = .bool x:=by
 have:=hm.ops c;rw [h] at this;exact this.1
def known (c : Operand) (x : Bool) (σ : St Ty D) : St Ty D:=match c with | .tmp t=>{ σ with env:=σ.env.put (some t) (.sc (.bool x)) } | _=>σ
theorem known_eq {σ : St Ty D} {c : Operand} {x : Bool} (h : σ.eval c = .sc (.bool x)) : known c x σ = σ:=by
 unfold known;cases c with
 | tmp t=>simp only;rw [put_self];exact h
 | _=>rfl
theorem go_ok (hk : KitOk P K) (hmix : P.follows .mixedOrders = true) {ctx : Ctx Ty D} (hc : CtxOk P K ctx) {cuts : Nat → Option (Spec Ty)} {fin : St Ty D → Option (Res Ty D)} {rec : List Item → St Ty D → Option (Res Ty D)} {b : Frame} {cs : List Frame} {res : Res Ty D}
  (hrec : ∀ todo σ a M,rec todo σ = some res → Mid K w0 γ0 bs S1 nt σ (fun _=>False) a M → Goal P K w0 γ0 bs S1 nt fin b cs todo a M.w res) :
  ∀ (s : Nat) (entry : Bool) (todo : List Item) (σ : St Ty D) (a : Act) (M : Mem Ty D),go P K ctx nt cuts fin rec s entry todo σ = some res → Mid K w0 γ0 bs S1 nt σ (fun _=>False) a M → Goal P K w0 γ0 bs S1 nt fin b cs todo a M.w res:=by
 intro s
 induction s with
 | zero=>intro entry todo σ a M h;simp [go] at h
 | succ s ih =>
  intro entry todo σ a M h hm;unfold go at h
  split at h
  ·exact ⟨σ,a,M,h,hm,_,.one step_end⟩
  ·exact (ih _ _ _ _ _ h hm).step (.one step_skip)
  ·exact (ih _ _ _ _ _ h hm).step (.one step_seq)
  ·rename_i c x y r
   split at h
   ·rename_i bv hv;have hb:=sc_bool hm hv;cases bv with
    | true =>
     simp only [cond_true] at h;have h : go P K ctx nt cuts fin rec s entry (.code x :: r) (known c true σ) = some res:=h;rw [known_eq hv] at h;exact (ih _ _ _ _ _ h hm).step (.one (step_cond hb))
    | false =>
     simp only [cond_false] at h;have h : go P K ctx nt cuts fin rec s entry (.code y :: r) (known c false σ) = some res:=h;rw [known_eq hv] at h;exact (ih _ _ _ _ _ h hm).step (.one (step_cond hb))
   simp at h
  ·exact (ih _ _ _ _ _ h hm).step (.one step_block)
  ·exact (ih _ _ _ _ _ h hm).step (.one step_inBlock)
  ·exact (ih _ _ _ _ _ h hm).step (.one step_loop)
  ·exact (ih _ _ _ _ _ h hm).step (.one step_inLoop)
  ·split at h
   ·rename_i he;exact (ih _ _ _ _ _ h hm).step (.one (step_exit he))
   simp at h
  ·exact ⟨σ,a,M,h,hm,_,.one step_ret⟩
  ·rename_i id ops draw r
   split at h
   ·rename_i sp _;obtain ⟨σ',M',h1,h2,h3⟩:=canon_ok hk hm sp h;have:=hrec _ σ' a M' h1 h2;rw [h3] at this;exact this
   have hw:=region_ok hk hmix hc hm h (id:=id) (Q:=fun e a' w'=>e = .normal ∧ ∃ σ' M',go P K ctx nt cuts fin rec s false r σ' = some res ∧ Mid K w0 γ0 bs S1 nt σ' (fun _=>False) a' M' ∧ M'.w = w')
    (fun σ' a' M' h1 h2=>⟨rfl,σ',M',h1,h2,rfl⟩)
   obtain ⟨e,a',w',⟨rfl,σ',M',h1,h2,rfl⟩,harr⟩:=hw b r cs;exact (ih _ _ _ _ _ h1 h2).step harr
  simp at h
theorem goK_ok (hk : KitOk P K) (hmix : P.follows .mixedOrders = true) {ctx : Nat → Ctx Ty D} (hc : ∀ k,CtxOk P K (ctx k)) {cuts : Nat → Option (Spec Ty)} {fin : St Ty D → Option (Res Ty D)} {b : Frame} {cs : List Frame} {res : Res Ty D} :
  ∀ (k : Nat) (todo : List Item) (σ : St Ty D) (a : Act) (M : Mem Ty D),goK P K nt ctx cuts fin k todo σ = some res → Mid K w0 γ0 bs S1 nt σ (fun _=>False) a M → Goal P K w0 γ0 bs S1 nt fin b cs todo a M.w res:=by
 intro k
 induction k with
 | zero=>intro todo σ a M h;simp [goK] at h
 | succ k ih =>
  intro todo σ a M h hm;exact go_ok hk hmix (hc k) ih 5000 true todo σ a M h hm
end
end Go.Proofs.YtbbfkodckpfjcaaGreat.M2

namespace Go.Proofs.YtbbfkodckpfjcaaGreat.M2
open Go
set_option linter.unusedVariables false
set_option linter.unusedSimpArgs false
section
variable {Ty : Type} {D : Ty → Type} {P : Program} {K : Kit Ty D} {w0 : World} {γ0 : Nm → Hdr} {bs : List (Blk Ty D)} {S1 : Nat → Prop} {nt : Nat}
def resF (tmps : Array Value) : ResultVar → Sem Value
 | .tmp t=>pure (tmps.getD t undef)
 | .cell a t=>do loadVar t (← asAddr (tmps.getD a undef))
theorem results_run {fn : Func} {tmps : Array Value} {us : List Value} {w : World} (h : (fn.results.toList.mapM (resF tmps)).run P w = .ok us w) :
  (results fn tmps).run P w = .ok (match us with | [u]=>u | us=>.tuple us.toArray) w:=by
 have e : results fn tmps = (do let vs ← fn.results.mapM (resF tmps);pure (if h : vs.size = 1 then vs[0] else .tuple vs)):=by
  unfold results resF;rfl
 rw [e,Array.mapM_eq_mapM_toList];simp only [Sem.run_bind,Sem.run_map,h,Result.andThen_ok,Sem.run_pure]
 match us with
 | []=>simp
 | [u]=>simp
 | u :: v :: us=>simp
theorem loadVar_eq {t : TypeId} {b o : Nat} (w : World) : (loadVar t ⟨b,o,none⟩).run P w = (Instr.loadAt t (.pointer (some ⟨b,o,none⟩))).run P w:=by
 simp [Instr.loadAt,Instr.sureAddr]
theorem results_ok {M : Mem Ty D} {σ : St Ty D} {a : Act} (hl : Lay K M) (hp : M.H = σ.heap) (henv : ∀ t,V K M (a.tmps.getD t undef) (σ.env t)) : ∀ (rs : List ResultVar) (vs : List (AV Ty D)),resultsOf P σ rs = some vs →
  ∃ us : List Value,(rs.mapM (resF a.tmps)).run P M.w = .ok us M.w ∧ us.length = vs.length ∧ ∀ (j : Nat) u v,us[j]? = some u → vs[j]? = some v → v ≠ .dd ∧ V K M u v:=by
 intro rs
 induction rs with
 | nil=>intro vs h;simp [resultsOf] at h;subst h;exact ⟨[],by simp,rfl,by simp⟩
 | cons r rs ih =>
  intro vs h
  have fin : ∀ (u : Value) (v : AV Ty D) (vs' : List (AV Ty D)),(resF a.tmps r).run P M.w = .ok u M.w → v ≠ .dd → V K M u v → resultsOf P σ rs = some vs' → vs = v :: vs' →
    ∃ us : List Value,((r :: rs).mapM (resF a.tmps)).run P M.w = .ok us M.w ∧ us.length = vs.length ∧ ∀ (j : Nat) u v,us[j]? = some u → vs[j]? = some v → v ≠ .dd ∧ V K M u v:=by
   rintro u v vs' hr hd hV hrs rfl;obtain ⟨us,h1,h2,h3⟩:=ih vs' hrs;refine ⟨u :: us,?_,by simp [h2],fun j u' v' hu hv=>?_⟩
   ·simp [List.mapM_cons,Sem.run_bind,hr,h1]
   cases j with
   | zero=>simp at hu hv;subst hu;subst hv;exact ⟨hd,hV⟩
   | succ j=>exact h3 j u' v' (by simpa using hu) (by simpa using hv)
  cases r with
  | tmp t =>
   simp only [resultsOf] at h
   split at h
   ·simp at h
   rename_i v hd
   split at h
   ·rename_i vs' hrs;simp only [Option.some.injEq] at h;exact fin _ _ vs' (by simp [resF]) hd (henv t) hrs h.symm
   simp at h
  | cell c t =>
   simp only [resultsOf] at h
   split at h
   ·rename_i id r n hc hsh
    split at h
    ·rename_i cs hb
     split at h
     ·rename_i xs hxs
      split at h
      ·rename_i v hpk
       split at h
       ·rename_i vs' hrs;simp only [Option.some.injEq] at h;rw [← hp] at hb;have hx:=henv c;rw [hc] at hx;obtain ⟨h1,h2,h3⟩:=part_eq hxs;obtain ⟨hB,hbx,_⟩:=hx;obtain ⟨g,hg,hpt⟩:=hbx cs hb rfl;obtain ⟨hcap,g',arr,e,hg',hheap,hsz,hcell⟩:=hl.ok ⟨id,none⟩ _ (by simp only [blkAt];exact hb);rw [hg] at hg';simp only [Option.some.injEq,Addr.mk.injEq,and_true] at hg';subst hg'
        have hcc : ∀ k,k < n → ∃ u,M.w.cell? ⟨g,0 + k,none⟩ = some u ∧ ∀ c,xs[k]? = some c → c ≠ .dd ∧ Vc K M u c:=fun k hk'=>by
         have hjk : 0 + k < cs.length:=by omega
         obtain ⟨hd,u,hu,hV⟩:=hcell (0 + k) _ (List.getElem?_eq_getElem hjk);refine ⟨u,by simp only [World.cell?,hheap];exact hu,fun c hc=>?_⟩;rw [h3 k,if_pos hk',List.getElem?_eq_getElem hjk] at hc;cases hc;exact ⟨hd,hV⟩
        obtain ⟨us,hcl,hcs⟩:=exists_list n hcc;obtain ⟨hV,hd,h1'⟩:=pack_V (K:=K) (M:=M) (cs:=us) hpk (by omega) (fun j u c hu hj=>(hcs j u hu).2 c hj);refine fin (packV r us) v vs' ?_ hd hV hrs h.symm;have:=load_run hsh M.w g 0 us (fun j u hu=>(hcs j u hu).1) hcl (fun hr=>by have:=h1' hr;omega);rw [← loadVar_eq] at this;simp [resF,hpt,asAddr,this]
       simp at h
      simp at h
     simp at h
    simp at h
   simp at h
end
end Go.Proofs.YtbbfkodckpfjcaaGreat.M2

namespace Go.Proofs.YtbbfkodckpfjcaaGreat.M2
open Go
set_option linter.unusedVariables false
set_option linter.unusedSimpArgs false
section
variable {Ty : Type} {D : Ty → Type} {P : Program} {K : Kit Ty D} {w0 : World} {γ0 : Nm → Hdr} {bs : List (Blk Ty D)} {S1 : Nat → Prop} {nt : Nat}
def CR (n : Nat) (news : List (Blk Ty D)) (os : List Nat) (c c' : AV Ty D) : Prop :=
 (∃ v,c = .sc v ∧ c' = .sc v) ∨ (∃ t l,c = .row 1 t l ∧ c' = .row 1 t l) ∨ (∃ id,c = .sl id none ∧ c' = .sl id none ∧ id < n) ∨ (∃ id i b,c = .sl id none ∧ c' = .sl (n + i) none ∧ os[i]? = some id ∧ news[i]? = some b)
def LR (n : Nat) (news : List (Blk Ty D)) (os : List Nat) (cs cs' : List (AV Ty D)) : Prop:=cs'.length = cs.length ∧ ∀ (j : Nat) c c',cs[j]? = some c → cs'[j]? = some c' → CR n news os c c'
def BR (n : Nat) (news : List (Blk Ty D)) (os : List Nat) : Blk Ty D → Blk Ty D → Prop
 | .rowb t l _,b'=>b' = .rowb t l 0
 | .box cs,b'=>∃ cs',b' = .box cs' ∧ LR n news os cs cs'
def VR (n : Nat) (news : List (Blk Ty D)) (os : List Nat) (v v' : AV Ty D) : Prop :=
 CR n news os v v' ∨ (∃ cs cs',v = .ag cs ∧ v' = .ag cs' ∧ LR n news os cs cs') ∨ (∃ id i b,v = .pt id 0 0 ∧ v' = .pt (n + i) 0 0 ∧ os[i]? = some id ∧ news[i]? = some b)
structure RI (H : Heap Ty D) (n : Nat) (r : Rt Ty D) (os : List Nat) : Prop where
 len : os.length = r.news.length
 nodup : os.Nodup
 old : ∀ o ∈ os,n ≤ o ∧ (r.seen.any fun p=>Nat.beq p.1 o) = true
 blk : ∀ (i : Nat) b',r.news[i]? = some b' → ∃ o b,os[i]? = some o ∧ H o = some b ∧ BR n r.news os b b'
structure RX (r : Rt Ty D) (os : List Nat) (r' : Rt Ty D) (os' : List Nat) : Prop where
 news : ∃ ns os2,r'.news = r.news ++ ns ∧ os' = os ++ os2 ∧ ∀ o ∈ os2,(r.seen.any fun p=>Nat.beq p.1 o) = false
 seen : ∀ x,(r.seen.any fun p=>Nat.beq p.1 x) = true → (r'.seen.any fun p=>Nat.beq p.1 x) = true
theorem RX.refl (r : Rt Ty D) (os : List Nat) : RX r os r os:=⟨⟨[],[],by simp,by simp,by simp⟩,fun _ h=>h⟩
theorem RX.trans {a b c : Rt Ty D} {o1 o2 o3 : List Nat} (h : RX a o1 b o2) (h' : RX b o2 c o3) : RX a o1 c o3:=by
 obtain ⟨n1,p1,e1,e2,e3⟩:=h.news;obtain ⟨n2,p2,e4,e5,e6⟩:=h'.news;refine ⟨⟨n1 ++ n2,p1 ++ p2,by rw [e4,e1,List.append_assoc],by rw [e5,e2,List.append_assoc],fun o ho=>?_⟩,fun x hx=>h'.seen x (h.seen x hx)⟩;rcases List.mem_append.1 ho with h1 | h1
 ·exact e3 o h1
 cases e : (a.seen.any fun p=>Nat.beq p.1 o) with
 | false=>rfl
 | true=>have:=h.seen o e;rw [e6 o h1] at this;simp at this
theorem CR.ext {n : Nat} {r r' : Rt Ty D} {os os' : List Nat} (hx : RX r os r' os') {c c' : AV Ty D} (h : CR n r.news os c c') : CR n r'.news os' c c':=by
 obtain ⟨n1,p1,e1,e2,e3⟩:=hx.news;rcases h with h | h | h | ⟨id,i,b,h1,h2,h3,h4⟩
 ·exact .inl h
 ·exact .inr (.inl h)
 ·exact .inr (.inr (.inl h))
 refine .inr (.inr (.inr ⟨id,i,b,h1,h2,?_,?_⟩))
 ·rw [e2,List.getElem?_append_left (List.getElem?_eq_some_iff.1 h3).1];exact h3
 rw [e1,List.getElem?_append_left (List.getElem?_eq_some_iff.1 h4).1];exact h4
theorem LR.ext {n : Nat} {r r' : Rt Ty D} {os os' : List Nat} (hx : RX r os r' os') {c c' : List (AV Ty D)} (h : LR n r.news os c c') : LR n r'.news os' c c':=⟨h.1,fun j c c' hc hc'=>(h.2 j c c' hc hc').ext hx⟩
theorem BR.ext {n : Nat} {r r' : Rt Ty D} {os os' : List Nat} (hx : RX r os r' os') {b b' : Blk Ty D} (h : BR n r.news os b b') : BR n r'.news os' b b':=by
 cases b with
 | rowb t l v=>exact h
 | box cs=>obtain ⟨cs',e,h⟩:=h;exact ⟨cs',e,h.ext hx⟩
theorem VR.ext {n : Nat} {r r' : Rt Ty D} {os os' : List Nat} (hx : RX r os r' os') {v v' : AV Ty D} (h : VR n r.news os v v') : VR n r'.news os' v v':=by
 rcases h with h | ⟨cs,cs',h1,h2,h3⟩ | ⟨id,i,b,h1,h2,h3,h4⟩
 ·exact .inl (h.ext hx)
 ·exact .inr (.inl ⟨cs,cs',h1,h2,h3.ext hx⟩)
 obtain ⟨n1,p1,e1,e2,e3⟩:=hx.news;refine .inr (.inr ⟨id,i,b,h1,h2,?_,?_⟩)
 ·rw [e2,List.getElem?_append_left (List.getElem?_eq_some_iff.1 h3).1];exact h3
 rw [e1,List.getElem?_append_left (List.getElem?_eq_some_iff.1 h4).1];exact h4
theorem seen_cons {s : List (Nat × Nat)} {a b x : Nat} : (((a,b) :: s).any fun p=>Nat.beq p.1 x) = (Nat.beq a x || s.any fun p=>Nat.beq p.1 x):=by simp
theorem RI.add {H : Heap Ty D} {n : Nat} {r : Rt Ty D} {os : List Nat} (h : RI H n r os) {id : Nat} {b b' : Blk Ty D} {seen' : List (Nat × Nat)} (hn : n ≤ id) (hb : H id = some b) (hos : id ∉ os) (hbr : BR n r.news os b b')
  (hs : ∀ x,(r.seen.any fun p=>Nat.beq p.1 x) = true → (seen'.any fun p=>Nat.beq p.1 x) = true) (hid : (seen'.any fun p=>Nat.beq p.1 id) = true) :
  RI H n ⟨seen',r.news ++ [b']⟩ (os ++ [id]) ∧ (∀ {v v'},CR n r.news os v v' → CR n (r.news ++ [b']) (os ++ [id]) v v') ∧ (os ++ [id])[r.news.length]? = some id ∧ (r.news ++ [b'])[r.news.length]? = some b':=by
 have ext : ∀ {v v'},CR n r.news os v v' → CR n (r.news ++ [b']) (os ++ [id]) v v':=by
  intro c c' h;rcases h with h | h | h | ⟨id,i,b,h1,h2,h3,h4⟩
  ·exact .inl h
  ·exact .inr (.inl h)
  ·exact .inr (.inr (.inl h))
  refine .inr (.inr (.inr ⟨id,i,b,h1,h2,?_,?_⟩))
  ·rw [List.getElem?_append_left (List.getElem?_eq_some_iff.1 h3).1];exact h3
  rw [List.getElem?_append_left (List.getElem?_eq_some_iff.1 h4).1];exact h4
 have bext : ∀ {c c'},BR n r.news os c c' → BR n (r.news ++ [b']) (os ++ [id]) c c':=by
  intro b b' h;cases b with
  | rowb t l v=>exact h
  | box cs=>obtain ⟨cs',e,h⟩:=h;exact ⟨cs',e,h.1,fun j c c' hc hc'=>ext (h.2 j c c' hc hc')⟩
 have l1 : (os ++ [id])[r.news.length]? = some id:=by rw [← h.len];simp
 have l2 : (r.news ++ [b'])[r.news.length]? = some b':=by simp
 refine ⟨⟨by simp [h.len],?_,fun o ho=>?_,fun i b1 hb1=>?_⟩,ext,l1,l2⟩
 ·rw [List.nodup_append];exact ⟨h.nodup,by simp,fun x hx y hy e=>by simp at hy;subst hy;subst e;exact hos hx⟩
 ·rcases List.mem_append.1 ho with h1 | h1
  ·exact ⟨(h.old o h1).1,hs o (h.old o h1).2⟩
  simp at h1;subst h1;exact ⟨hn,hid⟩
 rcases Nat.lt_or_ge i r.news.length with hlt | hge
 ·have hb1 : (r.news ++ [b'])[i]? = some b1:=hb1;rw [List.getElem?_append_left hlt] at hb1;obtain ⟨o,b0,g1,g2,g3⟩:=h.blk i b1 hb1;exact ⟨o,b0,by rw [List.getElem?_append_left (by rw [h.len];exact hlt)];exact g1,g2,bext g3⟩
 have hb1 : (r.news ++ [b'])[i]? = some b1:=hb1
 have : i = r.news.length:=by
  have:=(List.getElem?_eq_some_iff.1 hb1).1;simp at this;omega
 subst this;rw [l2] at hb1;cases hb1;exact ⟨id,b,l1,hb,bext hbr⟩
theorem retC_ok {H : Heap Ty D} {n : Nat} {v v' : AV Ty D} {r r' : Rt Ty D} {os : List Nat} (h : RI H n r os) (hr : retC n H v r = some (v',r')) : ∃ os',RI H n r' os' ∧ RX r os r' os' ∧ CR n r'.news os' v v':=by
 unfold retC at hr
 split at hr
 ·cases hr;exact ⟨os,h,.refl _ _,.inl ⟨_,rfl,rfl⟩⟩
 ·cases hr;exact ⟨os,h,.refl _ _,.inr (.inl ⟨_,_,rfl,rfl⟩)⟩
 ·rename_i id
  split at hr
  ·rename_i hlt;cases hr;exact ⟨os,h,.refl _ _,.inr (.inr (.inl ⟨_,rfl,rfl,Nat.le_of_ble_eq_true hlt⟩))⟩
  rename_i hge;have hge:=blt_false hge
  split at hr
  ·simp at hr
  rename_i hseen
  split at hr
  ·rename_i t l ver hb;cases hr;have hos : id ∉ os:=fun ho=>by have:=(h.old id ho).2;rw [hseen] at this;simp at this
   obtain ⟨g1,g2,g3,g4⟩:=h.add (b':=.rowb t l 0) (seen':=(id,n + r.news.length) :: r.seen) hge hb hos rfl (fun x hx=>by rw [seen_cons,hx];simp) (by rw [seen_cons];simp);exact ⟨_,g1,⟨⟨[_],[id],rfl,rfl,fun o ho=>by simp at ho;subst ho;exact hseen⟩,fun x hx=>by show (((id,n + r.news.length) :: r.seen).any _) = true;rw [seen_cons,hx];simp⟩,.inr (.inr (.inr ⟨id,r.news.length,_,rfl,rfl,g3,g4⟩))⟩
  simp at hr
 simp at hr
theorem retL_ok {H : Heap Ty D} {n : Nat} : ∀ (cs cs' : List (AV Ty D)) {r r' : Rt Ty D} {os : List Nat},RI H n r os → retL n H cs r = some (cs',r') → ∃ os',RI H n r' os' ∧ RX r os r' os' ∧ LR n r'.news os' cs cs':=by
 intro cs
 induction cs with
 | nil=>intro cs' r r' os h hr;simp [retL] at hr;obtain ⟨rfl,rfl⟩:=hr;exact ⟨os,h,.refl _ _,rfl,by simp⟩
 | cons c cs ih =>
  intro cs' r r' os h hr;simp only [retL] at hr
  split at hr
  ·rename_i v' r1 h1
   split at hr
   ·rename_i vs' r2 h2;cases hr;obtain ⟨os1,g1,g2,g3⟩:=retC_ok h h1;obtain ⟨os2,g4,g5,g6⟩:=ih _ g1 h2;refine ⟨os2,g4,g2.trans g5,by simp [g6.1],fun j c c' hc hc'=>?_⟩;cases j with
    | zero=>simp at hc hc';subst hc;subst hc';exact g3.ext g5
    | succ j=>exact g6.2 j c c' (by simpa using hc) (by simpa using hc')
   simp at hr
  simp at hr
theorem retV_ok {H : Heap Ty D} {n : Nat} {v v' : AV Ty D} {r r' : Rt Ty D} {os : List Nat} (h : RI H n r os) (hr : retV n H v r = some (v',r')) : ∃ os',RI H n r' os' ∧ RX r os r' os' ∧ VR n r'.news os' v v':=by
 unfold retV at hr
 split at hr
 ·split at hr
  ·rename_i h1;cases hr;obtain ⟨os1,g1,g2,g3⟩:=retL_ok _ _ h h1;exact ⟨os1,g1,g2,.inr (.inl ⟨_,_,rfl,rfl,g3⟩)⟩
  simp at hr
 ·rename_i id
  split at hr
  ·simp at hr
  rename_i hc;simp only [Bool.or_eq_false_iff] at hc;have hge:=blt_false hc.1
  split at hr
  ·rename_i cs hb
   split at hr
   ·rename_i cs' r1 h1;cases hr;have hri : RI H n ⟨(id,0) :: r.seen,r.news⟩ os:=⟨h.len,h.nodup,fun o ho=>⟨(h.old o ho).1,by show (((id,0) :: r.seen).any _) = true;rw [seen_cons,(h.old o ho).2];simp⟩,h.blk⟩;obtain ⟨os1,g1,g2,g3⟩:=retL_ok _ _ hri h1
    have hos : id ∉ os1:=fun ho=>by
     obtain ⟨ns,p,e1,e2,e3⟩:=g2.news;rw [e2] at ho;rcases List.mem_append.1 ho with h2 | h2
     ·have:=(h.old id h2).2;rw [hc.2] at this;simp at this
     have:=e3 id h2;rw [seen_cons] at this;simp at this
    obtain ⟨g4,g5,g6,g7⟩:=g1.add (b:=.box cs) (b':=.box cs') (seen':=r1.seen) hge hb hos ⟨cs',rfl,g3⟩ (fun _ h=>h) (g2.seen id (by rw [seen_cons];simp));refine ⟨_,g4,?_,.inr (.inr ⟨id,r1.news.length,_,rfl,rfl,g6,g7⟩)⟩;obtain ⟨ns,p,e1,e2,e3⟩:=g2.news;refine ⟨⟨ns ++ [.box cs'],p ++ [id],by show r1.news ++ _ = _;rw [e1];simp,by rw [e2];simp,fun o ho=>?_⟩,fun x hx=>g2.seen x (by rw [seen_cons,hx];simp)⟩;rcases List.mem_append.1 ho with h2 | h2
    ·have:=e3 o h2;rw [seen_cons] at this;simp only [Bool.or_eq_false_iff] at this;exact this.2
    simp at h2;subst h2;exact hc.2
   simp at hr
  simp at hr
 obtain ⟨os1,g1,g2,g3⟩:=retC_ok h hr;exact ⟨os1,g1,g2,.inl g3⟩
theorem retT_ok {H : Heap Ty D} {n : Nat} : ∀ (cs cs' : List (AV Ty D)) {r r' : Rt Ty D} {os : List Nat},RI H n r os → retT n H cs r = some (cs',r') → ∃ os',RI H n r' os' ∧ RX r os r' os' ∧ cs'.length = cs.length ∧ ∀ (j : Nat) c c',cs[j]? = some c → cs'[j]? = some c' → VR n r'.news os' c c':=by
 intro cs
 induction cs with
 | nil=>intro cs' r r' os h hr;simp [retT] at hr;obtain ⟨rfl,rfl⟩:=hr;exact ⟨os,h,.refl _ _,rfl,by simp⟩
 | cons c cs ih =>
  intro cs' r r' os h hr;simp only [retT] at hr
  split at hr
  ·rename_i v' r1 h1
   split at hr
   ·rename_i vs' r2 h2;cases hr;obtain ⟨os1,g1,g2,g3⟩:=retV_ok h h1;obtain ⟨os2,g4,g5,g6⟩:=ih _ g1 h2;refine ⟨os2,g4,g2.trans g5,by simp [g6.1],fun j c c' hc hc'=>?_⟩;cases j with
    | zero=>simp at hc hc';subst hc;subst hc';exact g3.ext g5
    | succ j=>exact g6.2 j c c' (by simpa using hc) (by simpa using hc')
   simp at hr
  simp at hr
def OR (n : Nat) (news : List (Blk Ty D)) (os : List Nat) : Option (Blk Ty D) → Option (Blk Ty D) → Prop
 | none,b'=>b' = none
 | some (.rowb t l v),b'=>b' = some (.rowb t l v)
 | some (.box cs),b'=>∃ cs',b' = some (.box cs') ∧ LR n news os cs cs'
theorem retB_ok {H : Heap Ty D} {n : Nat} : ∀ (m k : Nat) (bs' : List (Option (Blk Ty D))) {r r' : Rt Ty D} {os : List Nat},RI H n r os → retB n H k m r = some (bs',r') → ∃ os',RI H n r' os' ∧ RX r os r' os' ∧ bs'.length = m ∧ ∀ (j : Nat) b',bs'[j]? = some b' → OR n r'.news os' (H (k + j)) b':=by
 intro m
 induction m with
 | zero=>intro k bs' r r' os h hr;simp [retB] at hr;obtain ⟨rfl,rfl⟩:=hr;exact ⟨os,h,.refl _ _,rfl,by simp⟩
 | succ m ih =>
  intro k bs' r r' os h hr
  have next : ∀ {os1 bs2 b1} {r1 : Rt Ty D},RI H n r1 os1 → RX r os r1 os1 → retB n H (k + 1) m r1 = some (bs2,r') → bs' = b1 :: bs2 → (∀ os2,RX r1 os1 r' os2 → OR n r'.news os2 (H k) b1) →
    ∃ os',RI H n r' os' ∧ RX r os r' os' ∧ bs'.length = m + 1 ∧ ∀ (j : Nat) b',bs'[j]? = some b' → OR n r'.news os' (H (k + j)) b':=by
   rintro os1 bs2 b1 r1 g1 g2 h2 rfl hb;obtain ⟨os2,g4,g5,g6,g7⟩:=ih _ _ g1 h2;refine ⟨os2,g4,g2.trans g5,by simp [g6],fun j b' hb'=>?_⟩;cases j with
   | zero=>simp at hb';subst hb';exact hb os2 g5
   | succ j=>rw [show k + (j + 1) = k + 1 + j by omega];exact g7 j b' (by simpa using hb')
  simp only [retB] at hr
  split at hr
  ·rename_i hH
   split at hr
   ·rename_i h2;cases hr;exact next h (.refl _ _) h2 rfl (fun os2 _=>by rw [hH];rfl)
   simp at hr
  ·rename_i t l v hH
   split at hr
   ·rename_i h2;cases hr;exact next h (.refl _ _) h2 rfl (fun os2 _=>by rw [hH];rfl)
   simp at hr
  rename_i cs hH
  split at hr
  ·rename_i cs' r1 h1
   split at hr
   ·rename_i h2;cases hr;obtain ⟨os1,g1,g2,g3⟩:=retL_ok _ _ h h1;exact next g1 g2 h2 rfl (fun os2 hx=>by rw [hH];exact ⟨cs',rfl,g3.ext hx⟩)
   simp at hr
  simp at hr
end
end Go.Proofs.YtbbfkodckpfjcaaGreat.M2

namespace Go.Proofs.YtbbfkodckpfjcaaGreat.M2
open Go
set_option linter.unusedVariables false
set_option linter.unusedSimpArgs false
section
variable {Ty : Type} {D : Ty → Type} {P : Program} {K : Kit Ty D}
def org (n : Nat) (os : List Nat) (k : Nat) : Nat:=if k < n then k else os.getD (k - n) 0
def Same (n : Nat) (news : List (Blk Ty D)) (os : List Nat) : Blk Ty D → Blk Ty D → Prop
 | .rowb t l _,b'=>∃ v',b' = .rowb t l v'
 | .box cs,b'=>∃ cs',b' = .box cs' ∧ LR n news os cs cs'
def RM (M : Mem Ty D) (outs : List (Option (Blk Ty D))) (news : List (Blk Ty D)) (os : List Nat) : Mem Ty D :=
 ⟨M.w,fun _=>M.S 1,hpBack outs news,fun nm=>M.γ ⟨org outs.length os nm.id,nm.sub⟩,(· < outs.length + news.length)⟩
structure RF (M : Mem Ty D) (outs : List (Option (Blk Ty D))) (news : List (Blk Ty D)) (os : List Nat) : Prop where
 len : os.length = news.length
 nodup : os.Nodup
 old : ∀ o ∈ os,outs.length ≤ o
 blk : ∀ (i : Nat) b',news[i]? = some b' → ∃ o b,os[i]? = some o ∧ M.H o = some b ∧ BR outs.length news os b b'
 outs : ∀ (j : Nat) b',outs[j]? = some b' → OR outs.length news os (M.H j) b'
theorem org_new {n i o : Nat} {os : List Nat} (h : os[i]? = some o) : org n os (n + i) = o:=by
 unfold org;rw [if_neg (by omega),List.getD_eq_getElem?_getD,show n + i - n = i by omega,h];rfl
theorem RF.look {M : Mem Ty D} {outs : List (Option (Blk Ty D))} {news : List (Blk Ty D)} {os : List Nat} (h : RF M outs news os) {k : Nat} {b' : Blk Ty D} (hb : hpBack outs news k = some b') :
  k < outs.length + news.length ∧ ∃ b,M.H (org outs.length os k) = some b ∧ Same outs.length news os b b':=by
 unfold hpBack at hb
 split at hb
 ·rename_i hlt;refine ⟨by omega,?_⟩
  have hj : outs[k]? = some (some b'):=by
   rw [List.getElem?_eq_getElem hlt] at hb ⊢
   simpa using hb
  have ho:=h.outs k _ hj;have e : org outs.length os k = k:=by unfold org;rw [if_pos hlt]
  rw [e];cases hM : M.H k with
  | none=>rw [hM] at ho;simp [OR] at ho
  | some b =>
   rw [hM] at ho;refine ⟨b,rfl,?_⟩;cases b with
   | rowb t l v=>simp [OR] at ho;exact ⟨v,ho⟩
   | box cs=>obtain ⟨cs',e,hl⟩:=ho;cases e;exact ⟨cs',rfl,hl⟩
 rename_i hge;have hlt : k - outs.length < news.length:=(List.getElem?_eq_some_iff.1 hb).1;refine ⟨by omega,?_⟩;obtain ⟨o,b,h1,h2,h3⟩:=h.blk _ _ hb;have e : org outs.length os k = o:=by rw [show k = outs.length + (k - outs.length) by omega];exact org_new h1
 rw [e];refine ⟨b,h2,?_⟩;cases b with
 | rowb t l v=>exact ⟨0,h3⟩
 | box cs=>exact h3
theorem RF.at {M : Mem Ty D} {outs : List (Option (Blk Ty D))} {news : List (Blk Ty D)} {os : List Nat} (h : RF M outs news os) {nm : Nm} {b' : Blk Ty D} (hb : blkAt K (hpBack outs news) nm = some b') :
  ∃ b,blkAt K M.H ⟨org outs.length os nm.id,nm.sub⟩ = some b ∧ Same outs.length news os b b':=by
 obtain ⟨k,sub⟩:=nm;cases sub with
 | none =>
  have hb : hpBack outs news k = some b':=hb;exact (h.look hb).2
 | some ij =>
  obtain ⟨i,j⟩:=ij;simp only [blkAt] at hb ⊢
  split at hb
  ·rename_i t l v hk';obtain ⟨_,b,h1,h2⟩:=h.look hk';cases b with
   | box cs=>obtain ⟨_,e,_⟩:=h2;simp at e
   | rowb t0 l0 v0 =>
    obtain ⟨_,e⟩:=h2;cases e;rw [h1];refine ⟨b',hb,?_⟩
    split at hb
    ·split at hb
     ·cases hb;exact ⟨_,rfl⟩
     simp at hb
    simp at hb
  simp at hb
theorem RF.inj {M : Mem Ty D} {outs : List (Option (Blk Ty D))} {news : List (Blk Ty D)} {os : List Nat} (h : RF M outs news os) {k k' : Nat} (hk : k < outs.length + news.length) (hk' : k' < outs.length + news.length) (e : org outs.length os k = org outs.length os k') : k = k':=by
 have pos : ∀ {k},k < outs.length + news.length → ¬ k < outs.length → ∃ o,os[k - outs.length]? = some o ∧ org outs.length os k = o ∧ outs.length ≤ o:=fun {k} h1 h2=>by
  have hlt : k - outs.length < os.length:=by rw [h.len];omega
  refine ⟨os[k - outs.length],List.getElem?_eq_getElem hlt,?_,h.old _ (List.getElem_mem hlt)⟩;have:=org_new (n:=outs.length) (List.getElem?_eq_getElem hlt);rw [show outs.length + (k - outs.length) = k by omega] at this;exact this
 have small : ∀ {k},k < outs.length → org outs.length os k = k:=fun {k} h1=>by unfold org;rw [if_pos h1]
 by_cases h1 : k < outs.length <;> by_cases h2 : k' < outs.length
 ·rw [small h1,small h2] at e;exact e
 ·obtain ⟨o,g1,g2,g3⟩:=pos hk' h2;rw [small h1,g2] at e;omega
 ·obtain ⟨o,g1,g2,g3⟩:=pos hk h1;rw [small h2,g2] at e;omega
 obtain ⟨o,g1,g2,g3⟩:=pos hk h1;obtain ⟨o',g4,g5,g6⟩:=pos hk' h2;rw [g2,g5] at e;subst e;have hlt : k - outs.length < os.length:=(List.getElem?_eq_some_iff.1 g1).1;have hlt' : k' - outs.length < os.length:=(List.getElem?_eq_some_iff.1 g4).1;have:=(List.getElem?_inj hlt h.nodup).1 (g1.trans g4.symm);omega
theorem RF.cell {M : Mem Ty D} {outs : List (Option (Blk Ty D))} {news : List (Blk Ty D)} {os : List Nat} (h : RF M outs news os) {u : Value} {c c' : AV Ty D} (hv : Vc K M u c) (hc : CR outs.length news os c c') : c' ≠ .dd ∧ Vc K (RM M outs news os) u c':=by
 have row : ∀ (id k : Nat),Vc K M u (.sl id none) → k < outs.length + news.length → org outs.length os k = id → Vc K (RM M outs news os) u (.sl k none):=fun id k hv hk ho=>by
  refine ⟨⟨hk,hv.1.2⟩,fun t l ver hb=>?_⟩;obtain ⟨_,b,h1,h2⟩:=h.look hb;rw [ho] at h1;cases b with
  | box cs=>obtain ⟨_,e,_⟩:=h2;simp at e
  | rowb t0 l0 v0 =>
   obtain ⟨_,e⟩:=h2;cases e;show hvc _ (M.γ ⟨org outs.length os k,none⟩) _ _ _;rw [ho];exact hv.2 _ _ _ h1
 rcases hc with ⟨v,rfl,rfl⟩ | ⟨t,l,rfl,rfl⟩ | ⟨id,rfl,rfl,hlt⟩ | ⟨id,i,b,rfl,rfl,h1,h2⟩
 ·exact ⟨by simp,hv⟩
 ·exact ⟨by simp,hv⟩
 ·exact ⟨by simp,row id id hv (by omega) (by unfold org;rw [if_pos hlt])⟩
 exact ⟨by simp,row id _ hv (by have:=(List.getElem?_eq_some_iff.1 h2).1;omega) (org_new h1)⟩
theorem RF.lay {M : Mem Ty D} {outs : List (Option (Blk Ty D))} {news : List (Blk Ty D)} {os : List Nat} (h : RF M outs news os) (hl : Lay K M) : Lay K (RM M outs news os) ∧ ∀ g nm,Own K (hpBack outs news) (RM M outs news os).γ g nm → Own K M.H M.γ g ⟨org outs.length os nm.id,nm.sub⟩:=by
 have own : ∀ g nm,Own K (hpBack outs news) (RM M outs news os).γ g nm → Own K M.H M.γ g ⟨org outs.length os nm.id,nm.sub⟩:=fun g nm ⟨⟨b',hb⟩,hc,o,hg⟩=>by
  obtain ⟨b,h1,_⟩:=h.at hb;exact ⟨⟨b,h1⟩,hc,o,hg⟩
 have live : ∀ g nm,Own K (hpBack outs news) (RM M outs news os).γ g nm → nm.id < outs.length + news.length:=fun g nm ⟨⟨b',hb⟩,_⟩=>by
  obtain ⟨k,sub⟩:=nm;cases hH : hpBack outs news k with
  | none=>rw [blkAt_none hH] at hb;simp at hb
  | some b=>exact (h.look hH).1
 refine ⟨⟨fun nm b' hb=>?_,fun g nm nm' ho ho'=>?_,fun g hg=>hg,fun g hg=>⟨?_,fun nm ho=>?_⟩,fun id b hb=>(h.look hb).1⟩,own⟩
 ·obtain ⟨b,h1,h2⟩:=h.at hb;have hok:=hl.ok _ _ h1;cases b with
  | rowb t l v =>
   obtain ⟨v',rfl⟩:=h2;obtain ⟨g1,g2⟩:=hok;refine ⟨g1,fun hc=>?_⟩;obtain ⟨g,o,arr,e,e1,e2,e3,e4⟩:=g2 hc;refine ⟨g,o,arr,e,e1,e2,e3,fun i x hx j c hj=>?_⟩;obtain ⟨u,hu,hr⟩:=e4 i x hx j c hj;refine ⟨u,hu,?_⟩;cases c <;> first | exact hr | exact hr.elim
  | box cs =>
   obtain ⟨cs',rfl,hlr⟩:=h2;obtain ⟨g1,g,arr,e,e1,e2,e3,e4⟩:=hok;refine ⟨g1,g,arr,e,e1,e2,by rw [e3,hlr.1],fun j c' hj=>?_⟩;have hlt : j < cs.length:=by rw [← hlr.1];exact (List.getElem?_eq_some_iff.1 hj).1
   obtain ⟨_,u,hu,hV⟩:=e4 j _ (List.getElem?_eq_getElem hlt);obtain ⟨g2,g3⟩:=h.cell hV (hlr.2 j _ c' (List.getElem?_eq_getElem hlt) hj);exact ⟨g2,u,hu,g3⟩
 ·have e:=hl.inj g _ _ (own g nm ho) (own g nm' ho');simp only [Nm.mk.injEq] at e;have:=h.inj (live g nm ho) (live g nm' ho') e.1;obtain ⟨k,s⟩:=nm;obtain ⟨k',s'⟩:=nm';simp only at this e;rw [this,e.2]
 ·exact (hl.frz g (hl.one g hg)).1
 exact (hl.frz g (hl.one g hg)).2 _ (own g nm ho)
theorem RF.val {M : Mem Ty D} {outs : List (Option (Blk Ty D))} {news : List (Blk Ty D)} {os : List Nat} (h : RF M outs news os) {u : Value} {v v' : AV Ty D} (hv : V K M u v) (hr : VR outs.length news os v v') : v' ≠ .dd ∧ Va K (RM M outs news os) u v' ∧ V K (RM M outs news os) u v':=by
 rcases hr with hc | ⟨cs,cs',rfl,rfl,hl⟩ | ⟨id,i,b,rfl,rfl,h1,h2⟩
 ·have hv : Vc K M u v:=by
   rcases hc with ⟨v,rfl,rfl⟩ | ⟨t,l,rfl,rfl⟩ | ⟨id,rfl,rfl,hlt⟩ | ⟨id,i,b,rfl,rfl,h1,h2⟩ <;> exact hv
  obtain ⟨g1,g2⟩:=h.cell hv hc;refine ⟨g1,?_⟩;rcases hc with ⟨v,rfl,rfl⟩ | ⟨t,l,rfl,rfl⟩ | ⟨id,rfl,rfl,hlt⟩ | ⟨id,i,b,rfl,rfl,h1,h2⟩ <;> exact ⟨g2,g2⟩
 ·obtain ⟨vs,e,hlen,hc⟩:=hv
  have : Va K (RM M outs news os) u (.ag cs'):=⟨vs,e,by rw [hlen,hl.1],fun j u' c' hu hj=>by
   have hlt : j < cs.length:=by rw [← hl.1];exact (List.getElem?_eq_some_iff.1 hj).1
   exact h.cell (hc j u' _ hu (List.getElem?_eq_getElem hlt)).2 (hl.2 j _ c' (List.getElem?_eq_getElem hlt) hj)⟩
  exact ⟨by simp,this,this⟩
 have hlt:=(List.getElem?_eq_some_iff.1 h2).1;have hv : Vc K M u (.pt id 0 0):=hv;have ho:=org_new (n:=outs.length) h1
 have : Vc K (RM M outs news os) u (.pt (outs.length + i) 0 0):=by
  refine ⟨⟨by show _ < _ + _;omega,hv.1.2⟩,fun cs' hb _=>?_,fun t l ver hb=>?_⟩
  ·obtain ⟨_,b0,g1,g2⟩:=h.look hb;rw [ho] at g1;cases b0 with
   | rowb t l v=>obtain ⟨_,e⟩:=g2;simp at e
   | box cs =>
    obtain ⟨g,a1,a2⟩:=hv.2.1 cs g1 rfl;exact ⟨g,by show (M.γ ⟨org outs.length os (outs.length + i),none⟩).1 = _;rw [ho];exact a1,a2⟩
  obtain ⟨_,b0,g1,g2⟩:=h.look hb;rw [ho] at g1;cases b0 with
  | box cs=>obtain ⟨_,e,_⟩:=g2;simp at e
  | rowb t0 l0 v0 =>
   obtain ⟨_,e⟩:=g2;cases e;obtain ⟨a1,g,o,a2,a3⟩:=hv.2.2 _ _ _ g1;exact ⟨a1,g,o,by show (M.γ ⟨org outs.length os (outs.length + i),none⟩).1 = _;rw [ho];exact a2,a3⟩
 exact ⟨by simp,this,this⟩
theorem finish_ok {w0 : World} {γ0 : Nm → Hdr} {bs : List (Blk Ty D)} {S1 : Nat → Prop} {nt : Nat} {σ : St Ty D} {E : Nat → Prop} {a : Act} {M : Mem Ty D} (hm : Mid K w0 γ0 bs S1 nt σ E a M) (hbs : bs.length ≤ 64) {fn : Func} {out : AV Ty D} {outs : List (Option (Blk Ty D))} {news : List (Blk Ty D)}
  (hr : finish P fn bs.length σ = some (out,outs,news)) :
  ∃ u γ',(results fn a.tmps).run P M.w = .ok u M.w ∧ outs.length = bs.length ∧ Lay K ⟨M.w,fun _=>S1,hpBack outs news,γ',(· < outs.length + news.length)⟩ ∧ out ≠ .dd ∧
   V K ⟨M.w,fun _=>S1,hpBack outs news,γ',(· < outs.length + news.length)⟩ u out ∧
   (∀ g nm,Own K (hpBack outs news) γ' g nm → w0.heap.size ≤ g ∨ ∃ nm',Own K (hpOf bs) γ0 g nm') ∧
   (∀ k b,k < bs.length → hpBack outs news k = some b → γ' ⟨k,none⟩ = γ0 ⟨k,none⟩ ∧ ∃ b0,bs[k]? = some b0 ∧ lenKept b0 b):=by
 unfold finish at hr
 split at hr
 ·simp at hr
 rename_i vs hvs
 split at hr
 ·simp at hr
 rename_i vs' r1 ht
 split at hr
 ·simp at hr
 rename_i outs' r2 hB;simp only [Option.some.injEq,Prod.mk.injEq] at hr;obtain ⟨hout,rfl,rfl⟩:=hr;obtain ⟨us,hus,hlen,hV⟩:=results_ok hm.lay hm.hp hm.env _ _ hvs;rw [← hm.hp] at ht hB;have h0 : RI M.H bs.length (⟨[],[]⟩ : Rt Ty D) []:=⟨rfl,.nil,by simp,by simp⟩;obtain ⟨os1,g1,g2,g3,g4⟩:=retT_ok _ _ h0 ht;obtain ⟨os2,g5,g6,g7,g8⟩:=retB_ok _ _ _ g1 hB;have hrf : RF M outs' r2.news os2:=⟨g5.len,g5.nodup,fun o ho=>by rw [g7];exact (g5.old o ho).1,fun i b' hb=>by rw [g7];exact g5.blk i b' hb,fun j b' hb=>by have:=g8 j b' hb;rw [Nat.zero_add] at this;rw [g7];exact this⟩
 have hRM : (⟨M.w,fun _=>S1,hpBack outs' r2.news,(RM M outs' r2.news os2).γ,(· < outs'.length + r2.news.length)⟩ : Mem Ty D) = RM M outs' r2.news os2:=by
  unfold RM;rw [hm.s1]
 obtain ⟨hlay,hown⟩:=hrf.lay hm.lay
 have hval : ∀ (j : Nat) u v v',us[j]? = some u → vs[j]? = some v → vs'[j]? = some v' → v' ≠ .dd ∧ Va K (RM M outs' r2.news os2) u v' ∧ V K (RM M outs' r2.news os2) u v':=fun j u v v' hu hv hv'=>by
  refine hrf.val (hV j u v hu hv).2 ?_;rw [g7];exact (g4 j v v' hv hv').ext g6
 refine ⟨_,(RM M outs' r2.news os2).γ,results_run hus,g7,by rw [hRM];exact hlay,?_⟩;rw [hRM]
 have tail : (∀ g nm,Own K (hpBack outs' r2.news) (RM M outs' r2.news os2).γ g nm → w0.heap.size ≤ g ∨ ∃ nm',Own K (hpOf bs) γ0 g nm') ∧
   (∀ k b,k < bs.length → hpBack outs' r2.news k = some b → (RM M outs' r2.news os2).γ ⟨k,none⟩ = γ0 ⟨k,none⟩ ∧ ∃ b0,bs[k]? = some b0 ∧ lenKept b0 b):=by
  refine ⟨fun g nm ho=>hm.fresh g _ (hown g nm ho),fun k b' hk hb=>?_⟩;obtain ⟨_,b,h1,h2⟩:=hrf.look hb;have e : org outs'.length os2 k = k:=by unfold org;rw [if_pos (by omega)]
  rw [e] at h1;obtain ⟨_,h3,b0,h4,h5⟩:=hm.passed k b (by omega) h1;refine ⟨by show M.γ ⟨org outs'.length os2 k,none⟩ = _;rw [e];exact h3,b0,h4,h5.trans ?_⟩;cases b with
  | rowb t l v=>obtain ⟨v',rfl⟩:=h2;exact ⟨l,v',rfl,rfl⟩
  | box cs=>obtain ⟨cs',rfl,hlr⟩:=h2;exact ⟨cs',rfl,hlr.1.symm⟩
 have hl' : us.length = vs'.length:=by rw [hlen,g3]
 match us,vs',hl' with
 | [],[],_=>subst hout;exact ⟨by simp,⟨[],rfl,rfl,by simp⟩,tail⟩
 | [u],[v'],_ =>
  subst hout
  obtain ⟨v,hv⟩ : ∃ v,vs[0]? = some v:=by
   match vs,hlen with
   | v :: _,_=>exact ⟨v,rfl⟩
  obtain ⟨k1,_,k2⟩:=hval 0 u v v' rfl hv rfl;exact ⟨k1,k2,tail⟩
 | u1 :: u2 :: us,v1 :: v2 :: vs',hl' =>
  subst hout;refine ⟨by simp,⟨u1 :: u2 :: us,rfl,hl',fun j u v' hu hv'=>?_⟩,tail⟩;have hlt : j < vs.length:=by rw [← hlen];exact (List.getElem?_eq_some_iff.1 hu).1
  obtain ⟨k1,k2,_⟩:=hval j u _ v' hu (List.getElem?_eq_getElem hlt) hv';exact ⟨k1,k2⟩
theorem contract_ok (hk : KitOk P K) (hmix : P.follows .mixedOrders = true) {ctx : Nat → Ctx Ty D} (hc : ∀ k, CtxOk P K (ctx k)) {cuts : Nat → Option (Spec Ty)} {sp : Option (Spec Ty)} {f : FuncId} {fn : Func} {c : Code} (hf : P.funcs[f]? = some fn) (hname : (fn.name == "runtime.NumGoroutine") = false) (hb : fn.body = some c)
  {k : Nat} {ins : List (AV Ty D)} {bs : List (Blk Ty D)} (hbs : bs.length ≤ 64) (hins : ins.length ≤ fn.ntmps) {out : AV Ty D} {outs : List (Option (Blk Ty D))} {news : List (Blk Ty D)} (hr : callK P K ctx cuts sp fn k ins bs = some (out,outs,news)) (hlen : outs.length = bs.length) :
  Contract P K f ins bs out outs news:=by
 unfold callK at hr;rw [hb] at hr;simp only at hr
 have main : ∀ (w : World) (S : Nat → Nat → Prop) (γ : Nm → Hdr) (args : Array Value),Lay K ⟨w,S,hpOf bs,γ,(· < bs.length)⟩ → args.size = ins.length → (∀ (k : Nat) u x,args[k]? = some u → ins[k]? = some x → x ≠ .dd ∧ Va K ⟨w,S,hpOf bs,γ,(· < bs.length)⟩ u x) →
   ∀ (b : Frame) (cs : List Frame),∃ a' M',(Mid K w γ bs (S 1) fn.ntmps (startSt ins bs) (fun _=>False) ⟨args ++ Array.replicate (fn.ntmps - args.size) undef,[]⟩ ⟨w,S,hpOf bs,γ,(· < bs.length)⟩ →
    ∃ σ',finish P fn bs.length σ' = some (out,outs,news) ∧ Mid K w γ bs (S 1) fn.ntmps σ' (fun _=>False) a' M' ∧ ∃ todo',Steps P (lone (b.at ⟨args ++ Array.replicate (fn.ntmps - args.size) undef,[]⟩ [.code c]) cs w) (lone { b.at a' todo' with mode:=.returning } cs M'.w)):=by
  intro w S γ args hl hsz hv b cs
  by_cases hmid : Mid K w γ bs (S 1) fn.ntmps (startSt ins bs) (fun _=>False) ⟨args ++ Array.replicate (fn.ntmps - args.size) undef,[]⟩ ⟨w,S,hpOf bs,γ,(· < bs.length)⟩
  ·obtain ⟨σ',a',M',h1,h2,t,h3⟩:=goK_ok hk hmix hc (b:=b) (cs:=cs) _ _ _ _ _ hr hmid;unfold finSp at h1
   split at h1
   ·exact ⟨a',M',fun _=>⟨σ',h1,h2,t,h3⟩⟩
   obtain ⟨σ2,M2,g1,g2,g3⟩:=canon_ok hk h2 _ h1;exact ⟨a',M2,fun _=>⟨σ2,g1,g2,t,by rw [g3];exact h3⟩⟩
  exact ⟨⟨#[],[]⟩,⟨w,S,hpOf bs,γ,(· < bs.length)⟩,fun h=>absurd h hmid⟩
 have mid : ∀ (w : World) (S : Nat → Nat → Prop) (γ : Nm → Hdr) (args : Array Value),Lay K ⟨w,S,hpOf bs,γ,(· < bs.length)⟩ → args.size = ins.length → (∀ (k : Nat) u x,args[k]? = some u → ins[k]? = some x → x ≠ .dd ∧ Va K ⟨w,S,hpOf bs,γ,(· < bs.length)⟩ u x) →
   Mid K w γ bs (S 1) fn.ntmps (startSt ins bs) (fun _=>False) ⟨args ++ Array.replicate (fn.ntmps - args.size) undef,[]⟩ ⟨w,S,hpOf bs,γ,(· < bs.length)⟩:=by
  intro w S γ args hl hsz hv;refine ⟨Nat.le_refl _,hl,rfl,fun id hB=>.inl ?_,fun t=>?_,by simp;omega,rfl,rfl,⟨rfl,rfl,rfl,Nat.le_refl _,fun _ _ _=>rfl⟩,fun g nm ho=>.inr ⟨nm,ho⟩,fun k b hk' hb=>?_⟩
  ·have hB : id < bs.length:=hB;show id < 1 * 64;omega
  ·show V K _ _ ((ins[t]?).getD .dd);cases hi : ins[t]? with
   | none=>exact trivial
   | some x =>
    have hlt : t < args.size:=by rw [hsz];exact (List.getElem?_eq_some_iff.1 hi).1
    obtain ⟨_,h2⟩:=hv t _ x (Array.getElem?_eq_getElem hlt) hi
    have e : (args ++ Array.replicate (fn.ntmps - args.size) undef).getD t undef = args[t]:=by
     rw [Array.getD_eq_getD_getElem?,Array.getElem?_append_left hlt,Array.getElem?_eq_getElem hlt];rfl
    show V K _ ((args ++ Array.replicate (fn.ntmps - args.size) undef).getD t undef) x;rw [e];cases x <;> first | exact h2 | exact h2.elim
  have hb : bs[k]? = some b:=hb;refine ⟨(List.getElem?_eq_some_iff.1 hb).1,rfl,b,hb,?_⟩;cases b with
  | rowb t l v=>exact ⟨l,v,rfl,rfl⟩
  | box cs=>exact ⟨cs,rfl,rfl⟩
 refine ⟨Go.Proofs.enters_of hf hname hb,hlen,?_⟩;intro w S γ args hl hS hsz hv cs
 let b : Frame:={ (default : Frame) with fn:=f,kind:=.normal }
 have henter : Frame.enter P f args .normal = b.at { tmps:=args ++ Array.replicate (fn.ntmps - args.size) undef,defers:=[] } [.code c]:=by
  simp [Frame.enter,Frame.at,hf,hb,b]
 obtain ⟨a',M',h⟩:=main w S γ args hl hsz hv b cs;obtain ⟨σ',h1,h2,t,h3⟩:=h (mid w S γ args hl hsz hv);obtain ⟨u,γ',k1,k2,k3,k4,k5,k6,k7⟩:=finish_ok h2 hbs h1;rw [← henter] at h3;exact ⟨.returned u,M'.w,_,⟨u,γ',rfl,k3,k4,k5,h2.kept,k6,k7⟩,h3,rfl,rfl,h2.defers,rfl,fn,hf,k1⟩
end
end Go.Proofs.YtbbfkodckpfjcaaGreat.M2

namespace Go.Proofs.YtbbfkodckpfjcaaGreat.PK
set_option linter.unusedVariables false
set_option linter.unusedSimpArgs false
structure S139 where
 f0 : Int
 f1 : ByteArray
def z139 : S139:=⟨0,⟨#[]⟩⟩
def rd_T139 (xs : List S139) (i : Int) : S139:=xs.getD i.toNat z139
structure S91 where
 f0 : Bool
 f1 : Int
 f2 : List S139
def z91 : S91:=⟨false,0,[]⟩
def rd_T91 (xs : List S91) (i : Int) : S91:=xs.getD i.toNat z91
structure S104 where
 f0 : Int
 f1 : Int
def z104 : S104:=⟨0,0⟩
def rd_T104 (xs : List S104) (i : Int) : S104:=xs.getD i.toNat z104
abbrev z3 : Int:=0
def rd_T3 (xs : List Int) (i : Int) : Int:=xs.getD i.toNat z3
structure S119 where
 f0 : Bool
 f1 : List Int
def z119 : S119:=⟨false,[]⟩
def rd_T119 (xs : List S119) (i : Int) : S119:=xs.getD i.toNat z119
structure S80 where
 f0 : Int
 f1 : Int
def z80 : S80:=⟨0,0⟩
def rd_T80 (xs : List S80) (i : Int) : S80:=xs.getD i.toNat z80
structure S128 where
 f0 : Bool
 f1 : List Int
def z128 : S128:=⟨false,[]⟩
def rd_T128 (xs : List S128) (i : Int) : S128:=xs.getD i.toNat z128
structure S71 where
 f0 : Int
 f1 : Int
 f2 : Int
 f3 : Int
 f4 : Int
 f5 : ByteArray
def z71 : S71:=⟨0,0,0,0,0,⟨#[]⟩⟩
def rd_T71 (xs : List S71) (i : Int) : S71:=xs.getD i.toNat z71
structure S75 where
 f0 : Int
 f1 : Int
 f2 : S71
def z75 : S75:=⟨0,0,z71⟩
def rd_T75 (xs : List S75) (i : Int) : S75:=xs.getD i.toNat z75
structure S133 where
 f0 : Int
 f1 : Int
 f2 : ByteArray
def z133 : S133:=⟨0,0,⟨#[]⟩⟩
def rd_T133 (xs : List S133) (i : Int) : S133:=xs.getD i.toNat z133
abbrev z5 : Int:=0
def rd_T5 (xs : List Int) (i : Int) : Int:=xs.getD i.toNat z5
structure S96 where
 f0 : Int
 f1 : ByteArray
def z96 : S96:=⟨0,⟨#[]⟩⟩
def rd_T96 (xs : List S96) (i : Int) : S96:=xs.getD i.toNat z96
structure S68 where
 f0 : Bool
 f1 : Int
 f2 : List S96
def z68 : S68:=⟨false,0,[]⟩
def rd_T68 (xs : List S68) (i : Int) : S68:=xs.getD i.toNat z68
end Go.Proofs.YtbbfkodckpfjcaaGreat.PK
namespace Go.Proofs.YtbbfkodckpfjcaaGreat.M2
open Go Go.Proofs.YtbbfkodckpfjcaaGreat.PK
set_option linter.unusedVariables false
set_option linter.unusedSimpArgs false
inductive Ty where
 | t139 | t91 | t104 | t3 | t119 | t80 | t128 | t71 | t75 | t133 | t5 | t96 | t68
def Ty.code : Ty → Nat
 | .t139=>139
 | .t91=>91
 | .t104=>104
 | .t3=>3
 | .t119=>119
 | .t80=>80
 | .t128=>128
 | .t71=>71
 | .t75=>75
 | .t133=>133
 | .t5=>5
 | .t96=>96
 | .t68=>68
theorem Ty.code_inj {a b : Ty} (h : a.code = b.code) : a = b:=by cases a <;> cases b <;> first | rfl | (exact absurd h (by decide))
def decTy : DecidableEq Ty:=fun a b=>if h : a.code = b.code then .isTrue (Ty.code_inj h) else .isFalse (fun e=>h (e ▸ rfl))
def D : Ty → Type
 | .t139=>S139
 | .t91=>S91
 | .t104=>S104
 | .t3=>Int
 | .t119=>S119
 | .t80=>S80
 | .t128=>S128
 | .t71=>S71
 | .t75=>S75
 | .t133=>S133
 | .t5=>Int
 | .t96=>S96
 | .t68=>S68
def emb : (t : Ty) → D t → List (AV Ty D)
 | .t139,x=>[.sc (.int .i64 (S139.f0 x)),.sc (.string (S139.f1 x))]
 | .t91,x=>[.sc (.bool (S91.f0 x)),.sc (.int .i64 (S91.f1 x)),.row 0 .t139 (S91.f2 x)]
 | .t104,x=>[.sc (.int .i64 (S104.f0 x)),.sc (.int .i64 (S104.f1 x))]
 | .t3,x=>[.sc (.int .i64 x)]
 | .t119,x=>[.sc (.bool (S119.f0 x)),.row 0 .t3 (S119.f1 x)]
 | .t80,x=>[.sc (.int .i64 (S80.f0 x)),.sc (.int .i64 (S80.f1 x))]
 | .t128,x=>[.sc (.bool (S128.f0 x)),.row 0 .t3 (S128.f1 x)]
 | .t71,x=>[.sc (.int .i64 (S71.f0 x)),.sc (.int .i64 (S71.f1 x)),.sc (.int .i64 (S71.f2 x)),.sc (.int .i64 (S71.f3 x)),.sc (.int .i64 (S71.f4 x)),.sc (.string (S71.f5 x))]
 | .t75,x=>[.sc (.int .i64 (S75.f0 x)),.sc (.int .i64 (S75.f1 x)),.sc (.int .i64 (S71.f0 (S75.f2 x))),.sc (.int .i64 (S71.f1 (S75.f2 x))),.sc (.int .i64 (S71.f2 (S75.f2 x))),.sc (.int .i64 (S71.f3 (S75.f2 x))),.sc (.int .i64 (S71.f4 (S75.f2 x))),.sc (.string (S71.f5 (S75.f2 x)))]
 | .t133,x=>[.sc (.int .i64 (S133.f0 x)),.sc (.int .i64 (S133.f1 x)),.sc (.string (S133.f2 x))]
 | .t5,x=>[.sc (.int .u8 x)]
 | .t96,x=>[.sc (.int .i64 (S96.f0 x)),.sc (.string (S96.f1 x))]
 | .t68,x=>[.sc (.bool (S68.f0 x)),.sc (.int .i64 (S68.f1 x)),.row 0 .t96 (S68.f2 x)]
def mk139 : List (AV Ty D) → Option S139
 | [.sc (.int .i64 x0),.sc (.string x1)]=>some (S139.mk x0 x1)
 | _=>none
def mk91 : List (AV Ty D) → Option S91
 | [.sc (.bool x0),.sc (.int .i64 x1),.row 0 .t139 x2]=>some (S91.mk x0 x1 x2)
 | _=>none
def mk104 : List (AV Ty D) → Option S104
 | [.sc (.int .i64 x0),.sc (.int .i64 x1)]=>some (S104.mk x0 x1)
 | _=>none
def mk3 : List (AV Ty D) → Option Int
 | [.sc (.int .i64 x0)]=>some x0
 | _=>none
def mk119 : List (AV Ty D) → Option S119
 | [.sc (.bool x0),.row 0 .t3 x1]=>some (S119.mk x0 x1)
 | _=>none
def mk80 : List (AV Ty D) → Option S80
 | [.sc (.int .i64 x0),.sc (.int .i64 x1)]=>some (S80.mk x0 x1)
 | _=>none
def mk128 : List (AV Ty D) → Option S128
 | [.sc (.bool x0),.row 0 .t3 x1]=>some (S128.mk x0 x1)
 | _=>none
def mk71 : List (AV Ty D) → Option S71
 | [.sc (.int .i64 x0),.sc (.int .i64 x1),.sc (.int .i64 x2),.sc (.int .i64 x3),.sc (.int .i64 x4),.sc (.string x5)]=>some (S71.mk x0 x1 x2 x3 x4 x5)
 | _=>none
def mk75 : List (AV Ty D) → Option S75
 | [.sc (.int .i64 x0),.sc (.int .i64 x1),.sc (.int .i64 x2),.sc (.int .i64 x3),.sc (.int .i64 x4),.sc (.int .i64 x5),.sc (.int .i64 x6),.sc (.string x7)]=>some (S75.mk x0 x1 (S71.mk x2 x3 x4 x5 x6 x7))
 | _=>none
def mk133 : List (AV Ty D) → Option S133
 | [.sc (.int .i64 x0),.sc (.int .i64 x1),.sc (.string x2)]=>some (S133.mk x0 x1 x2)
 | _=>none
def mk5 : List (AV Ty D) → Option Int
 | [.sc (.int .u8 x0)]=>some x0
 | _=>none
def mk96 : List (AV Ty D) → Option S96
 | [.sc (.int .i64 x0),.sc (.string x1)]=>some (S96.mk x0 x1)
 | _=>none
def mk68 : List (AV Ty D) → Option S68
 | [.sc (.bool x0),.sc (.int .i64 x1),.row 0 .t96 x2]=>some (S68.mk x0 x1 x2)
 | _=>none
def mkD : (t : Ty) → List (AV Ty D) → Option (D t)
 | .t139,cs=>mk139 cs
 | .t91,cs=>mk91 cs
 | .t104,cs=>mk104 cs
 | .t3,cs=>mk3 cs
 | .t119,cs=>mk119 cs
 | .t80,cs=>mk80 cs
 | .t128,cs=>mk128 cs
 | .t71,cs=>mk71 cs
 | .t75,cs=>mk75 cs
 | .t133,cs=>mk133 cs
 | .t5,cs=>mk5 cs
 | .t96,cs=>mk96 cs
 | .t68,cs=>mk68 cs
def dflt : (t : Ty) → D t
 | .t139=>z139
 | .t91=>z91
 | .t104=>z104
 | .t3=>z3
 | .t119=>z119
 | .t80=>z80
 | .t128=>z128
 | .t71=>z71
 | .t75=>z75
 | .t133=>z133
 | .t5=>z5
 | .t96=>z96
 | .t68=>z68
def bytesOf (s : ByteArray) : List Int:=s.data.toList.map fun b=>(b.toNat : Int)
theorem bytesOf_ok (z : ByteArray) : (bytesOf z).length = z.size ∧ ∀ (i : Nat) (x : Int),(bytesOf z)[i]? = some x → emb .t5 x = [.sc (.int .u8 (z.data.toList.getD i 0).toNat)]:=by
 refine ⟨by simp [bytesOf],fun i x hx=>?_⟩;simp only [bytesOf,List.getElem?_map,Option.map_eq_some_iff] at hx;obtain ⟨b,hb,rfl⟩:=hx;simp [emb,List.getD,hb]
theorem strId (l : List Int) : strOfNums l = strOfNums (l.map id):=by rw [List.map_id]
instance : Inhabited S75:=⟨z75⟩
def ltK75 (x y : S75) : Bool:=decide (x.f2.f1 < y.f2.f1)
def lsort75 (l : List S75) : List S75:=(Go.Sort.insertionSort ltK75 l.toArray 0 l.length).toList
def lib0 : Lib Ty D:=⟨.t75,lsort75,576460752303423488,none⟩
def kit : Kit Ty D where
 dec:=decTy
 emb:=emb
 mkD:=mkD
 dflt:=dflt
 cells:=fun | .t139=>2 | .t91=>3 | .t104=>2 | .t3=>1 | .t119=>2 | .t80=>2 | .t128=>2 | .t71=>6 | .t75=>8 | .t133=>3 | .t5=>1 | .t96=>2 | .t68=>3
 tid:=fun | .t139=>139 | .t91=>91 | .t104=>104 | .t3=>3 | .t119=>119 | .t80=>80 | .t128=>128 | .t71=>71 | .t75=>75 | .t133=>133 | .t5=>5 | .t96=>96 | .t68=>68
 elem:=fun t=>bif Nat.beq t 22 then some .t91 else bif Nat.beq t 25 then some .t104 else bif Nat.beq t 26 then some .t119 else bif Nat.beq t 36 then some .t68 else bif Nat.beq t 39 then some .t80 else bif Nat.beq t 40 then some .t128 else bif Nat.beq t 53 then some .t75 else bif Nat.beq t 66 then some .t96 else bif Nat.beq t 89 then some .t139 else bif Nat.beq t 108 then some .t133 else bif Nat.beq t 117 then some .t3 else bif Nat.beq t 134 then some .t5 else none
 arr:=fun t=>bif Nat.beq t 145 then some .t3 else none
 flat:=fun | .t139=>true | .t91=>false | .t104=>true | .t3=>true | .t119=>false | .t80=>true | .t128=>false | .t71=>true | .t75=>true | .t133=>true | .t5=>true | .t96=>true | .t68=>false
 str:=fun | .t139=>none | .t91=>none | .t104=>none | .t3=>none | .t119=>none | .t80=>none | .t128=>none | .t71=>none | .t75=>none | .t133=>none | .t5=>some strOfNums | .t96=>none | .t68=>none
 byt:=fun | .t139=>none | .t91=>none | .t104=>none | .t3=>none | .t119=>none | .t80=>none | .t128=>none | .t71=>none | .t75=>none | .t133=>none | .t5=>some bytesOf | .t96=>none | .t68=>none
 pars:=fun f=>bif Nat.beq f 83 then [(false,[none,none]),(false,[none])] else bif Nat.beq f 60 then [(false,[some .t139]),(false,[none])] else bif Nat.beq f 37 then [(false,[none,none,some .t139]),(false,[none])] else bif Nat.beq f 20 then [(false,[some .t91]),(false,[none])] else bif Nat.beq f 9 then [(false,[some .t91]),(false,[none])] else bif Nat.beq f 21 then [(false,[some .t104]),(false,[none])] else bif Nat.beq f 84 then [(false,[some .t3]),(false,[none])] else bif Nat.beq f 61 then [(false,[none,some .t3]),(false,[none])] else bif Nat.beq f 38 then [(false,[some .t119]),(false,[none])] else bif Nat.beq f 22 then [(false,[some .t119]),(false,[none])] else bif Nat.beq f 10 then [(false,[some .t104,some .t119,none]),(false,[none])] else bif Nat.beq f 4 then [(false,[some .t91,some .t104,some .t119,none,none,none,none]),(false,[none])] else bif Nat.beq f 23 then [(false,[some .t80,some .t128,none]),(false,[none])] else bif Nat.beq f 42 then [(false,[none]),(false,[none]),(false,[none])] else bif Nat.beq f 62 then [(false,[some .t128])] else bif Nat.beq f 63 then [(false,[some .t128]),(false,[none])] else bif Nat.beq f 64 then [(false,[some .t128]),(false,[none]),(false,[none])] else bif Nat.beq f 39 then [(false,[some .t128]),(false,[none]),(false,[none])] else bif Nat.beq f 24 then [(false,[some .t80,some .t128,none]),(false,[none]),(false,[none])] else bif Nat.beq f 40 then [(false,[some .t75]),(false,[none])] else bif Nat.beq f 65 then [(false,[none])] else bif Nat.beq f 66 then [(false,[some .t133])] else bif Nat.beq f 99 then [(false,[none]),(false,[none]),(false,[none])] else bif Nat.beq f 85 then [(false,[none])] else bif Nat.beq f 67 then [(false,[none])] else bif Nat.beq f 41 then [(false,[none])] else bif Nat.beq f 25 then [(false,[some .t75]),(false,[none])] else bif Nat.beq f 11 then [(false,[some .t75]),(false,[some .t80,some .t128,none]),(false,[none]),(false,[none])] else bif Nat.beq f 26 then [(false,[some .t68]),(false,[none]),(false,[none])] else bif Nat.beq f 68 then [(false,[none])] else bif Nat.beq f 86 then [(false,[none]),(false,[none])] else bif Nat.beq f 69 then [(false,[none])] else bif Nat.beq f 43 then [(false,[none])] else bif Nat.beq f 74 then [(false,[none])] else bif Nat.beq f 70 then [(false,[none]),(false,[none])] else bif Nat.beq f 44 then [(true,[none,none,none])] else bif Nat.beq f 71 then [(false,[none,none,none,none,none,none])] else bif Nat.beq f 72 then [(false,[none])] else bif Nat.beq f 73 then [(false,[none])] else bif Nat.beq f 45 then [(false,[none,none,none,none,none,none])] else bif Nat.beq f 27 then [(false,[none])] else bif Nat.beq f 12 then [(false,[some .t68])] else bif Nat.beq f 5 then [(false,[some .t68,some .t80,some .t128,none,none,none,none]),(false,[none]),(false,[none])] else bif Nat.beq f 87 then [(false,[none,none])] else bif Nat.beq f 75 then [(false,[some .t139])] else bif Nat.beq f 46 then [(false,[none,none,some .t139])] else bif Nat.beq f 28 then [(false,[some .t91])] else bif Nat.beq f 13 then [(false,[some .t91])] else bif Nat.beq f 47 then [(false,[none,none])] else bif Nat.beq f 29 then [(false,[some .t104])] else bif Nat.beq f 88 then [(false,[some .t3])] else bif Nat.beq f 76 then [(false,[none,some .t3])] else bif Nat.beq f 48 then [(false,[some .t119])] else bif Nat.beq f 30 then [(false,[some .t119])] else bif Nat.beq f 14 then [(false,[some .t104,some .t119,none])] else bif Nat.beq f 6 then [(false,[some .t91,some .t104,some .t119,none,none,none,none])] else bif Nat.beq f 15 then [(false,[some .t80,some .t128,none]),(false,[none])] else bif Nat.beq f 49 then [(false,[none]),(false,[none]),(false,[none])] else bif Nat.beq f 50 then [(false,[some .t128]),(false,[none])] else bif Nat.beq f 51 then [(false,[some .t128])] else bif Nat.beq f 52 then [(false,[some .t128]),(false,[none]),(false,[none])] else bif Nat.beq f 31 then [(false,[some .t128]),(false,[none]),(false,[none])] else bif Nat.beq f 16 then [(false,[some .t80,some .t128,none]),(false,[none]),(false,[none])] else bif Nat.beq f 114 then [(false,[none]),(false,[none])] else bif Nat.beq f 112 then [(false,[none])] else bif Nat.beq f 100 then [(false,[none])] else bif Nat.beq f 89 then [(false,[none])] else bif Nat.beq f 90 then [(false,[none]),(false,[none])] else bif Nat.beq f 91 then [(false,[none,none,none,none,none,none])] else bif Nat.beq f 77 then [(false,[none])] else bif Nat.beq f 53 then [(false,[some .t68])] else bif Nat.beq f 32 then [(false,[some .t68]),(false,[none])] else bif Nat.beq f 54 then [(false,[none])] else bif Nat.beq f 55 then [(false,[some .t133])] else bif Nat.beq f 96 then [(false,[none]),(false,[none])] else bif Nat.beq f 80 then [(false,[none])] else bif Nat.beq f 56 then [(false,[none])] else bif Nat.beq f 33 then [(false,[none])] else bif Nat.beq f 17 then [(false,[some .t68]),(false,[none])] else bif Nat.beq f 7 then [(false,[some .t68,some .t80,some .t128,none,none,none,none]),(false,[none]),(false,[none])] else bif Nat.beq f 97 then [(false,[none,none]),(false,[none,none])] else bif Nat.beq f 81 then [(false,[some .t96]),(false,[some .t96])] else bif Nat.beq f 57 then [(false,[none,none,some .t96]),(false,[none,none,some .t96])] else bif Nat.beq f 34 then [(false,[some .t68]),(false,[some .t68])] else bif Nat.beq f 18 then [(false,[some .t68]),(false,[some .t68])] else bif Nat.beq f 58 then [(false,[none,none]),(false,[none,none])] else bif Nat.beq f 35 then [(false,[some .t80]),(false,[some .t80])] else bif Nat.beq f 98 then [(false,[some .t3]),(false,[some .t3])] else bif Nat.beq f 82 then [(false,[none,some .t3]),(false,[none,some .t3])] else bif Nat.beq f 59 then [(false,[some .t128]),(false,[some .t128])] else bif Nat.beq f 36 then [(false,[some .t128]),(false,[some .t128])] else bif Nat.beq f 19 then [(false,[some .t80,some .t128,none]),(false,[some .t80,some .t128,none])] else bif Nat.beq f 8 then [(false,[some .t68,some .t80,some .t128,none,none,none,none]),(false,[some .t68,some .t80,some .t128,none,none,none,none])] else bif Nat.beq f 3 then [(false,[some .t91,some .t104,some .t119,none,none,none,none]),(false,[none]),(false,[none])] else []
 lib:=fun f g=>bif Nat.beq f 78 && Nat.beq g 79 then some lib0 else none
theorem noRow139_cell (x : S139) (c : AV Ty D) (hc : c ∈ emb .t139 x) : (∃ v,c = .sc v ∧ scalar v = true) ∨ (∃ t2 l2,c = .row 0 t2 l2 ∧ kit.flat t2 = true ∧ kit.flat .t139 = false):=by
 simp only [emb,List.mem_cons,List.not_mem_nil,or_false] at hc;rcases hc with h | h
 ·exact .inl ⟨_,h,rfl⟩
 exact .inl ⟨_,h,rfl⟩
theorem same139 (x y : S139) (j : Nat) (t2 : Ty) (l2 : List (D t2)) (h : (emb .t139 x)[j]? = some (.row 0 t2 l2)) : ∃ l2',(emb .t139 y)[j]? = some (.row 0 t2 l2'):=by
 match j with
 | 0=>cases h
 | 1=>cases h
 | j + 2=>cases h
theorem mkOk139 (cs : List (AV Ty D)) (x : S139) (h : mk139 cs = some x) : emb .t139 x = cs:=by
 unfold mk139 at h;split at h
 ·cases h;rfl
 cases h
theorem noRow91_cell (x : S91) (c : AV Ty D) (hc : c ∈ emb .t91 x) : (∃ v,c = .sc v ∧ scalar v = true) ∨ (∃ t2 l2,c = .row 0 t2 l2 ∧ kit.flat t2 = true ∧ kit.flat .t91 = false):=by
 simp only [emb,List.mem_cons,List.not_mem_nil,or_false] at hc;rcases hc with h | h | h
 ·exact .inl ⟨_,h,rfl⟩
 ·exact .inl ⟨_,h,rfl⟩
 exact .inr ⟨_,_,h,rfl,rfl⟩
theorem same91 (x y : S91) (j : Nat) (t2 : Ty) (l2 : List (D t2)) (h : (emb .t91 x)[j]? = some (.row 0 t2 l2)) : ∃ l2',(emb .t91 y)[j]? = some (.row 0 t2 l2'):=by
 match j with
 | 0=>cases h
 | 1=>cases h
 | 2=>cases h;exact ⟨_,rfl⟩
 | j + 3=>cases h
theorem mkOk91 (cs : List (AV Ty D)) (x : S91) (h : mk91 cs = some x) : emb .t91 x = cs:=by
 unfold mk91 at h;split at h
 ·cases h;rfl
 cases h
theorem noRow104_cell (x : S104) (c : AV Ty D) (hc : c ∈ emb .t104 x) : (∃ v,c = .sc v ∧ scalar v = true) ∨ (∃ t2 l2,c = .row 0 t2 l2 ∧ kit.flat t2 = true ∧ kit.flat .t104 = false):=by
 simp only [emb,List.mem_cons,List.not_mem_nil,or_false] at hc;rcases hc with h | h
 ·exact .inl ⟨_,h,rfl⟩
 exact .inl ⟨_,h,rfl⟩
theorem same104 (x y : S104) (j : Nat) (t2 : Ty) (l2 : List (D t2)) (h : (emb .t104 x)[j]? = some (.row 0 t2 l2)) : ∃ l2',(emb .t104 y)[j]? = some (.row 0 t2 l2'):=by
 match j with
 | 0=>cases h
 | 1=>cases h
 | j + 2=>cases h
theorem mkOk104 (cs : List (AV Ty D)) (x : S104) (h : mk104 cs = some x) : emb .t104 x = cs:=by
 unfold mk104 at h;split at h
 ·cases h;rfl
 cases h
theorem noRow3_cell (x : Int) (c : AV Ty D) (hc : c ∈ emb .t3 x) : (∃ v,c = .sc v ∧ scalar v = true) ∨ (∃ t2 l2,c = .row 0 t2 l2 ∧ kit.flat t2 = true ∧ kit.flat .t3 = false):=by
 simp only [emb,List.mem_cons,List.not_mem_nil,or_false] at hc;have h:=hc;exact .inl ⟨_,h,rfl⟩
theorem same3 (x y : Int) (j : Nat) (t2 : Ty) (l2 : List (D t2)) (h : (emb .t3 x)[j]? = some (.row 0 t2 l2)) : ∃ l2',(emb .t3 y)[j]? = some (.row 0 t2 l2'):=by
 match j with
 | 0=>cases h
 | j + 1=>cases h
theorem mkOk3 (cs : List (AV Ty D)) (x : Int) (h : mk3 cs = some x) : emb .t3 x = cs:=by
 unfold mk3 at h;split at h
 ·cases h;rfl
 cases h
theorem noRow119_cell (x : S119) (c : AV Ty D) (hc : c ∈ emb .t119 x) : (∃ v,c = .sc v ∧ scalar v = true) ∨ (∃ t2 l2,c = .row 0 t2 l2 ∧ kit.flat t2 = true ∧ kit.flat .t119 = false):=by
 simp only [emb,List.mem_cons,List.not_mem_nil,or_false] at hc;rcases hc with h | h
 ·exact .inl ⟨_,h,rfl⟩
 exact .inr ⟨_,_,h,rfl,rfl⟩
theorem same119 (x y : S119) (j : Nat) (t2 : Ty) (l2 : List (D t2)) (h : (emb .t119 x)[j]? = some (.row 0 t2 l2)) : ∃ l2',(emb .t119 y)[j]? = some (.row 0 t2 l2'):=by
 match j with
 | 0=>cases h
 | 1=>cases h;exact ⟨_,rfl⟩
 | j + 2=>cases h
theorem mkOk119 (cs : List (AV Ty D)) (x : S119) (h : mk119 cs = some x) : emb .t119 x = cs:=by
 unfold mk119 at h;split at h
 ·cases h;rfl
 cases h
theorem noRow80_cell (x : S80) (c : AV Ty D) (hc : c ∈ emb .t80 x) : (∃ v,c = .sc v ∧ scalar v = true) ∨ (∃ t2 l2,c = .row 0 t2 l2 ∧ kit.flat t2 = true ∧ kit.flat .t80 = false):=by
 simp only [emb,List.mem_cons,List.not_mem_nil,or_false] at hc;rcases hc with h | h
 ·exact .inl ⟨_,h,rfl⟩
 exact .inl ⟨_,h,rfl⟩
theorem same80 (x y : S80) (j : Nat) (t2 : Ty) (l2 : List (D t2)) (h : (emb .t80 x)[j]? = some (.row 0 t2 l2)) : ∃ l2',(emb .t80 y)[j]? = some (.row 0 t2 l2'):=by
 match j with
 | 0=>cases h
 | 1=>cases h
 | j + 2=>cases h
theorem mkOk80 (cs : List (AV Ty D)) (x : S80) (h : mk80 cs = some x) : emb .t80 x = cs:=by
 unfold mk80 at h;split at h
 ·cases h;rfl
 cases h
theorem noRow128_cell (x : S128) (c : AV Ty D) (hc : c ∈ emb .t128 x) : (∃ v,c = .sc v ∧ scalar v = true) ∨ (∃ t2 l2,c = .row 0 t2 l2 ∧ kit.flat t2 = true ∧ kit.flat .t128 = false):=by
 simp only [emb,List.mem_cons,List.not_mem_nil,or_false] at hc;rcases hc with h | h
 ·exact .inl ⟨_,h,rfl⟩
 exact .inr ⟨_,_,h,rfl,rfl⟩
theorem same128 (x y : S128) (j : Nat) (t2 : Ty) (l2 : List (D t2)) (h : (emb .t128 x)[j]? = some (.row 0 t2 l2)) : ∃ l2',(emb .t128 y)[j]? = some (.row 0 t2 l2'):=by
 match j with
 | 0=>cases h
 | 1=>cases h;exact ⟨_,rfl⟩
 | j + 2=>cases h
theorem mkOk128 (cs : List (AV Ty D)) (x : S128) (h : mk128 cs = some x) : emb .t128 x = cs:=by
 unfold mk128 at h;split at h
 ·cases h;rfl
 cases h
theorem noRow71_cell (x : S71) (c : AV Ty D) (hc : c ∈ emb .t71 x) : (∃ v,c = .sc v ∧ scalar v = true) ∨ (∃ t2 l2,c = .row 0 t2 l2 ∧ kit.flat t2 = true ∧ kit.flat .t71 = false):=by
 simp only [emb,List.mem_cons,List.not_mem_nil,or_false] at hc;rcases hc with h | h | h | h | h | h
 ·exact .inl ⟨_,h,rfl⟩
 ·exact .inl ⟨_,h,rfl⟩
 ·exact .inl ⟨_,h,rfl⟩
 ·exact .inl ⟨_,h,rfl⟩
 ·exact .inl ⟨_,h,rfl⟩
 exact .inl ⟨_,h,rfl⟩
theorem same71 (x y : S71) (j : Nat) (t2 : Ty) (l2 : List (D t2)) (h : (emb .t71 x)[j]? = some (.row 0 t2 l2)) : ∃ l2',(emb .t71 y)[j]? = some (.row 0 t2 l2'):=by
 match j with
 | 0=>cases h
 | 1=>cases h
 | 2=>cases h
 | 3=>cases h
 | 4=>cases h
 | 5=>cases h
 | j + 6=>cases h
theorem mkOk71 (cs : List (AV Ty D)) (x : S71) (h : mk71 cs = some x) : emb .t71 x = cs:=by
 unfold mk71 at h;split at h
 ·cases h;rfl
 cases h
theorem noRow75_cell (x : S75) (c : AV Ty D) (hc : c ∈ emb .t75 x) : (∃ v,c = .sc v ∧ scalar v = true) ∨ (∃ t2 l2,c = .row 0 t2 l2 ∧ kit.flat t2 = true ∧ kit.flat .t75 = false):=by
 simp only [emb,List.mem_cons,List.not_mem_nil,or_false] at hc;rcases hc with h | h | h | h | h | h | h | h
 ·exact .inl ⟨_,h,rfl⟩
 ·exact .inl ⟨_,h,rfl⟩
 ·exact .inl ⟨_,h,rfl⟩
 ·exact .inl ⟨_,h,rfl⟩
 ·exact .inl ⟨_,h,rfl⟩
 ·exact .inl ⟨_,h,rfl⟩
 ·exact .inl ⟨_,h,rfl⟩
 exact .inl ⟨_,h,rfl⟩
theorem same75 (x y : S75) (j : Nat) (t2 : Ty) (l2 : List (D t2)) (h : (emb .t75 x)[j]? = some (.row 0 t2 l2)) : ∃ l2',(emb .t75 y)[j]? = some (.row 0 t2 l2'):=by
 match j with
 | 0=>cases h
 | 1=>cases h
 | 2=>cases h
 | 3=>cases h
 | 4=>cases h
 | 5=>cases h
 | 6=>cases h
 | 7=>cases h
 | j + 8=>cases h
theorem mkOk75 (cs : List (AV Ty D)) (x : S75) (h : mk75 cs = some x) : emb .t75 x = cs:=by
 unfold mk75 at h;split at h
 ·cases h;rfl
 cases h
theorem noRow133_cell (x : S133) (c : AV Ty D) (hc : c ∈ emb .t133 x) : (∃ v,c = .sc v ∧ scalar v = true) ∨ (∃ t2 l2,c = .row 0 t2 l2 ∧ kit.flat t2 = true ∧ kit.flat .t133 = false):=by
 simp only [emb,List.mem_cons,List.not_mem_nil,or_false] at hc;rcases hc with h | h | h
 ·exact .inl ⟨_,h,rfl⟩
 ·exact .inl ⟨_,h,rfl⟩
 exact .inl ⟨_,h,rfl⟩
theorem same133 (x y : S133) (j : Nat) (t2 : Ty) (l2 : List (D t2)) (h : (emb .t133 x)[j]? = some (.row 0 t2 l2)) : ∃ l2',(emb .t133 y)[j]? = some (.row 0 t2 l2'):=by
 match j with
 | 0=>cases h
 | 1=>cases h
 | 2=>cases h
 | j + 3=>cases h
theorem mkOk133 (cs : List (AV Ty D)) (x : S133) (h : mk133 cs = some x) : emb .t133 x = cs:=by
 unfold mk133 at h;split at h
 ·cases h;rfl
 cases h
theorem noRow5_cell (x : Int) (c : AV Ty D) (hc : c ∈ emb .t5 x) : (∃ v,c = .sc v ∧ scalar v = true) ∨ (∃ t2 l2,c = .row 0 t2 l2 ∧ kit.flat t2 = true ∧ kit.flat .t5 = false):=by
 simp only [emb,List.mem_cons,List.not_mem_nil,or_false] at hc;have h:=hc;exact .inl ⟨_,h,rfl⟩
theorem same5 (x y : Int) (j : Nat) (t2 : Ty) (l2 : List (D t2)) (h : (emb .t5 x)[j]? = some (.row 0 t2 l2)) : ∃ l2',(emb .t5 y)[j]? = some (.row 0 t2 l2'):=by
 match j with
 | 0=>cases h
 | j + 1=>cases h
theorem mkOk5 (cs : List (AV Ty D)) (x : Int) (h : mk5 cs = some x) : emb .t5 x = cs:=by
 unfold mk5 at h;split at h
 ·cases h;rfl
 cases h
theorem noRow96_cell (x : S96) (c : AV Ty D) (hc : c ∈ emb .t96 x) : (∃ v,c = .sc v ∧ scalar v = true) ∨ (∃ t2 l2,c = .row 0 t2 l2 ∧ kit.flat t2 = true ∧ kit.flat .t96 = false):=by
 simp only [emb,List.mem_cons,List.not_mem_nil,or_false] at hc;rcases hc with h | h
 ·exact .inl ⟨_,h,rfl⟩
 exact .inl ⟨_,h,rfl⟩
theorem same96 (x y : S96) (j : Nat) (t2 : Ty) (l2 : List (D t2)) (h : (emb .t96 x)[j]? = some (.row 0 t2 l2)) : ∃ l2',(emb .t96 y)[j]? = some (.row 0 t2 l2'):=by
 match j with
 | 0=>cases h
 | 1=>cases h
 | j + 2=>cases h
theorem mkOk96 (cs : List (AV Ty D)) (x : S96) (h : mk96 cs = some x) : emb .t96 x = cs:=by
 unfold mk96 at h;split at h
 ·cases h;rfl
 cases h
theorem noRow68_cell (x : S68) (c : AV Ty D) (hc : c ∈ emb .t68 x) : (∃ v,c = .sc v ∧ scalar v = true) ∨ (∃ t2 l2,c = .row 0 t2 l2 ∧ kit.flat t2 = true ∧ kit.flat .t68 = false):=by
 simp only [emb,List.mem_cons,List.not_mem_nil,or_false] at hc;rcases hc with h | h | h
 ·exact .inl ⟨_,h,rfl⟩
 ·exact .inl ⟨_,h,rfl⟩
 exact .inr ⟨_,_,h,rfl,rfl⟩
theorem same68 (x y : S68) (j : Nat) (t2 : Ty) (l2 : List (D t2)) (h : (emb .t68 x)[j]? = some (.row 0 t2 l2)) : ∃ l2',(emb .t68 y)[j]? = some (.row 0 t2 l2'):=by
 match j with
 | 0=>cases h
 | 1=>cases h
 | 2=>cases h;exact ⟨_,rfl⟩
 | j + 3=>cases h
theorem mkOk68 (cs : List (AV Ty D)) (x : S68) (h : mk68 cs = some x) : emb .t68 x = cs:=by
 unfold mk68 at h;split at h
 ·cases h;rfl
 cases h
end Go.Proofs.YtbbfkodckpfjcaaGreat.M2

namespace Go.Proofs.YtbbfkodckpfjcaaGreat.St
open Go Go.Proofs Go.Shelf Go.RowKit Go.Lib Go.Sort
variable {P : Program} {ρ : Ren} {α : Type} [Inhabited α]
theorem skOn (enc : α → List Value) (k : Nat) (w : World) (blk off n m : Nat) (dk dk' : Array α) (os os' : Array Obj) (hblk : blk < w.heap.size) (h : dk'.size = dk.size) :
  sortWorldK enc k (sortWorldK enc k w blk off n dk os) blk off m dk' os' = sortWorldK enc k w blk off (n + m) dk' (os ++ os'):=sortWorld_on id w blk off n m _ _ os os' hblk (by simp [h])
theorem skStart (enc : α → List Value) (k : Nat) (w : World) (blk off : Nat) (d : Array α) (h : HoldsK enc k w blk off d) : sortWorldK enc k w blk off 0 d #[] = w:=sortWorld_start id w blk off _ h
theorem skHolds (enc : α → List Value) (k : Nat) (w : World) (blk off n : Nat) (d0 dk : Array α) (os : Array Obj) (hblk : blk < w.heap.size) (h0 : HoldsK enc k w blk off d0) (h : dk.size = d0.size) : HoldsK enc k (sortWorldK enc k w blk off n dk os) blk off dk :=
 holds_sortWorld id w blk off n _ _ os hblk h0 (by simp [h])
theorem skLt (enc : α → List Value) (k : Nat) (w : World) (blk off n : Nat) (dk : Array α) (os : Array Obj) (hblk : blk < w.heap.size) : blk < (sortWorldK enc k w blk off n dk os).heap.size:=lt_sortWorld id w blk off n _ os hblk
theorem skAlloc (enc : α → List Value) (k : Nat) (w : World) (o : Obj) (blk off n : Nat) (dk : Array α) (os : Array Obj) (hblk : blk < w.heap.size) (d : Array α) (h : HoldsK enc k w blk off d) (hs : dk.size = d.size) :
  sortWorldK enc k (w.alloc o) blk off n dk os = sortWorldK enc k w blk off n dk (#[o] ++ os):=by
 have e : w.alloc o = sortWorldK enc k w blk off 0 d #[o]:=by
  unfold sortWorldK;rw [alloc_eq_grow]
  congr 1
  exact (putRowK_self enc k w blk off d h).symm
 rw [e,skOn enc k w blk off 0 n d dk _ _ hblk hs,Nat.zero_add]
theorem skDrewN (enc : α → List Value) (k : Nat) (w : World) (blk off n q : Nat) (dk : Array α) (os : Array Obj) : (sortWorldK enc k w blk off n dk os).drewN q = sortWorldK enc k w blk off (n + q) dk os:=by
 unfold sortWorldK;rw [← putRowK_drewN enc k w n q blk off dk];rfl
theorem skLess {g : Nat} {lb : Array Value} {enc : α → List Value} {k : Nat} {lt : α → α → Bool} {blk off size : Nat} {w : World} (h : LessReadsK P g lb enc k lt blk off size w) (hblk : blk < w.heap.size) (n : Nat) (dk : Array α) (os : Array Obj) (hs : dk.size = size) :
  LessReadsK P g lb enc k lt blk off size (sortWorldK enc k w blk off n dk os):=fun m os' dk' hs' i j hi hj=>by
 rw [skOn enc k w blk off n m dk dk' os os' hblk (hs'.trans hs.symm)];exact h _ _ dk' hs' i j hi hj
theorem skCell (enc : α → List Value) (k : Nat) (w : World) (blk off n : Nat) (dk : Array α) (os : Array Obj) (b c : Nat) (hb : b < w.heap.size) (hne : b ≠ blk) : (sortWorldK enc k w blk off n dk os).cell? ⟨b,c,none⟩ = w.cell? ⟨b,c,none⟩:=by
 unfold sortWorldK;rw [cell?_grow _ _ _ (by show b < (putRow id _ _ _ _).heap.size;rw [size_putRow];exact hb),cell?_putRowK_other enc k _ blk off dk _ hne];rfl
theorem skSwap (enc : α → List Value) (k : Nat) (hk : ∀ x,(enc x).length = k) (w : World) (blk off n : Nat) (d : Array α) (os : Array Obj) (hblk : blk < w.heap.size) (i j : Nat) (hi : i < d.size) (hj : j < d.size) :
  (((sortWorldK enc k w blk off n d os).setCells blk (off + i * k) (enc d[j]!)).setCells blk (off + j * k) (enc d[i]!)) = sortWorldK enc k w blk off n (swp d i j) os:=by
 have e : ∀ dk : Array α,sortWorldK enc k w blk off n dk os = putRowK enc k (Sort.ahead (grow w os) n) blk off dk:=fun dk=>by
  unfold sortWorldK;rw [ahead_grow,putRowK_grow enc k (Sort.ahead w n) _ blk off _ hblk]
 rw [e,e];exact swap_worldK enc k hk _ n 0 blk off d i j hi hj
def swapN (a b : Nat) : Nat → Array α → Array α
 | 0,d=>d
 | n + 1,d=>swp (swapN a b n d) (a + n) (b + n)
theorem size_swapN (a b : Nat) : ∀ (n : Nat) (d : Array α),(swapN a b n d).size = d.size
 | 0,d=>rfl
 | n + 1,d=>by rw [swapN,size_swp,size_swapN a b n d]
set_option maxHeartbeats 1600000 in
set_option maxRecDepth 1000000 in
theorem swapRange (L : LaysGt.n49 P ρ) (enc : α → List Value) (k : Nat) (hk : ∀ x,(enc x).length = k) (lf : Fn) (la lb : Array Value) (sf : Nat) (sb : Array Value) (blk off a b n : Nat) (d : Array α) (w : World)
  (hswap : SwapSwapsK P sf sb enc k blk off d.size) (hH : HoldsK enc k w blk off d) (hblk : blk < w.heap.size) (ha : a + n ≤ d.size) (hb : b + n ≤ d.size) (hsz : d.size < 4611686018427387904) :
  Calls P (ρ.f 49) #[.agg #[.func lf la lb,.func (.func sf) #[] sb],.int .i64 a,.int .i64 b,.int .i64 n] w fun e w'=>e = .returned (.tuple #[]) ∧ ∃ q os,w' = sortWorldK enc k w blk off q (swapN a b n d) os:=by
 have mixed:=L.mixed;have t0:=L.t0;have a0:=L.a0;have z0:=L.z0;have v0:=L.v0;have t3:=L.t3;have a3:=L.a3;have z3:=L.z3;have v3:=L.v3;have t4:=L.t4;have a4:=L.a4;have z4:=L.z4;have v4:=L.v4;have t26:=L.t26;have a26:=L.a26;have z26:=L.z26;have v26:=L.v26;have t38:=L.t38;have a38:=L.a38;have z38:=L.z38;have v38:=L.v38;have t42:=L.t42;have a42:=L.a42;have z42:=L.z42;have v42:=L.v42;have u42:=run_underlying L.t42;have hH1 : HoldsK enc k (w.alloc (.cells #[.func lf la lb,.func (.func sf) #[] sb] (ρ.t 42))) blk off d:=by rw [alloc_eq_grow];exact holdsK_grow enc k w _ blk off d hblk hH
 have hb1 : blk < (w.alloc (.cells #[.func lf la lb,.func (.func sf) #[] sb] (ρ.t 42))).heap.size:=by rw [alloc_eq_grow,size_grow];omega
 go_enter L.f49,BodyGt.n49_ntmps ρ
 go_wp2
 go_loopg [8] n (fun kk s8 wr=>∃ (i m : Nat),s8 = .int .i64 i ∧ i ≤ n ∧ n - i ≤ kk ∧ wr = sortWorldK enc k (w.alloc (.cells #[.func lf la lb,.func (.func sf) #[] sb] (ρ.t 42))) blk off m (swapN a b i d) #[]);case atStart=>exact ⟨0,0,rfl,by omega,by omega,(skStart enc k _ blk off d hH1).symm⟩
 case round =>
  obtain ⟨i,m,rfl,hin,hkk,hwr⟩:=hrel;have hds : (swapN a b i d).size = d.size:=size_swapN a b i d
  by_cases hlt : i < n
  ·have hHk : HoldsK enc k wr blk off (swapN a b i d):=by rw [hwr];exact skHolds enc k _ blk off m d _ _ hb1 hH1 hds
   have c1 : wr.cell? ⟨w.heap.size,1,none⟩ = some (.func (.func sf) #[] sb):=by
    rw [hwr,skCell enc k _ blk off m _ _ _ _ (by simp) (by omega)];simp
   have hs:=hswap wr _ hHk hds (a + i) (b + i) (by omega) (by omega);rw [Int.natCast_add,Int.natCast_add] at hs;have A : Aside (wr = sortWorldK enc k (w.alloc (.cells #[.func lf la lb,.func (.func sf) #[] sb] (ρ.t 42))) blk off m (swapN a b i d) #[]):=hwr;clear hwr hHk hH hH1 hswap
   go_wp2
   go_roundg (n - (i + 1));case measure=>omega
   case rel =>
    exact ⟨i + 1,m,by simp,by omega,Nat.le_refl _,by rw [A.out,skSwap enc k hk _ blk off m _ _ hb1 _ _ (by omega) (by omega)];rfl⟩
  have hi : i = n:=by omega
  subst hi;have A : Aside (∃ q os,wr = sortWorldK enc k w blk off q (swapN a b i d) os):=⟨m,_,hwr.trans (skAlloc enc k w _ blk off m _ #[] hblk d hH hds)⟩;clear hwr hH hH1 hswap
  go_wp2
  go_end0
  exact ⟨rfl,A.out⟩
end Go.Proofs.YtbbfkodckpfjcaaGreat.St

namespace Go.Proofs.YtbbfkodckpfjcaaGreat.St
open Go Go.Proofs Go.Shelf Go.RowKit Go.Lib Go.Sort
variable {P : Program} {ρ : Ren} {α : Type} [Inhabited α]
theorem at_list {d : Array α} {A B : List α} {x : α} (h : d.toList = A ++ x :: B) {i : Nat} (hi : i = A.length) : d[i]! = x:=by
 have hs : d.size = A.length + (B.length + 1):=by rw [← Array.length_toList,h];simp
 rw [getElem!_pos d i (by omega),← Array.getElem_toList];subst hi;simp [h]
theorem swp_list {d : Array α} {A B C : List α} {x y : α} (h : d.toList = A ++ x :: (B ++ y :: C)) {i j : Nat} (hi : i = A.length) (hj : j = A.length + 1 + B.length) : (swp d i j).toList = A ++ y :: (B ++ x :: C):=by
 have e1 : d[i]! = x:=at_list h hi;have e2 : d[j]! = y:=at_list (A:=A ++ x :: B) (B:=C) (by rw [h];simp) (by rw [hj];simp;omega);unfold swp;rw [e1,e2,Array.toList_setIfInBounds,Array.toList_setIfInBounds,h,List.set_append_right _ _ (by omega)];subst hi hj;rw [Nat.sub_self,List.set_cons_zero,List.set_append_right _ _ (by omega),show A.length + 1 + B.length - A.length = B.length + 1 by omega,List.set_cons_succ,List.set_append_right _ _ (by omega),Nat.sub_self,List.set_cons_zero]
theorem swapN_list : ∀ (n : Nat) (d : Array α) (A X M Y Q : List α),d.toList = A ++ (X ++ (M ++ (Y ++ Q))) → X.length = n → Y.length = n → ∀ a b,a = A.length → b = A.length + n + M.length → (swapN a b n d).toList = A ++ (Y ++ (M ++ (X ++ Q)))
 | 0,d,A,X,M,Y,Q,h,hx,hy,a,b,ha,hb=>by
  obtain rfl:=List.length_eq_zero_iff.1 hx;obtain rfl:=List.length_eq_zero_iff.1 hy;exact h
 | n + 1,d,A,X,M,Y,Q,h,hx,hy,a,b,ha,hb=>by
  obtain ⟨X',x,rfl⟩ : ∃ X' x,X = X' ++ [x]:=⟨X.dropLast,X.getLast (by intro e;subst e;simp at hx),(List.dropLast_concat_getLast _).symm⟩;obtain ⟨Y',y,rfl⟩ : ∃ X' x,Y = X' ++ [x]:=⟨Y.dropLast,Y.getLast (by intro e;subst e;simp at hy),(List.dropLast_concat_getLast _).symm⟩;rw [List.length_append,List.length_singleton] at hx hy;have ih:=swapN_list n d A X' (x :: M) Y' (y :: Q) (by rw [h];simp) (by omega) (by omega) a b ha (by rw [hb,List.length_cons];omega);rw [swapN,swp_list (A:=A ++ Y') (B:=M ++ X') (C:=Q) (x:=x) (y:=y) (by rw [ih];simp) (by rw [ha,List.length_append];omega) (by rw [hb,List.length_append,List.length_append];omega)];simp
set_option maxHeartbeats 1600000 in
set_option maxRecDepth 1000000 in
theorem rotate (L : LaysGt.n42 P ρ) (enc : α → List Value) (k : Nat) (hk : ∀ x,(enc x).length = k) (lf : Fn) (la lb : Array Value) (sf : Nat) (sb : Array Value) (blk off a m b : Nat) (d : Array α) (w : World) (A X Y Q : List α)
  (hswap : SwapSwapsK P sf sb enc k blk off d.size) (hH : HoldsK enc k w blk off d) (hblk : blk < w.heap.size) (hsz : d.size < 4611686018427387904)
  (hd : d.toList = A ++ (X ++ (Y ++ Q))) (ha : A.length = a) (hm : a + X.length = m) (hb : m + Y.length = b) (hX : 0 < X.length) (hY : 0 < Y.length) :
  Calls P (ρ.f 42) #[.agg #[.func lf la lb,.func (.func sf) #[] sb],.int .i64 a,.int .i64 m,.int .i64 b] w fun e w'=>e = .returned (.tuple #[]) ∧ ∃ q os dk,w' = sortWorldK enc k w blk off q dk os ∧ dk.toList = A ++ (Y ++ (X ++ Q)):=by
 have mixed:=L.mixed;have t0:=L.t0;have a0:=L.a0;have z0:=L.z0;have v0:=L.v0;have t3:=L.t3;have a3:=L.a3;have z3:=L.z3;have v3:=L.v3;have t4:=L.t4;have a4:=L.a4;have z4:=L.z4;have v4:=L.v4;have t26:=L.t26;have a26:=L.a26;have z26:=L.z26;have v26:=L.v26;have t38:=L.t38;have a38:=L.a38;have z38:=L.z38;have v38:=L.v38;have t42:=L.t42;have a42:=L.a42;have z42:=L.z42;have v42:=L.v42;have u42:=run_underlying L.t42;have e49 : ∀ args w,(callFunc (ρ.f 49) args).run P w = .ok (.enter (ρ.f 49) args) w:=enters_of L.f49 (by kernel_rfl) rfl;have LS : LaysGt.n49 P ρ:={ L with };have hH1 : HoldsK enc k (w.alloc (.cells #[.func lf la lb,.func (.func sf) #[] sb] (ρ.t 42))) blk off d:=by rw [alloc_eq_grow];exact holdsK_grow enc k w _ blk off d hblk hH
 have hb1 : blk < (w.alloc (.cells #[.func lf la lb,.func (.func sf) #[] sb] (ρ.t 42))).heap.size:=by rw [alloc_eq_grow,size_grow];omega
 have hds : A.length + (X.length + (Y.length + Q.length)) = d.size:=by rw [← Array.length_toList,hd];simp
 go_enter L.f42,BodyGt.n42_ntmps ρ
 go_wp2
 go_loopg [8,9] (X.length + Y.length) (fun kk s8 s9 wr=>∃ (i j q : Nat) (os : Array Obj) (dk : Array α) (A1 X1 Y1 Q1 : List α),s8 = .int .i64 i ∧ s9 = .int .i64 j ∧ 0 < i ∧ 0 < j ∧ i + j ≤ kk ∧ wr = sortWorldK enc k (w.alloc (.cells #[.func lf la lb,.func (.func sf) #[] sb] (ρ.t 42))) blk off q dk os ∧
  dk.toList = A1 ++ (X1 ++ (Y1 ++ Q1)) ∧ A1.length + i = m ∧ X1.length = i ∧ Y1.length = j ∧ A1 ++ (Y1 ++ (X1 ++ Q1)) = A ++ (Y ++ (X ++ Q)))
 case atStart=>exact ⟨X.length,Y.length,0,#[],d,A,X,Y,Q,by congr 1;omega,by congr 1;omega,hX,hY,Nat.le_refl _,(skStart enc k _ blk off d hH1).symm,hd,by omega,rfl,rfl,rfl⟩
 case round =>
  obtain ⟨i,j,q,os,dk,A1,X1,Y1,Q1,rfl,rfl,hi,hj,hkk,hwr,hdk,hA1,hX1,hY1,hT⟩:=hrel
  have hss : dk.size = d.size:=by
   have e1 : dk.size = A1.length + (X1.length + (Y1.length + Q1.length)):=by rw [← Array.length_toList,hdk];simp
   have e2:=congrArg List.length hT;simp at e2;omega
  have hsk : A1.length + (X1.length + (Y1.length + Q1.length)) = dk.size:=by rw [← Array.length_toList,hdk];simp
  have hHk : HoldsK enc k wr blk off dk:=by rw [hwr];exact skHolds enc k _ blk off q d _ _ hb1 hH1 hss
  have hbk : blk < wr.heap.size:=by rw [hwr];exact skLt enc k _ blk off q _ _ hb1
  have c0 : wr.cell? ⟨w.heap.size,0,none⟩ = some (.func lf la lb):=by
   rw [hwr,skCell enc k _ blk off q _ _ _ _ (by simp) (by omega)];simp
  have c1 : wr.cell? ⟨w.heap.size,1,none⟩ = some (.func (.func sf) #[] sb):=by
   rw [hwr,skCell enc k _ blk off q _ _ _ _ (by simp) (by omega)];simp
  by_cases h1 : i = j
  ·subst h1;have hc:=swapRange LS enc k hk lf la lb sf sb blk off (m - i) m i dk wr (by rw [hss];exact hswap) hHk hbk (by omega) (by omega) (by omega);rw [show (((m - i : Nat)) : Int) = (m : Int) - i by omega] at hc;have hl:=swapN_list i dk A1 X1 [] Y1 Q1 hdk hX1 hY1 (m - i) m (by omega) (by simp;omega)
   have F : Aside (wr = sortWorldK enc k w blk off q dk (#[.cells #[.func lf la lb,.func (.func sf) #[] sb] (ρ.t 42)] ++ os) ∧ (swapN (m - i) m i dk).toList = A ++ (Y ++ (X ++ Q)) ∧ (swapN (m - i) m i dk).size = dk.size) :=
    ⟨hwr.trans (skAlloc enc k w _ blk off q dk os hblk d hH hss),by rw [hl,← hT];rfl,size_swapN _ _ _ _⟩
   clear hwr hHk hbk hT hl hdk hH hH1 hswap hd
   go_wp2
   go_wp2_with (go_at_fn (ρ.f 49);refine hc.mono ?_;rintro e w1 ⟨rfl,q',os',rfl⟩)
   go_end0
   exact ⟨rfl,q + q',_,_,by rw [F.out.1];exact skOn enc k w blk off q q' dk _ _ os' hblk F.out.2.2,F.out.2.1⟩
  by_cases h2 : j < i
  ·have hc:=swapRange LS enc k hk lf la lb sf sb blk off (m - i) m j dk wr (by rw [hss];exact hswap) hHk hbk (by omega) (by omega) (by omega);rw [show (((m - i : Nat)) : Int) = (m : Int) - i by omega] at hc;have hl:=swapN_list j dk A1 (X1.take j) (X1.drop j) Y1 Q1 (by rw [hdk,← List.append_assoc (X1.take j),List.take_append_drop]) (by rw [List.length_take];omega) hY1 (m - i) m (by omega) (by rw [List.length_drop];omega)
   have F : Aside (wr = sortWorldK enc k (w.alloc (.cells #[.func lf la lb,.func (.func sf) #[] sb] (ρ.t 42))) blk off q dk os ∧ (swapN (m - i) m j dk).size = dk.size ∧ (swapN (m - i) m j dk).toList = (A1 ++ Y1) ++ (X1.drop j ++ (X1.take j ++ Q1)) ∧ (A1 ++ Y1) ++ (X1.take j ++ (X1.drop j ++ Q1)) = A ++ (Y ++ (X ++ Q))) :=
    ⟨hwr,size_swapN _ _ _ _,by rw [hl];simp,by rw [← hT,List.append_assoc,← List.append_assoc (X1.take j),List.take_append_drop]⟩
   clear hwr hHk hbk hT hl hdk hH hH1 hswap hd
   go_wp2
   go_wp2_with (go_at_fn (ρ.f 49);refine hc.mono ?_;rintro e w1 ⟨rfl,q',os',rfl⟩);go_roundg (i - j + j);case measure=>omega
   case rel =>
    exact ⟨i - j,j,q + q',os ++ os',swapN (m - i) m j dk,A1 ++ Y1,X1.drop j,X1.take j,Q1,by congr 1;omega,rfl,by omega,hj,Nat.le_refl _,by rw [F.out.1];exact skOn enc k _ blk off q q' dk _ _ os' hb1 F.out.2.1,F.out.2.2.1,by rw [List.length_append];omega,by rw [List.length_drop];omega,by rw [List.length_take];omega,F.out.2.2.2⟩
  have hc:=swapRange LS enc k hk lf la lb sf sb blk off (m - i) (m + j - i) i dk wr (by rw [hss];exact hswap) hHk hbk (by omega) (by omega) (by omega);rw [show (((m - i : Nat)) : Int) = (m : Int) - i by omega,show (((m + j - i : Nat)) : Int) = (m : Int) + j - i by omega] at hc;have hl:=swapN_list i dk A1 X1 (Y1.take (j - i)) (Y1.drop (j - i)) Q1 (by rw [hdk,← List.append_assoc (Y1.take _),List.take_append_drop]) hX1 (by rw [List.length_drop];omega) (m - i) (m + j - i) (by omega) (by rw [List.length_take];omega)
  have F : Aside (wr = sortWorldK enc k (w.alloc (.cells #[.func lf la lb,.func (.func sf) #[] sb] (ρ.t 42))) blk off q dk os ∧ (swapN (m - i) (m + j - i) i dk).size = dk.size ∧ (swapN (m - i) (m + j - i) i dk).toList = A1 ++ (Y1.drop (j - i) ++ (Y1.take (j - i) ++ (X1 ++ Q1))) ∧ A1 ++ (Y1.take (j - i) ++ (Y1.drop (j - i) ++ (X1 ++ Q1))) = A ++ (Y ++ (X ++ Q))) :=
   ⟨hwr,size_swapN _ _ _ _,hl,by rw [← hT,← List.append_assoc (Y1.take _),List.take_append_drop]⟩
  clear hwr hHk hbk hT hl hdk hH hH1 hswap hd
  go_wp2
  go_wp2_with (go_at_fn (ρ.f 49);refine hc.mono ?_;rintro e w1 ⟨rfl,q',os',rfl⟩);go_roundg (i + (j - i));case measure=>omega
  case rel =>
   exact ⟨i,j - i,q + q',os ++ os',swapN (m - i) (m + j - i) i dk,A1,Y1.drop (j - i),Y1.take (j - i),X1 ++ Q1,rfl,by congr 1;omega,hi,by omega,Nat.le_refl _,by rw [F.out.1];exact skOn enc k _ blk off q q' dk _ _ os' hb1 F.out.2.1,F.out.2.2.1,hA1,by rw [List.length_drop];omega,by rw [List.length_take];omega,F.out.2.2.2⟩
end Go.Proofs.YtbbfkodckpfjcaaGreat.St

namespace Go.Proofs.YtbbfkodckpfjcaaGreat.St
open Go Go.Proofs Go.Shelf Go.RowKit Go.Lib Go.Sort
variable {P : Program} {ρ : Ren} {α : Type} [Inhabited α]
omit [Inhabited α] in
theorem take_next {Y : List α} {t : Nat} (h : t < Y.length) : Y.take (t + 1) = Y.take t ++ [Y[t]]:=by
 rw [List.take_add_one,List.getElem?_eq_getElem h];rfl
theorem mid_swap {d : Array α} {A Y Q : List α} {x : α} {t : Nat} (h : d.toList = A ++ (Y.take t ++ x :: (Y.drop t ++ Q))) (ht : t < Y.length) {i : Nat} (hi : i = A.length + t) : (swp d i (i + 1)).toList = A ++ (Y.take (t + 1) ++ x :: (Y.drop (t + 1) ++ Q)):=by
 rw [swp_list (A:=A ++ Y.take t) (B:=[]) (C:=Y.drop (t + 1) ++ Q) (x:=x) (y:=Y[t]) (by rw [h,List.drop_eq_getElem_cons ht,List.append_assoc];rfl) (by rw [List.length_append,List.length_take];omega) (by rw [List.length_append,List.length_take];simp;omega),take_next ht,List.append_assoc,List.append_assoc];rfl
set_option maxHeartbeats 4000000 in
set_option maxRecDepth 1000000 in
theorem symOne (L : LaysGt.n30 P ρ) (enc : α → List Value) (k : Nat) (hk : ∀ x,(enc x).length = k) (lt : α → α → Bool) (g : Nat) (lb : Array Value) (sf : Nat) (sb : Array Value) (blk off a m b : Nat) (d : Array α) (w : World) (A Y Q : List α) (x : α)
  (eg : ∀ args w,(callFunc g args).run P w = .ok (.enter g args) w) (hless : LessReadsK P g lb enc k lt blk off d.size w) (hswap : SwapSwapsK P sf sb enc k blk off d.size) (hH : HoldsK enc k w blk off d) (hblk : blk < w.heap.size) (hsz : d.size < 4611686018427387904)
  (hd : d.toList = A ++ (x :: (Y ++ Q))) (ha : A.length = a) (hm : a + 1 = m) (hb : m + Y.length = b) :
  Calls P (ρ.f 30) #[.agg #[.func (.func g) #[] lb,.func (.func sf) #[] sb],.int .i64 a,.int .i64 m,.int .i64 b] w fun e w'=>e = .returned (.tuple #[]) ∧ ∃ q os dk t,w' = sortWorldK enc k w blk off q dk os ∧ t ≤ Y.length ∧
   (t = 0 ∨ lt d[m + t - 1]! d[a]! = true) ∧ (t = Y.length ∨ lt d[m + t]! d[a]! = false) ∧ dk.toList = A ++ (Y.take t ++ x :: (Y.drop t ++ Q)):=by
 have mixed:=L.mixed;have t0:=L.t0;have a0:=L.a0;have z0:=L.z0;have v0:=L.v0;have t3:=L.t3;have a3:=L.a3;have z3:=L.z3;have v3:=L.v3;have t4:=L.t4;have a4:=L.a4;have z4:=L.z4;have v4:=L.v4;have t26:=L.t26;have a26:=L.a26;have z26:=L.z26;have v26:=L.v26;have t38:=L.t38;have a38:=L.a38;have z38:=L.z38;have v38:=L.v38;have t42:=L.t42;have a42:=L.a42;have z42:=L.z42;have v42:=L.v42;have t47:=L.t47;have a47:=L.a47;have z47:=L.z47;have v47:=L.v47;have u42:=run_underlying L.t42;have hH1 : HoldsK enc k (w.alloc (.cells #[.func (.func g) #[] lb,.func (.func sf) #[] sb] (ρ.t 42))) blk off d:=by rw [alloc_eq_grow];exact holdsK_grow enc k w _ blk off d hblk hH
 have hb1 : blk < (w.alloc (.cells #[.func (.func g) #[] lb,.func (.func sf) #[] sb] (ρ.t 42))).heap.size:=by rw [alloc_eq_grow,size_grow];omega
 have hds : A.length + (1 + (Y.length + Q.length)) = d.size:=by rw [← Array.length_toList,hd];simp;omega
 go_enter L.f30,BodyGt.n30_ntmps ρ
 go_wp2
 rw [show ((m : Int) - (a : Int) == 1) = true by simp;omega]
 go_loopg [8,9] (b - m) (fun kk s8 s9 wr=>∃ (i j q : Nat) (os : Array Obj),s8 = .int .i64 i ∧ s9 = .int .i64 j ∧ m ≤ i ∧ i ≤ j ∧ j ≤ b ∧ j - i ≤ kk ∧ wr = sortWorldK enc k (w.alloc (.cells #[.func (.func g) #[] lb,.func (.func sf) #[] sb] (ρ.t 42))) blk off q d os ∧
  (i = m ∨ lt d[i - 1]! d[a]! = true) ∧ (j = b ∨ lt d[j]! d[a]! = false))
 case atStart=>exact ⟨m,b,0,#[],by first | rfl | (congr 1;omega),by first | rfl | (congr 1;omega),Nat.le_refl _,by omega,Nat.le_refl _,Nat.le_refl _,(skStart enc k _ blk off d hH1).symm,.inl rfl,.inl rfl⟩
 case round =>
  obtain ⟨i,j,q,os,rfl,rfl,hi,hij,hj,hkk,hwr,hil,hjl⟩:=hrel
  have c0 : wr.cell? ⟨w.heap.size,0,none⟩ = some (.func (.func g) #[] lb):=by
   rw [hwr,skCell enc k _ blk off q _ _ _ _ (by simp) (by omega)];simp
  by_cases hlt : i < j
  ·obtain ⟨h,hh⟩ : ∃ h,h = (i + j) / 2:=⟨_,rfl⟩;have hls:=skLess (by rw [alloc_eq_grow];exact hless.grow hblk _ : LessReadsK P g lb enc k lt blk off d.size (w.alloc (.cells #[.func (.func g) #[] lb,.func (.func sf) #[] sb] (ρ.t 42)))) hb1 q d os rfl 0 #[] d rfl h a (by omega) (by omega);rw [skStart enc k _ blk off d (skHolds enc k _ blk off q d d os hb1 hH1 rfl),← hwr,show ((h : Nat) : Int) = ((i : Int) + (j : Int)) / 2 by omega] at hls;have F : Aside (wr = sortWorldK enc k (w.alloc (.cells #[.func (.func g) #[] lb,.func (.func sf) #[] sb] (ρ.t 42))) blk off q d os ∧ (i = m ∨ lt d[i - 1]! d[a]! = true) ∧ (j = b ∨ lt d[j]! d[a]! = false)):=⟨hwr,hil,hjl⟩;clear hwr hil hjl hH hH1 hswap hless;cases hlv : lt d[h]! d[a]! with
   | true =>
    rw [hlv] at hls;go_wp2_with (go_at_fn g;refine hls.mono ?_;rintro e w' ⟨rfl,q',rfl⟩);go_roundg (j - (h + 1));case measure=>omega
    case rel=>exact ⟨h + 1,j,q + q',os,by congr 1;omega,rfl,by omega,by omega,hj,Nat.le_refl _,by rw [F.out.1,skDrewN],.inr hlv,F.out.2.2⟩
   | false =>
    rw [hlv] at hls;go_wp2_with (go_at_fn g;refine hls.mono ?_;rintro e w' ⟨rfl,q',rfl⟩);go_roundg (h - i);case measure=>omega
    case rel=>exact ⟨i,h,q + q',os,rfl,by congr 1;omega,hi,by omega,by omega,Nat.le_refl _,by rw [F.out.1,skDrewN],F.out.2.1,.inr hlv⟩
  have hij2 : i = j:=by omega
  subst hij2;have F : Aside (wr = sortWorldK enc k (w.alloc (.cells #[.func (.func g) #[] lb,.func (.func sf) #[] sb] (ρ.t 42))) blk off q d os ∧ (i = m ∨ lt d[i - 1]! d[a]! = true) ∧ (i = b ∨ lt d[i]! d[a]! = false)):=⟨hwr,hil,hjl⟩;clear hwr hil hjl hless
  go_wp2
  go_loopg [11] (i - m) (fun kk s11 wr2=>∃ (t q2 : Nat) (os2 : Array Obj) (dk : Array α),s11 = .int .i64 (a + t : Nat) ∧ m + t ≤ i ∧ i - (m + t) ≤ kk ∧ wr2 = sortWorldK enc k (w.alloc (.cells #[.func (.func g) #[] lb,.func (.func sf) #[] sb] (ρ.t 42))) blk off q2 dk os2 ∧
   dk.toList = A ++ (Y.take t ++ x :: (Y.drop t ++ Q)))
  case atStart=>exact ⟨0,q,os,d,rfl,by omega,Nat.le_refl _,F.out.1,by simpa using hd⟩
  case round =>
   obtain ⟨t,q2,os2,dk,rfl,ht,hkk2,hwr,hdk⟩:=hrel
   have hss : dk.size = d.size:=by
    have e1 : dk.size = A.length + (Y.length + 1 + Q.length):=by rw [← Array.length_toList,hdk];simp;omega
    omega
   by_cases hlt2 : m + t < i
   ·have hYt : t < Y.length:=by omega
    have hHk : HoldsK enc k wr blk off dk:=by rw [hwr];exact skHolds enc k _ blk off q2 d _ _ hb1 hH1 hss
    have c1 : wr.cell? ⟨w.heap.size,1,none⟩ = some (.func (.func sf) #[] sb):=by
     rw [hwr,skCell enc k _ blk off q2 _ _ _ _ (by simp) (by omega)];simp
    have hs:=hswap wr dk hHk hss (a + t) (a + t + 1) (by omega) (by omega);have hsw:=mid_swap hdk hYt (i:=a + t) (by omega);have G : Aside (wr = sortWorldK enc k (w.alloc (.cells #[.func (.func g) #[] lb,.func (.func sf) #[] sb] (ρ.t 42))) blk off q2 dk os2 ∧ (swp dk (a + t) (a + t + 1)).toList = A ++ (Y.take (t + 1) ++ x :: (Y.drop (t + 1) ++ Q)) ∧ a + t < dk.size ∧ a + t + 1 < dk.size):=⟨hwr,hsw,by omega,by omega⟩;clear hwr hdk hHk hsw hswap hH hH1 hd;rw [Int.natCast_add,Int.natCast_add,Int.natCast_add] at hs;simp only [Int.cast_ofNat_Int] at hs
    go_wp2
    go_roundg (i - (m + (t + 1)));case measure=>omega
    case rel=>exact ⟨t + 1,q2,os2,swp dk (a + t) (a + t + 1),by congr 1,by omega,Nat.le_refl _,by rw [G.out.1,skSwap enc k hk _ blk off q2 dk os2 hb1 _ _ G.out.2.2.1 G.out.2.2.2],G.out.2.1⟩
   have G : Aside (∃ q os dk t,wr = sortWorldK enc k w blk off q dk os ∧ t ≤ Y.length ∧ (t = 0 ∨ lt d[m + t - 1]! d[a]! = true) ∧ (t = Y.length ∨ lt d[m + t]! d[a]! = false) ∧ dk.toList = A ++ (Y.take t ++ x :: (Y.drop t ++ Q))):=by
    obtain ⟨f1,f2,f3⟩:=F.out;obtain rfl : i = m + t:=by omega
    exact ⟨q2,_,dk,t,hwr.trans (skAlloc enc k w _ blk off q2 dk os2 hblk d hH hss),by omega,by rcases f2 with h | h;exact .inl (by omega);exact .inr h,by rcases f3 with h | h;exact .inl (by omega);exact .inr h,hdk⟩
   clear hwr hdk hswap hH hH1 hd
   go_wp2
   (try simp only [Exit.inBlock,Exit.then])
   refine bodyPost_ret (results_none rfl _ _ _) rfl ?_;exact ⟨rfl,G.out⟩
end Go.Proofs.YtbbfkodckpfjcaaGreat.St

namespace Go.Proofs.YtbbfkodckpfjcaaGreat.St
open Go Go.Proofs Go.Shelf Go.RowKit Go.Lib Go.Sort
variable {P : Program} {ρ : Ren} {α : Type} [Inhabited α]
theorem swp_comm (d : Array α) (i j : Nat) : swp d i j = swp d j i:=by
 unfold swp
 by_cases h : i = j
 ·rw [h]
 apply Array.toList_inj.1;rw [Array.toList_setIfInBounds,Array.toList_setIfInBounds,Array.toList_setIfInBounds,Array.toList_setIfInBounds,List.set_comm _ _ h]
theorem mid_swapL {d : Array α} {A Y Q : List α} {x : α} {t : Nat} (h : d.toList = A ++ (Y.take (t + 1) ++ x :: (Y.drop (t + 1) ++ Q))) (ht : t < Y.length) {i : Nat} (hi : i = A.length + t) : (swp d (i + 1) i).toList = A ++ (Y.take t ++ x :: (Y.drop t ++ Q)):=by
 rw [swp_comm,swp_list (A:=A ++ Y.take t) (B:=[]) (C:=Y.drop (t + 1) ++ Q) (x:=Y[t]) (y:=x) (by rw [h,take_next ht,List.append_assoc,List.append_assoc];rfl) (by rw [List.length_append,List.length_take];omega) (by rw [List.length_append,List.length_take];simp;omega),List.append_assoc,List.drop_eq_getElem_cons ht];rfl
set_option maxHeartbeats 4000000 in
set_option maxRecDepth 1000000 in
theorem symLast (L : LaysGt.n30 P ρ) (enc : α → List Value) (k : Nat) (hk : ∀ x,(enc x).length = k) (lt : α → α → Bool) (g : Nat) (lb : Array Value) (sf : Nat) (sb : Array Value) (blk off a m b : Nat) (d : Array α) (w : World) (A Y Q : List α) (x : α)
  (eg : ∀ args w,(callFunc g args).run P w = .ok (.enter g args) w) (hless : LessReadsK P g lb enc k lt blk off d.size w) (hswap : SwapSwapsK P sf sb enc k blk off d.size) (hH : HoldsK enc k w blk off d) (hblk : blk < w.heap.size) (hsz : d.size < 4611686018427387904)
  (hd : d.toList = A ++ (Y ++ x :: Q)) (ha : A.length = a) (hY : 2 ≤ Y.length) (hm : a + Y.length = m) (hb : m + 1 = b) :
  Calls P (ρ.f 30) #[.agg #[.func (.func g) #[] lb,.func (.func sf) #[] sb],.int .i64 a,.int .i64 m,.int .i64 b] w fun e w'=>e = .returned (.tuple #[]) ∧ ∃ q os dk t,w' = sortWorldK enc k w blk off q dk os ∧ t ≤ Y.length ∧
   (t = 0 ∨ lt d[m]! d[a + t - 1]! = false) ∧ (t = Y.length ∨ lt d[m]! d[a + t]! = true) ∧ dk.toList = A ++ (Y.take t ++ x :: (Y.drop t ++ Q)):=by
 have mixed:=L.mixed;have t0:=L.t0;have a0:=L.a0;have z0:=L.z0;have v0:=L.v0;have t3:=L.t3;have a3:=L.a3;have z3:=L.z3;have v3:=L.v3;have t4:=L.t4;have a4:=L.a4;have z4:=L.z4;have v4:=L.v4;have t26:=L.t26;have a26:=L.a26;have z26:=L.z26;have v26:=L.v26;have t38:=L.t38;have a38:=L.a38;have z38:=L.z38;have v38:=L.v38;have t42:=L.t42;have a42:=L.a42;have z42:=L.z42;have v42:=L.v42;have t47:=L.t47;have a47:=L.a47;have z47:=L.z47;have v47:=L.v47;have u42:=run_underlying L.t42;have hH1 : HoldsK enc k (w.alloc (.cells #[.func (.func g) #[] lb,.func (.func sf) #[] sb] (ρ.t 42))) blk off d:=by rw [alloc_eq_grow];exact holdsK_grow enc k w _ blk off d hblk hH
 have hb1 : blk < (w.alloc (.cells #[.func (.func g) #[] lb,.func (.func sf) #[] sb] (ρ.t 42))).heap.size:=by rw [alloc_eq_grow,size_grow];omega
 have hds : A.length + (1 + (Y.length + Q.length)) = d.size:=by rw [← Array.length_toList,hd];simp;omega
 go_enter L.f30,BodyGt.n30_ntmps ρ
 go_wp2
 rw [show ((m : Int) - (a : Int) == 1) = false by simp;omega,show ((b : Int) - (m : Int) == 1) = true by simp;omega]
 go_loopg [12,13] (m - a) (fun kk s8 s9 wr=>∃ (i j q : Nat) (os : Array Obj),s8 = .int .i64 i ∧ s9 = .int .i64 j ∧ a ≤ i ∧ i ≤ j ∧ j ≤ m ∧ j - i ≤ kk ∧ wr = sortWorldK enc k (w.alloc (.cells #[.func (.func g) #[] lb,.func (.func sf) #[] sb] (ρ.t 42))) blk off q d os ∧
  (i = a ∨ lt d[m]! d[i - 1]! = false) ∧ (j = m ∨ lt d[m]! d[j]! = true))
 case atStart=>exact ⟨a,m,0,#[],by first | rfl | (congr 1;omega),by first | rfl | (congr 1;omega),Nat.le_refl _,by omega,Nat.le_refl _,Nat.le_refl _,(skStart enc k _ blk off d hH1).symm,.inl rfl,.inl rfl⟩
 case round =>
  obtain ⟨i,j,q,os,rfl,rfl,hi,hij,hj,hkk,hwr,hil,hjl⟩:=hrel
  have c0 : wr.cell? ⟨w.heap.size,0,none⟩ = some (.func (.func g) #[] lb):=by
   rw [hwr,skCell enc k _ blk off q _ _ _ _ (by simp) (by omega)];simp
  by_cases hlt : i < j
  ·obtain ⟨h,hh⟩ : ∃ h,h = (i + j) / 2:=⟨_,rfl⟩;have hls:=skLess (by rw [alloc_eq_grow];exact hless.grow hblk _ : LessReadsK P g lb enc k lt blk off d.size (w.alloc (.cells #[.func (.func g) #[] lb,.func (.func sf) #[] sb] (ρ.t 42)))) hb1 q d os rfl 0 #[] d rfl m h (by omega) (by omega);rw [skStart enc k _ blk off d (skHolds enc k _ blk off q d d os hb1 hH1 rfl),← hwr,show ((h : Nat) : Int) = ((i : Int) + (j : Int)) / 2 by omega] at hls;have F : Aside (wr = sortWorldK enc k (w.alloc (.cells #[.func (.func g) #[] lb,.func (.func sf) #[] sb] (ρ.t 42))) blk off q d os ∧ (i = a ∨ lt d[m]! d[i - 1]! = false) ∧ (j = m ∨ lt d[m]! d[j]! = true)):=⟨hwr,hil,hjl⟩;clear hwr hil hjl hH hH1 hswap hless;cases hlv : lt d[m]! d[h]! with
   | false =>
    rw [hlv] at hls;go_wp2_with (go_at_fn g;refine hls.mono ?_;rintro e w' ⟨rfl,q',rfl⟩);go_roundg (j - (h + 1));case measure=>omega
    case rel=>exact ⟨h + 1,j,q + q',os,by congr 1;omega,rfl,by omega,by omega,hj,Nat.le_refl _,by rw [F.out.1,skDrewN],.inr hlv,F.out.2.2⟩
   | true =>
    rw [hlv] at hls;go_wp2_with (go_at_fn g;refine hls.mono ?_;rintro e w' ⟨rfl,q',rfl⟩);go_roundg (h - i);case measure=>omega
    case rel=>exact ⟨i,h,q + q',os,rfl,by congr 1;omega,hi,by omega,by omega,Nat.le_refl _,by rw [F.out.1,skDrewN],F.out.2.1,.inr hlv⟩
  have hij2 : i = j:=by omega
  subst hij2;have F : Aside (wr = sortWorldK enc k (w.alloc (.cells #[.func (.func g) #[] lb,.func (.func sf) #[] sb] (ρ.t 42))) blk off q d os ∧ (i = a ∨ lt d[m]! d[i - 1]! = false) ∧ (i = m ∨ lt d[m]! d[i]! = true)):=⟨hwr,hil,hjl⟩;clear hwr hil hjl hless
  go_wp2
  go_loopg [15] (m - i) (fun kk s11 wr2=>∃ (t q2 : Nat) (os2 : Array Obj) (dk : Array α),s11 = .int .i64 (a + t : Nat) ∧ i ≤ a + t ∧ t ≤ Y.length ∧ a + t - i ≤ kk ∧ wr2 = sortWorldK enc k (w.alloc (.cells #[.func (.func g) #[] lb,.func (.func sf) #[] sb] (ρ.t 42))) blk off q2 dk os2 ∧
   dk.toList = A ++ (Y.take t ++ x :: (Y.drop t ++ Q)))
  case atStart=>exact ⟨Y.length,q,os,d,by congr 1;omega,by omega,Nat.le_refl _,by omega,F.out.1,by simpa using hd⟩
  case round =>
   obtain ⟨t,q2,os2,dk,rfl,ht,htY,hkk2,hwr,hdk⟩:=hrel
   have hss : dk.size = d.size:=by
    have e1 : dk.size = A.length + (Y.length + 1 + Q.length):=by rw [← Array.length_toList,hdk];simp;omega
    omega
   by_cases hlt2 : i < a + t
   ·obtain ⟨u,rfl⟩ : ∃ u,t = u + 1:=⟨t - 1,by omega⟩;have hHk : HoldsK enc k wr blk off dk:=by rw [hwr];exact skHolds enc k _ blk off q2 d _ _ hb1 hH1 hss
    have c1 : wr.cell? ⟨w.heap.size,1,none⟩ = some (.func (.func sf) #[] sb):=by
     rw [hwr,skCell enc k _ blk off q2 _ _ _ _ (by simp) (by omega)];simp
    have hs:=hswap wr dk hHk hss (a + u + 1) (a + u) (by omega) (by omega);have hsw:=mid_swapL hdk (by omega) (i:=a + u) (by omega);have G : Aside (wr = sortWorldK enc k (w.alloc (.cells #[.func (.func g) #[] lb,.func (.func sf) #[] sb] (ρ.t 42))) blk off q2 dk os2 ∧ (swp dk (a + u + 1) (a + u)).toList = A ++ (Y.take u ++ x :: (Y.drop u ++ Q)) ∧ a + u < dk.size ∧ a + u + 1 < dk.size):=⟨hwr,hsw,by omega,by omega⟩;clear hwr hdk hHk hsw hswap hH hH1 hd;rw [show ((a + u + 1 : Nat) : Int) = (a : Int) + ((u : Int) + 1) by omega,show ((a + u : Nat) : Int) = (a : Int) + ((u : Int) + 1) - 1 by omega] at hs
    go_wp2
    go_roundg (a + u - i);case measure=>omega
    case rel=>exact ⟨u,q2,os2,swp dk (a + u + 1) (a + u),by congr 1;omega,by omega,by omega,Nat.le_refl _,by rw [G.out.1,skSwap enc k hk _ blk off q2 dk os2 hb1 _ _ G.out.2.2.2 G.out.2.2.1],G.out.2.1⟩
   have G : Aside (∃ q os dk t,wr = sortWorldK enc k w blk off q dk os ∧ t ≤ Y.length ∧ (t = 0 ∨ lt d[m]! d[a + t - 1]! = false) ∧ (t = Y.length ∨ lt d[m]! d[a + t]! = true) ∧ dk.toList = A ++ (Y.take t ++ x :: (Y.drop t ++ Q))):=by
    obtain ⟨f1,f2,f3⟩:=F.out;obtain rfl : i = a + t:=by omega
    exact ⟨q2,_,dk,t,hwr.trans (skAlloc enc k w _ blk off q2 dk os2 hblk d hH hss),by omega,by rcases f2 with h | h;exact .inl (by omega);exact .inr h,by rcases f3 with h | h;exact .inl (by omega);exact .inr h,hdk⟩
   clear hwr hdk hswap hH hH1 hd
   go_wp2
   (try simp only [Exit.inBlock,Exit.then])
   refine bodyPost_ret (results_none rfl _ _ _) rfl ?_;exact ⟨rfl,G.out⟩
end Go.Proofs.YtbbfkodckpfjcaaGreat.St

namespace Go.Proofs.YtbbfkodckpfjcaaGreat.St
open Go Go.Sort
set_option linter.unusedVariables false
variable {α : Type} {lt : α → α → Bool}
def insR (lt : α → α → Bool) (x : α) : List α → List α
 | []=>[x]
 | e :: l=>if lt x e = true then e :: insR lt x l else x :: e :: l
def ins (lt : α → α → Bool) (x : α) (l : List α) : List α:=(insR lt x l.reverse).reverse
def mrg (lt : α → α → Bool) (X Y : List α) : List α:=Y.foldl (fun l y=>ins lt y l) X
def isort (lt : α → α → Bool) (l : List α) : List α:=mrg lt [] l
def Asc (lt : α → α → Bool) (l : List α) : Prop:=l.Pairwise fun a b=>lt b a = false
theorem insR_over (x : α) (B : List α) : ∀ A : List α,(∀ e ∈ A,lt x e = true) → insR lt x (A ++ B) = A ++ insR lt x B
 | [],_=>rfl
 | e :: A,h=>by
  rw [List.cons_append,insR,if_pos (h e (by simp)),insR_over x B A (fun e he=>h e (by simp [he])),List.cons_append]
theorem insR_ahead (x : α) (W : List α) (hW : ∀ e ∈ W,lt x e = false) : ∀ Z : List α,insR lt x (Z ++ W) = insR lt x Z ++ W
 | []=>by
  cases W with
  | nil=>rfl
  | cons e W=>rw [List.nil_append];simp [insR,hW e (by simp)]
 | e :: Z=>by
  rw [List.cons_append,insR,insR]
  split
  ·rw [insR_ahead x W hW Z,List.cons_append]
  rfl
theorem ins_over {x : α} {A B : List α} (h : ∀ e ∈ B,lt x e = true) : ins lt x (A ++ B) = ins lt x A ++ B:=by
 unfold ins;rw [List.reverse_append,insR_over x _ _ (fun e he=>h e (by simpa using he))];simp
theorem ins_ahead {x : α} {W Z : List α} (h : ∀ e ∈ W,lt x e = false) : ins lt x (W ++ Z) = W ++ ins lt x Z:=by
 unfold ins;rw [List.reverse_append,insR_ahead x _ (fun e he=>h e (by simpa using he))];simp
theorem ins_end {x : α} {W : List α} (h : ∀ e ∈ W,lt x e = false) : ins lt x W = W ++ [x]:=by
 have:=ins_ahead (Z:=[]) h
 rwa [List.append_nil] at this
theorem insR_comm (hS : SWO lt) {x y : α} (h : lt y x = true) : ∀ l : List α,insR lt y (insR lt x l) = insR lt x (insR lt y l)
 | []=>by
  have hx : lt x y = false:=by
   cases hc : lt x y with
   | false=>rfl
   | true=>have:=hS.trans _ _ _ h hc;rw [hS.irrefl] at this;cases this
  simp [insR,h,hx]
 | e :: l=>by
  have hx : lt x y = false:=by
   cases hc : lt x y with
   | false=>rfl
   | true=>have:=hS.trans _ _ _ h hc;rw [hS.irrefl] at this;cases this
  cases h1 : lt x e with
  | true =>
   have h2:=hS.trans _ _ _ h h1;simp [insR,h1,h2,insR_comm hS h l]
  | false =>
   cases h2 : lt y e with
   | true=>simp [insR,h1,h2,h]
   | false=>simp [insR,h1,h2,h,hx]
theorem ins_comm (hS : SWO lt) {x y : α} (h : lt y x = true) (l : List α) : ins lt y (ins lt x l) = ins lt x (ins lt y l):=by
 simp [ins,insR_comm hS h]
theorem mrg_nil (X : List α) : mrg lt X [] = X:=rfl
theorem mrg_append (X Y Z : List α) : mrg lt X (Y ++ Z) = mrg lt (mrg lt X Y) Z:=by simp [mrg,List.foldl_append]
theorem mrg_cons (X Y : List α) (y : α) : mrg lt X (y :: Y) = mrg lt (ins lt y X) Y:=rfl
theorem mrg_comm (hS : SWO lt) (y : α) : ∀ (Z X : List α),(∀ e ∈ Z,lt y e = true) → mrg lt (ins lt y X) Z = ins lt y (mrg lt X Z)
 | [],_,_=>rfl
 | e :: Z,X,h=>by
  rw [mrg_cons,mrg_cons,← mrg_comm hS y Z _ (fun e he=>h e (by simp [he])),ins_comm hS (h e (by simp))]
theorem insR_split (x : α) : ∀ l : List α,∃ A B,l = A ++ B ∧ insR lt x l = A ++ x :: B ∧ ∀ e ∈ A,lt x e = true
 | []=>⟨[],[],rfl,rfl,by simp⟩
 | e :: l=>by
  cases h : lt x e with
  | true =>
   obtain ⟨A,B,h1,h2,h3⟩:=insR_split x l;exact ⟨e :: A,B,by rw [h1];rfl,by rw [insR,if_pos h,h2];rfl,by simpa using ⟨h,h3⟩⟩
  | false=>exact ⟨[],e :: l,rfl,by rw [insR,if_neg (by simp [h])];rfl,by simp⟩
theorem ins_split (x : α) (l : List α) : ∃ A B,l = A ++ B ∧ ins lt x l = A ++ x :: B ∧ ∀ e ∈ B,lt x e = true:=by
 obtain ⟨A,B,h1,h2,h3⟩:=insR_split (lt:=lt) x l.reverse;refine ⟨B.reverse,A.reverse,?_,?_,by simpa using h3⟩
 ·rw [← List.reverse_append,← h1,List.reverse_reverse]
 unfold ins;rw [h2];simp
theorem mrg_ins (hS : SWO lt) (X Z : List α) (y : α) : mrg lt X (ins lt y Z) = ins lt y (mrg lt X Z):=by
 obtain ⟨A,B,h1,h2,h3⟩:=ins_split (lt:=lt) y Z;rw [h2,mrg_append,mrg_cons,mrg_comm hS y B _ h3,h1,mrg_append]
theorem mrg_mrg (hS : SWO lt) : ∀ (Y X Z : List α),mrg lt X (mrg lt Z Y) = mrg lt (mrg lt X Z) Y
 | [],_,_=>rfl
 | y :: Y,X,Z=>by rw [mrg_cons,mrg_mrg hS Y,mrg_ins hS,mrg_cons]
theorem isort_append (hS : SWO lt) (X Y : List α) : isort lt (X ++ Y) = mrg lt (isort lt X) (isort lt Y):=by
 unfold isort;rw [mrg_append,mrg_mrg hS,mrg_nil]
theorem mem_ins {x e : α} {l : List α} : e ∈ ins lt x l ↔ e = x ∨ e ∈ l:=by
 obtain ⟨A,B,h1,h2,h3⟩:=ins_split (lt:=lt) x l;rw [h2,h1];simp only [List.mem_append,List.mem_cons];constructor
 ·rintro (h | h | h) <;> simp [h]
 rintro (h | h | h) <;> simp [h]
theorem mem_mrg {e : α} : ∀ {Y X : List α},e ∈ mrg lt X Y ↔ e ∈ X ∨ e ∈ Y
 | [],X=>by simp [mrg_nil]
 | y :: Y,X=>by rw [mrg_cons,mem_mrg,mem_ins,List.mem_cons,or_assoc,or_left_comm,← or_assoc]
theorem len_ins (x : α) (l : List α) : (ins lt x l).length = l.length + 1:=by
 obtain ⟨A,B,h1,h2,h3⟩:=ins_split (lt:=lt) x l;rw [h2,h1];simp;omega
theorem len_mrg : ∀ (Y X : List α),(mrg lt X Y).length = X.length + Y.length
 | [],X=>rfl
 | y :: Y,X=>by rw [mrg_cons,len_mrg,len_ins,List.length_cons];omega
theorem len_isort (l : List α) : (isort lt l).length = l.length:=by rw [isort,len_mrg];simp
theorem asc_ins (hS : SWO lt) {x : α} {l : List α} (h : Asc lt l) : Asc lt (ins lt x l):=by
 have key : ∀ l : List α,l.Pairwise (fun a b=>lt a b = false) → (insR lt x l).Pairwise (fun a b=>lt a b = false) ∧ ∀ e ∈ insR lt x l,e = x ∨ e ∈ l:=by
  intro l
  induction l with
  | nil=>intro _;simp [insR]
  | cons e l ih =>
   intro hp;rw [List.pairwise_cons] at hp;have ih:=ih hp.2;rw [insR]
   split
   ·rename_i hlt;refine ⟨List.pairwise_cons.2 ⟨fun a ha=>?_,ih.1⟩,fun a ha=>?_⟩
    ·rcases ih.2 a ha with rfl | h2
     ·cases hc : lt e a with
      | false=>rfl
      | true=>have:=hS.trans _ _ _ hlt hc;rw [hS.irrefl] at this;cases this
     exact hp.1 a h2
    rcases List.mem_cons.1 ha with rfl | h2
    ·simp
    rcases ih.2 a h2 with h | h <;> simp [h]
   rename_i hlt;have hlt : lt x e = false:=by simpa using hlt
   refine ⟨List.pairwise_cons.2 ⟨fun a ha=>?_,List.pairwise_cons.2 hp⟩,fun a ha=>by simpa using ha⟩;rcases List.mem_cons.1 ha with rfl | h2
   ·exact hlt
   exact hS.ntrans _ _ _ hlt (hp.1 a h2)
 unfold Asc at h ⊢;unfold ins;rw [List.pairwise_reverse];exact (key l.reverse (by rw [List.pairwise_reverse];exact h)).1
theorem asc_mrg (hS : SWO lt) : ∀ {Y X : List α},Asc lt X → Asc lt (mrg lt X Y)
 | [],X,h=>h
 | y :: Y,X,h=>asc_mrg hS (Y:=Y) (asc_ins hS h)
theorem asc_isort (hS : SWO lt) (l : List α) : Asc lt (isort lt l):=asc_mrg hS List.Pairwise.nil
theorem mrg_over : ∀ (Y X1 X2 : List α),(∀ y ∈ Y,∀ x ∈ X2,lt y x = true) → mrg lt (X1 ++ X2) Y = mrg lt X1 Y ++ X2
 | [],_,_,_=>rfl
 | y :: Y,X1,X2,h=>by
  rw [mrg_cons,ins_over (h y (by simp)),mrg_over Y _ X2 (fun y hy=>h y (by simp [hy])),mrg_cons]
theorem mrg_ahead : ∀ (Y W Z : List α),(∀ y ∈ Y,∀ x ∈ W,lt y x = false) → mrg lt (W ++ Z) Y = W ++ mrg lt Z Y
 | [],_,_,_=>rfl
 | y :: Y,W,Z,h=>by
  rw [mrg_cons,ins_ahead (h y (by simp)),mrg_ahead Y W _ (fun y hy=>h y (by simp [hy])),mrg_cons]
theorem mrg_split (X1 X2 Y1 Y2 : List α) (h1 : ∀ y ∈ Y1,∀ x ∈ X2,lt y x = true) (h2 : ∀ y ∈ Y2,∀ x ∈ X1,lt y x = false) (h3 : ∀ y ∈ Y2,∀ x ∈ Y1,lt y x = false) :
  mrg lt (X1 ++ X2) (Y1 ++ Y2) = mrg lt X1 Y1 ++ mrg lt X2 Y2:=by
 rw [mrg_append,mrg_over _ _ _ h1,mrg_ahead];intro y hy x hx;rcases mem_mrg.1 hx with h | h
 ·exact h2 y hy x h
 exact h3 y hy x h
theorem mrg_asc : ∀ (Y X : List α),Asc lt (X ++ Y) → mrg lt X Y = X ++ Y
 | [],X,_=>by simp [mrg_nil]
 | y :: Y,X,h=>by
  have h0:=h;unfold Asc at h;rw [List.pairwise_append] at h;have e : X ++ y :: Y = (X ++ [y]) ++ Y:=by simp
  rw [mrg_cons,ins_end (fun e he=>h.2.2 e he y (by simp)),mrg_asc Y _ (by rw [← e];exact h0),e]
theorem mrg_nil_left {Y : List α} (h : Asc lt Y) : mrg lt [] Y = Y:=mrg_asc Y [] h
theorem Asc.left {X Y : List α} (h : Asc lt (X ++ Y)) : Asc lt X:=by unfold Asc at h;exact (List.pairwise_append.1 h).1
theorem Asc.right {X Y : List α} (h : Asc lt (X ++ Y)) : Asc lt Y:=by unfold Asc at h;exact (List.pairwise_append.1 h).2.1
theorem Asc.cross {X Y : List α} (h : Asc lt (X ++ Y)) : ∀ y ∈ Y,∀ x ∈ X,lt y x = false:=fun y hy x hx=>by
 unfold Asc at h;exact (List.pairwise_append.1 h).2.2 x hx y hy
theorem le_lt (hS : SWO lt) {x y z : α} (h1 : lt y x = false) (h2 : lt y z = true) : lt x z = true:=by
 cases h : lt x z with
 | true=>rfl
 | false=>have:=hS.ntrans _ _ _ h1 h;rw [h2] at this;cases this
theorem lt_le (hS : SWO lt) {x y z : α} (h1 : lt x y = true) (h2 : lt z y = false) : lt x z = true:=by
 cases h : lt x z with
 | true=>rfl
 | false=>have:=hS.ntrans _ _ _ h h2;rw [h1] at this;cases this
theorem cross_lt (hS : SWO lt) {X Y : List α} {x y : α} (hX : Asc lt (x :: X)) (hY : Asc lt (Y ++ [y])) (h : lt y x = true) : ∀ b ∈ Y ++ [y],∀ a ∈ x :: X,lt b a = true:=by
 intro b hb a ha
 have h1 : lt b x = true:=by
  rcases List.mem_append.1 hb with hb | hb
  ·exact le_lt hS (Asc.cross hY y (by simp) b hb) h
  simp at hb;subst hb;exact h
 rcases List.mem_cons.1 ha with rfl | ha
 ·exact h1
 exact lt_le hS h1 (Asc.cross (X:=[x]) (Y:=X) hX a ha x (by simp))
theorem cross_ge (hS : SWO lt) {X Y : List α} {x y : α} (hX : Asc lt (X ++ [x])) (hY : Asc lt (y :: Y)) (h : lt y x = false) : ∀ b ∈ y :: Y,∀ a ∈ X ++ [x],lt b a = false:=by
 intro b hb a ha
 have h1 : lt b x = false:=by
  rcases List.mem_cons.1 hb with rfl | hb
  ·exact h
  exact hS.ntrans _ _ _ (Asc.cross (X:=[y]) (Y:=Y) hY b hb y (by simp)) h
 rcases List.mem_append.1 ha with ha | ha
 ·exact hS.ntrans _ _ _ h1 (Asc.cross hX x (by simp) a ha)
 simp at ha;subst ha;exact h1
variable [Inhabited α]
theorem insInner_list : ∀ (L : List α) (d : Array α) (A Q : List α) (x : α),d.toList = A ++ (L.reverse ++ x :: Q) → (insInner lt A.length (A.length + L.length) d).toList = A ++ ((insR lt x L).reverse ++ Q)
 | [],d,A,Q,x,h=>by
  rw [List.length_nil,Nat.add_zero];cases hA : A.length with
  | zero=>rw [insInner,h];simp [insR]
  | succ n=>rw [insInner,if_neg (by simp),h];simp [insR]
 | e :: L,d,A,Q,x,h=>by
  have h' : d.toList = (A ++ L.reverse) ++ e :: ([] ++ x :: Q):=by rw [h];simp
  have e1 : d[A.length + L.length]! = e:=at_list h' (by simp);have e2 : d[A.length + L.length + 1]! = x:=at_list (A:=A ++ L.reverse ++ [e]) (B:=Q) (by rw [h];simp) (by simp;omega);rw [List.length_cons,← Nat.add_assoc,insInner,e1,e2];cases hlt : lt x e with
  | false=>rw [if_neg (by simp),h];simp [insR,hlt]
  | true =>
   rw [if_pos (by simp;omega)]
   have hs : (swp d (A.length + L.length + 1) (A.length + L.length)).toList = A ++ (L.reverse ++ x :: (e :: Q)):=by
    rw [swp_comm,swp_list h' (by simp) (by simp)];simp
   rw [insInner_list L _ A (e :: Q) x hs];simp [insR,hlt]
theorem insOuter_list : ∀ (L : List α) (d : Array α) (A M Q : List α) (i b : Nat),d.toList = A ++ (M ++ (L ++ Q)) → i = A.length + M.length → b = i + L.length → (insOuter lt A.length b i d).toList = A ++ (mrg lt M L ++ Q)
 | [],d,A,M,Q,i,b,h,hi,hb=>by
  rw [insOuter,if_neg (by simp at hb;omega),h];rfl
 | x :: L,d,A,M,Q,i,b,h,hi,hb=>by
  rw [List.length_cons] at hb;rw [insOuter,if_pos (by omega)];have h1:=insInner_list (lt:=lt) M.reverse d A (L ++ Q) x (by rw [h];simp);rw [List.length_reverse,← hi] at h1;rw [insOuter_list L _ A (ins lt x M) Q (i + 1) b (by rw [h1];rfl) (by rw [len_ins];omega) (by omega),mrg_cons]
theorem insertionSort_list {d : Array α} {A M Q : List α} {a b : Nat} (h : d.toList = A ++ (M ++ Q)) (ha : a = A.length) (hb : b = a + M.length) : (insertionSort lt d a b).toList = A ++ (isort lt M ++ Q):=by
 subst ha;unfold insertionSort;cases M with
 | nil=>rw [insOuter,if_neg (by simp at hb;omega),h];rfl
 | cons x M =>
  rw [List.length_cons] at hb;exact insOuter_list M d A [x] Q _ b (by rw [h];simp) (by simp) (by omega)
omit [Inhabited α] in
theorem cutAt (Y : List α) {i : Nat} (h : i < Y.length) : Y = Y.take i ++ Y[i] :: Y.drop (i + 1):=by rw [← List.drop_eq_getElem_cons h,List.take_append_drop]
theorem at_mid {d : Array α} {A Y Q : List α} (h : d.toList = A ++ (Y ++ Q)) {i : Nat} (hi : i < Y.length) {j : Nat} (hj : j = A.length + i) : d[j]! = Y[i]:=by
 refine at_list (A:=A ++ Y.take i) (B:=Y.drop (i + 1) ++ Q) ?_ (by rw [List.length_append,List.length_take];omega);have e : Y ++ Q = (Y.take i ++ Y[i] :: Y.drop (i + 1)) ++ Q:=congrArg (· ++ Q) (cutAt Y hi);rw [h,e];simp only [List.append_assoc,List.cons_append]
theorem sym_split (hS : SWO lt) {d : Array α} {A X Y Q : List α} {a m b mid s lo hi : Nat} (hd : d.toList = A ++ (X ++ (Y ++ Q))) (ha : A.length = a) (hm : a + X.length = m) (hb : m + Y.length = b) (aX : Asc lt X) (aY : Asc lt Y)
  (hmid : mid = (a + b) / 2) (hcase : m ≤ mid ∧ lo = a ∧ hi = m ∨ mid < m ∧ lo = mid + m - b ∧ hi = mid) (h1 : lo ≤ s) (h2 : s ≤ hi) (hl : s = lo ∨ lt d[mid + m - s]! d[s - 1]! = false) (hr : s = hi ∨ lt d[mid + m - 1 - s]! d[s]! = true) :
  mrg lt X Y = mrg lt (X.take (s - a)) (Y.take (mid - s)) ++ mrg lt (X.drop (s - a)) (Y.drop (mid - s)):=by
 have aX':=aX;have aY':=aY;rw [← List.take_append_drop (s - a) X] at aX';rw [← List.take_append_drop (mid - s) Y] at aY';have hdY : d.toList = (A ++ X) ++ (Y ++ Q):=by rw [hd];simp
 have:=mrg_split (lt:=lt) (X.take (s - a)) (X.drop (s - a)) (Y.take (mid - s)) (Y.drop (mid - s)) ?_ ?_ (Asc.cross aY')
 ·rwa [List.take_append_drop,List.take_append_drop] at this
 ·by_cases hsm : s < m
  ·by_cases hsmid : s < mid
   ·have hr : lt d[mid + m - 1 - s]! d[s]! = true:=by rcases hr with h | h;omega;exact h
    rw [at_mid hd (i:=s - a) (j:=s) (by omega) (by omega),at_mid hdY (i:=mid - s - 1) (j:=mid + m - 1 - s) (by omega) (by rw [List.length_append];omega)] at hr;have e1:=List.drop_eq_getElem_cons (l:=X) (i:=s - a) (by omega);have e2:=take_next (Y:=Y) (t:=mid - s - 1) (by omega);rw [show mid - s - 1 + 1 = mid - s by omega] at e2;rw [e1] at aX' ⊢;rw [e2] at aY' ⊢;exact cross_lt hS aX'.right aY'.left hr
   rw [show mid - s = 0 by omega];simp
  rw [List.drop_eq_nil_of_le (by omega)];simp
 by_cases hsa : a < s
 ·by_cases hse : mid + m - s < b
  ·have hl : lt d[mid + m - s]! d[s - 1]! = false:=by rcases hl with h | h;omega;exact h
   rw [at_mid hd (i:=s - 1 - a) (j:=s - 1) (by omega) (by omega),at_mid hdY (i:=mid - s) (j:=mid + m - s) (by omega) (by rw [List.length_append];omega)] at hl;have e1:=List.drop_eq_getElem_cons (l:=Y) (i:=mid - s) (by omega);have e2:=take_next (Y:=X) (t:=s - 1 - a) (by omega);rw [show s - 1 - a + 1 = s - a by omega] at e2;rw [e1] at aY' ⊢;rw [e2] at aX' ⊢;exact cross_ge hS aX'.left aY'.right hl
  rw [List.drop_eq_nil_of_le (by omega)];simp
 rw [show s - a = 0 by omega];simp
omit [Inhabited α] in
theorem size_of_list {d : Array α} {l : List α} (h : d.toList = l) : d.size = l.length:=by rw [← h];simp
end Go.Proofs.YtbbfkodckpfjcaaGreat.St
